/- Memory: plain laws of steps; own of the statements, as it is used. No condition. -/
import Derived.Test.YtnkaajkdjbdpaaaMe10
import Derived.Test.YtnkaajkdjbdpaaaMOwn
namespace Go.Proofs.Ytnkaajkdjbdpaaa
open Go.RowKit
theorem Sm.lit {α : Type} {sz : Nat} {enc : α → Nat → Value} {d : α} {w : World} {e : TypeId} {cs : Array Value} {g : Nat} (xs : List α) (hg : g = w.heap.size) (hc : ∀ k, k < xs.length → ∀ j, j < sz → cs[k * sz + j]? = some (enc (xs[k]?.getD d) j)) :
    Sm sz enc d (w.alloc (.cells cs e)) 0 (w.alloc (.cells cs e)).heap.size (some ⟨g, 0, none⟩) xs.length xs := by
  subst hg
  refine ⟨rfl, fun _ => ⟨w.heap.size, 0, rfl, Nat.zero_le _, by simp, fun k hk j hj => ?_⟩⟩
  rw [Nat.zero_add, (Blk.new w e cs).cell, hc k hk j hj]
/-- what own of the statements hands back can be read, and lies apart from what was -/
theorem lown_r (A : Option Addr) (n c : Nat) (B : Option Addr) (m d : Nat) (f : Bool) (xs : List Int) (ys : List Bool) (w : World) (hx : Sl u64v 0 w 0 w.heap.size A n xs) (hy : Sl blv false w 0 w.heap.size B m ys) (hnc : n ≤ c) (hmd : m ≤ d) :
    Calls Try.prog 18 #[mv A n c B m d f] w fun e w' => ∃ A' n' c' B' m' d', e = .returned (mv A' n' c' B' m' d' f) ∧ Ow u64v w' w.heap.size 27 A' n' c' (xs.take 48) ∧ Ow blv w' w.heap.size 4 B' m' d' (ys.take 48) ∧ Below w.heap.size w w' ∧ n' ≤ 48 ∧ m' ≤ 48 := by
  refine (lown_any A n c B m d f 0 xs ys w hx hy hnc hmd).mono ?_
  rintro e w' ⟨A', c', B', d', he, h1, h2, hb⟩
  exact ⟨A', _, c', B', _, d', he, h1, h2, hb, by omega, by omega⟩
theorem set_get {α : Type} (l : List α) (k j : Nat) (v d : α) (hk : k < l.length) : (l.set k v)[j]?.getD d = if j = k then v else l[j]?.getD d := by
  by_cases h : j = k
  · subst h; rw [List.getElem?_set_self hk, if_pos rfl]; rfl
  · rw [List.getElem?_set_ne (Ne.symm h), if_neg h]
theorem mgood_set {ws : List Int} {ls : List Bool} {k : Nat} {v : Int} (hg : MGood ws ls) (hk : k < ws.length) (hl : ls[k]?.getD false = true) : MGood (ws.set k v) ls := by
  obtain ⟨⟨h1, h2, h3⟩, h4⟩ := hg
  refine ⟨⟨by simpa using h1, by simpa using h2, by simpa using h3⟩, fun j hj => ?_⟩
  unfold wordOk
  by_cases h : j = k
  · subst h; rw [hl]; rfl
  · rw [set_get ws k j v 0 hk, if_neg h]; exact h4 j (by simpa using hj)
theorem goodAt_iff {s : MSt} {i : Int} : goodAt s i = true ↔ ∃ k : Nat, i = k ∧ k < s.1.length ∧ s.2.1[k]?.getD false = true := by
  unfold goodAt
  rw [Bool.and_eq_true, decide_eq_true_eq]
  constructor
  · rintro ⟨⟨h1, h2⟩, h3⟩
    exact ⟨i.toNat, by omega, by omega, h3⟩
  · rintro ⟨k, rfl, h2, h3⟩
    exact ⟨⟨by omega, by omega⟩, by rw [Int.toNat_natCast]; exact h3⟩
/-- what an access leaves of the others -/
theorem stepM_props (s : MSt) (a : Acc) : (stepM s a).1.2.1 = s.2.1 ∧ (stepM s a).1.1.length = s.1.length ∧ (∀ k : Nat, a.2.1 ≠ (k : Int) → (stepM s a).1.1[k]?.getD 0 = s.1[k]?.getD 0) ∧ (s.2.2 = true → (stepM s a).1.2.2 = true) ∧ (MGood s.1 s.2.1 → MGood (stepM s a).1.1 (stepM s a).1.2.1) := by
  unfold stepM
  split
  · exact ⟨rfl, rfl, fun _ _ => rfl, fun _ => rfl, fun h => h⟩
  · rename_i h1
    have h2 : goodAt s a.2.1 = true := by simpa using h1
    obtain ⟨k, hk, hl, hv⟩ := goodAt_iff.1 h2
    split
    · exact ⟨rfl, rfl, fun _ _ => rfl, fun h => h, fun h => h⟩
    split
    · exact ⟨rfl, rfl, fun _ _ => rfl, fun h => h, fun h => h⟩
    · rw [hk, Int.toNat_natCast]
      refine ⟨rfl, by simp, fun j hj => ?_, fun h => h, fun h => mgood_set h hl hv⟩
      show (s.1.set k a.2.2.2)[j]?.getD 0 = _
      rw [set_get s.1 k j _ 0 hl, if_neg (by rintro rfl; exact hj rfl)]
end Go.Proofs.Ytnkaajkdjbdpaaa
