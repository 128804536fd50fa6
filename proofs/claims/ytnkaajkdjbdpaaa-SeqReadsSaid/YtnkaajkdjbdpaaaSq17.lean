/- Chapter 06: own of the statements, owned; what a read's step leaves as it was. No condition but sizes. -/
import Derived.Test.YtnkaajkdjbdpaaaSq16
import Derived.Test.YtnkaajkdjbdpaaaSqP
namespace Go.Proofs.Ytnkaajkdjbdpaaa
open Go.RowKit
theorem mown_of {W : World} {lo n c m d : Nat} {A B : Option Addr} {ws : List Int} {ls : List Bool} (oa : Ow u64v W lo 27 A n c ws) (ob : Ow blv W lo 4 B m d ls) (hn : n ≤ 100000) (hm : m ≤ 100000) : Mown W lo A n c B m d ws ls :=
  ⟨oa, ob, fun a b ha hb e => by
    obtain ⟨_, ca, h1⟩ := oa.blk a ha
    obtain ⟨_, cb, h2⟩ := ob.blk b hb
    rw [e] at h1
    exact absurd rfl (Blk.ne h1 h2 (by decide)), hn, hm⟩
def LoPost (xs : List Int) (ys : List Bool) (f : Bool) (w : World) (e : Ending) (w' : World) : Prop :=
  ∃ A n c B k d, e = .returned (mv A n c B k d f) ∧ Mown w' w.heap.size A n c B k d (xs.take 48) (ys.take 48) ∧ Below w.heap.size w w'
theorem lawown_any (A : Option Addr) (n c : Nat) (B : Option Addr) (m d : Nat) (f : Bool) (xs : List Int) (ys : List Bool) (w : World) (hx : Sl u64v 0 w 0 w.heap.size A n xs) (hy : Sl blv false w 0 w.heap.size B m ys) (hnc : n ≤ c) (hmd : m ≤ d) :
    Calls Try.prog 18 #[mv A n c B m d f] w (LoPost xs ys f w) := by
  refine (lown_r A n c B m d f xs ys w hx hy hnc hmd).mono ?_
  rintro e w' ⟨A', n', c', B', m', d', he, oa, ob, hb, hn, hm⟩
  exact ⟨A', n', c', B', m', d', he, mown_of oa ob (by omega) (by omega), hb⟩
/-- a load leaves the words as they were -/
theorem load_keeps (m : MSt) (a : Int) : (stepM m (1, a, 0, 0)).1 = (m.1, m.2.1, m.2.2 || !(stepM m (1, a, 0, 0)).2.2) := by
  unfold stepM
  split
  · simp
  · dsimp only
    rw [if_pos rfl]
    simp
theorem sreadF_keeps (m : MSt) (s : Srd) (h : RdOkS s) : (sreadF m s).1.1 = m.1 ∧ (sreadF m s).1.2.1 = m.2.1 ∧ (sreadF m s).1.2.2 = (m.2.2 || (decide ((sreadF m s).2.ph = 5) && !decide (s.ph = 5))) ∧
    s.tr ≤ (sreadF m s).2.tr ∧ (sreadF m s).2.tr ≤ s.tr + 1 ∧ (4 ≤ s.ph → (sreadF m s) = (m, s)) := by
  obtain ⟨a, f, mn, ph, bg, vs, tr⟩ := s
  obtain ⟨h1, h2, h3, h4, h5, h6⟩ := h
  dsimp only at h4 h5
  unfold sreadF srun
  dsimp only
  by_cases p0 : ph = 0
  · subst p0
    rw [if_pos rfl]
    have hk := load_keeps m a
    unfold rbegin
    dsimp only
    split
    · rename_i hx
      rw [hx.1] at hk
      dsimp only
      rw [if_neg (fun h => Bool.noConfusion h), hk]
      refine ⟨rfl, rfl, ?_, Int.le_refl _, by dsimp only; omega, fun h => absurd h (by decide)⟩
      dsimp only
      split <;> simp
    · dsimp only
      rw [hk]
      cases (stepM m (1, a, 0, 0)).2.2
      · refine ⟨rfl, rfl, ?_, Int.le_refl _, by simp; omega, fun h => absurd h (by decide)⟩
        simp
      · refine ⟨rfl, rfl, ?_, Int.le_refl _, by simp; omega, fun h => absurd h (by decide)⟩
        simp
  rw [if_neg p0]
  by_cases p2 : ph = 2
  · subst p2
    rw [if_pos rfl]
    have hk := load_keeps m (f + vs.length)
    unfold rdata
    dsimp only
    split
    · rename_i hx
      rw [hx] at hk
      dsimp only
      rw [if_neg (fun h => Bool.noConfusion h), hk]
      refine ⟨rfl, rfl, ?_, Int.le_refl _, by dsimp only; omega, fun h => absurd h (by decide)⟩
      dsimp only
      split <;> simp
    · rename_i hx
      rw [show (stepM m (1, f + vs.length, 0, 0)).2.2 = false by simpa using hx] at hk
      dsimp only
      rw [if_pos rfl, hk]
      refine ⟨rfl, rfl, ?_, Int.le_refl _, by dsimp only; omega, fun h => absurd h (by decide)⟩
      simp
  rw [if_neg p2]
  by_cases p3 : ph = 3
  · subst p3
    rw [if_pos rfl]
    have hk := load_keeps m a
    unfold rclose
    dsimp only
    split
    · rename_i hx
      rw [hx] at hk
      dsimp only
      rw [if_neg (fun h => Bool.noConfusion h), hk]
      split
      · refine ⟨rfl, rfl, ?_, Int.le_refl _, by dsimp only; omega, fun h => absurd h (by decide)⟩
        simp
      · refine ⟨rfl, rfl, ?_, by dsimp only; omega, by dsimp only; omega, fun h => absurd h (by decide)⟩
        simp
    · rename_i hx
      rw [show (stepM m (1, a, 0, 0)).2.2 = false by simpa using hx] at hk
      dsimp only
      rw [if_pos rfl, hk]
      refine ⟨rfl, rfl, ?_, Int.le_refl _, by dsimp only; omega, fun h => absurd h (by decide)⟩
      simp
  rw [if_neg p3]
  refine ⟨rfl, rfl, ?_, Int.le_refl _, by simp; omega, fun _ => rfl⟩
  simp
end Go.Proofs.Ytnkaajkdjbdpaaa
