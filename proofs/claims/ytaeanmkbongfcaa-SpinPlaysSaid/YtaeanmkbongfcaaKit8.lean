/- General words, eighth part: copy onto a whole new row; rows out of blocks. No condition. -/
import Derived.Test.YtaeanmkbongfcaaKitM
import Derived.Laws.CopyOwn
namespace Go.Proofs.Ytaeanmkbongfcaa
open Go.RowKit
/-- the run of a copy over the whole of a row -/
theorem run_copy_full {P : Program} {w : World} {α : Type} (enc : α → Value) (dd : α) (dT sT ty elem : TypeId) (hu : P.underlying dT = some (.slice elem)) (hsz : (P.info? elem).map (·.size) = some 1)
    (g n c sc : Nat) (A : Option Addr) (cur : Array Value) (t : TypeId) (hg : Blk w g t cur) (hcur : cur.size = n) (lo hi : Nat) (xs : List α) (hr : Sl enc dd w lo hi A n xs) (h1 : ∀ y, (enc y).oneCell' = true) :
    (Builtin.copy_ #[dT, sT] ty #[.slice (some ⟨g, 0, none⟩) n c, .slice A n sc]).run P w = .ok (.int .i64 n) (w.setRow g (xs.map enc).toArray) := by
  have hl := hr.len
  by_cases h0 : n = 0
  · subst h0
    obtain rfl : xs = [] := List.eq_nil_of_length_eq_zero hl
    obtain rfl : cur = #[] := Array.eq_empty_of_size_eq_zero hcur
    have e : w.setRow g (List.map enc []).toArray = w := setRow_self w g #[] t (0, 0) hg
    rw [e]
    exact run_copy_none w dT sT ty elem _ _ 0 c 0 sc hu hsz rfl
  · obtain ⟨b, off, rfl, _, _, hc⟩ := hr.row (by omega)
    have hrun := run_copy_row (P := P) w dT sT ty elem g 0 n c ⟨b, off, none⟩ n sc cur t (xs.map enc) hu hsz hg (by simp [hl, Nat.min_def])
      (fun j v hj => by
        have hj' : j < n := by have := (List.getElem?_eq_some_iff.1 hj).1; rwa [List.length_map, hl] at this
        rw [Addr.add_lit, hc j hj', ← hj, List.getElem?_map, List.getElem?_eq_getElem (by rw [hl]; exact hj')]
        rfl) (by simp [hl, hcur]) (fun v hv => by obtain ⟨y, _, rfl⟩ := List.mem_map.1 hv; exact h1 y)
    have e : (cur.toList.take 0 ++ (xs.map enc ++ cur.toList.drop (0 + (xs.map enc).length))) = xs.map enc := by
      have : cur.toList.drop (0 + (xs.map enc).length) = [] := List.drop_eq_nil_of_le (by simp [hl, hcur])
      rw [this]; simp
    rw [hrun]
    simp only [← List.append_assoc] at e ⊢
    simp only [List.append_assoc] at e ⊢
    rw [e, List.length_map, hl]
    rfl
/-- a block known whole is an owned row -/
theorem Blk.ow {α : Type} {enc : α → Value} {w : World} {g : Nat} {e : TypeId} {cs : Array Value} {xs : List α} {n lo : Nat} (h : Blk w g e cs) (hcs : cs = (xs.map enc).toArray) (hn : xs.length = n) (hlo : lo ≤ g) (hm : n ≤ maxLen) : Ow enc w lo e (some ⟨g, 0, none⟩) n n xs := by
  subst hcs
  refine ⟨hn, by simp [hn], .inr ⟨g, n, (xs.map enc).toArray, rfl, hlo, h, Nat.le_refl _, hm, by simp [hn], ?_⟩⟩
  simp [hn, List.take_of_length_le]
theorem below_setRow' {B : Nat} {a w : World} (h : Below B a w) {g : Nat} (hg : B ≤ g) (cs : Array Value) : Below B a (w.setRow g cs) := below_setRow h hg cs
theorem Sl.setRow' {α : Type} {enc : α → Value} {d : α} {w : World} {lo hi : Nat} {A : Option Addr} {n : Nat} {xs : List α} (h : Sl enc d w lo hi A n xs) {g : Nat} (hg : hi ≤ g) (cs : Array Value) : Sl enc d (w.setRow g cs) lo hi A n xs := h.setRow (.inr hg) cs
theorem Sl.sub {α : Type} {enc : α → Value} {d : α} {w : World} {lo hi b off n : Nat} {xs : List α} (h : Sl enc d w lo hi (some ⟨b, off, none⟩) n xs) {i k : Nat} (hik : i + k ≤ n) : Sl enc d w lo hi (some ⟨b, off + i, none⟩) k ((xs.drop i).take k) := by
  refine ⟨by have := h.len; simp; omega, fun hn => ?_⟩
  obtain ⟨b', off', e, h1, h2, h3⟩ := h.row (by omega)
  obtain ⟨rfl, rfl⟩ : b = b' ∧ off = off' := by simpa using e
  refine ⟨b, off + i, rfl, h1, h2, fun j hj => ?_⟩
  rw [Nat.add_assoc, h3 (i + j) (by omega), List.getElem?_take, if_pos hj, List.getElem?_drop]
/-- a row whose places i .. i+k-1 hold v -/
def setR {α : Type} (xs : List α) (i : Nat) (v : α) : Nat → List α
  | 0 => xs
  | k + 1 => (setR xs i v k).set (i + k) v
theorem setR_length {α : Type} (xs : List α) (i : Nat) (v : α) (k : Nat) : (setR xs i v k).length = xs.length := by
  induction k with
  | zero => rfl
  | succ k ih => simp [setR, ih]
theorem setR_get {α : Type} (xs : List α) (i : Nat) (v : α) (k j : Nat) (d : α) (hk : i + k ≤ xs.length) : (setR xs i v k)[j]?.getD d = if i ≤ j ∧ j < i + k then v else xs[j]?.getD d := by
  induction k with
  | zero => rw [if_neg (by omega)]; rfl
  | succ k ih =>
    rw [setR, List.getElem?_set]
    by_cases e : i + k = j
    · subst e
      rw [if_pos rfl, if_pos (by rw [setR_length]; omega), if_pos (by omega)]
      rfl
    · rw [if_neg e, ih (by omega)]
      by_cases h : i ≤ j ∧ j < i + k
      · rw [if_pos h, if_pos (by omega)]
      · rw [if_neg h, if_neg (by omega)]
theorem Ow.far {α : Type} {enc : α → Value} {W : World} {lo : Nat} {e : TypeId} {ga n c : Nat} {xs : List α} (h : Ow enc W lo e (some ⟨ga, 0, none⟩) n c xs) {p : Addr} (hp : ga ≠ p.block) (u : Value) : Ow enc (W.setCell p u) lo e (some ⟨ga, 0, none⟩) n c xs := by
  refine ⟨h.len, h.own.1, ?_⟩
  rcases h.own.2 with ⟨hv, _⟩ | ⟨g, cap, cur, hv, hb1, hgg, r⟩
  · simp at hv
  · simp only [Value.slice.injEq, Option.some.injEq, Addr.mk.injEq] at hv
    obtain ⟨⟨rfl, _⟩, _⟩ := hv
    exact .inr ⟨ga, cap, cur, by simp_all, hb1, (Below.heap_setCell W p u ga hp).trans hgg, r⟩
end Go.Proofs.Ytaeanmkbongfcaa
