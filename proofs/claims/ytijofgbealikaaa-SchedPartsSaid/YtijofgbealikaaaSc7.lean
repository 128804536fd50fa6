/- afterglowref04: Right, Wait, has. Waits, plainly: what sched tells is what the document says. No condition but sizes. -/
import Derived.Test.YtijofgbealikaaaSc6
namespace Go.Proofs.Ytijofgbealikaaa
open Go.RowKit
/-- a CPU's wait behind the first j picks -/
def trail (xs : List Int) (c : Int) : Nat → Nat
  | 0 => 0
  | j + 1 => if xs[j]?.getD 0 = c then 0 else trail xs c j + 1
theorem trail_succ (xs : List Int) (c : Int) (j : Nat) : trail xs c (j + 1) = if xs[j]?.getD 0 = c then 0 else trail xs c j + 1 := rfl
def waitR (xs : List Int) (c : Int) : Nat := trail xs c xs.length
theorem pickL_get {l : List Int} {p k : Nat} (hk : k < l.length) : (pickL l p)[k]?.getD 0 = if p = k then 0 else l[k]?.getD 0 + 1 := by
  unfold pickL
  rw [List.getElem?_set, List.length_map]
  by_cases h : p = k
  · subst h; rw [if_pos rfl, if_pos hk, if_pos rfl]; rfl
  · rw [if_neg h, if_neg h, List.getElem?_map, List.getElem?_eq_getElem hk]; rfl
theorem wL_trail {xs : List Int} (hx : ∀ x ∈ xs, 0 ≤ x ∧ x < 8) {k : Nat} (hk : k < 8) : ∀ j, j ≤ xs.length → (wL (xs.take j))[k]?.getD 0 = trail xs k j
  | 0, _ => by
    rw [List.take_zero]
    show (List.replicate 8 (0 : Int))[k]?.getD 0 = ((trail xs k 0 : Nat) : Int)
    rw [List.getElem?_replicate]
    split <;> rfl
  | j + 1, h => by
    have ih := wL_trail hx hk j (by omega)
    rw [take_succI h, wL_snoc, pickL_get (by rw [wL_len]; exact hk), ih]
    have hb : 0 ≤ xs[j]?.getD 0 ∧ xs[j]?.getD 0 < 8 := all_at.1 hx j h
    rw [trail_succ]
    by_cases e : xs[j]?.getD 0 = (k : Int)
    · rw [if_pos e, if_pos (by rw [e]; rfl)]; rfl
    · rw [if_neg e, if_neg (by omega)]; omega
theorem wL_wait {xs : List Int} (hx : ∀ x ∈ xs, 0 ≤ x ∧ x < 8) {k : Nat} (hk : k < 8) : (wL xs)[k]?.getD 0 = waitR xs k := by
  have := wL_trail hx hk xs.length (Nat.le_refl _)
  rwa [List.take_of_length_le (Nat.le_refl _)] at this
end Go.Proofs.Ytijofgbealikaaa
