/- afterglowref04: Right, Wait, has. Waits, plainly: what sched tells is what the document says. No condition but sizes. -/
import Derived.Test.YtijofgbealikaaaSc6
namespace Go.Proofs.Ytijofgbealikaaa
open Go.RowKit
/-- a CPU's wait behind the first j picks -/
def trail (xs : List Int) (c : Int) : Nat → Nat
  | 0 => 0
  | j + 1 => if xs[j]?.getD 0 = c then 0 else trail xs c j + 1
theorem trail_succ (xs : List Int) (c : Int) (j : Nat) : trail xs c (j + 1) = if xs[j]?.getD 0 = c then 0 else trail xs c j + 1 := rfl
def waitR (xs : List Int) (c : Int) : Nat := trail xs c xs.length
theorem pickL_get {l : List Int} {p k : Nat} (hk : k < l.length) : (pickL l p)[k]?.getD 0 = if p = k then 0 else l[k]?.getD 0 + 1 := by
  unfold pickL
  rw [List.getElem?_set, List.length_map]
  by_cases h : p = k
  · subst h; rw [if_pos rfl, if_pos hk, if_pos rfl]; rfl
  · rw [if_neg h, if_neg h, List.getElem?_map, List.getElem?_eq_getElem hk]; rfl
end Go.Proofs.Ytijofgbealikaaa
