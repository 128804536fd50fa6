/- afterglowref04: Places. No condition but sizes. -/
import Derived.Test.YtijofgbealikaaaSc7
namespace Go.Proofs.Ytijofgbealikaaa
open Go.RowKit
/-- the places of a CPU's picks, of the first j -/
def plF (xs : List Int) (q : Int) : Nat → List Int
  | 0 => []
  | j + 1 => if xs[j]?.getD 0 = q then plF xs q j ++ [(j : Int)] else plF xs q j
theorem plF_succ (xs : List Int) (q : Int) (j : Nat) : plF xs q (j + 1) = if xs[j]?.getD 0 = q then plF xs q j ++ [(j : Int)] else plF xs q j := rfl
theorem plF_len (xs : List Int) (q : Int) : ∀ j, (plF xs q j).length ≤ j
  | 0 => Nat.le_refl _
  | j + 1 => by
    have := plF_len xs q j
    rw [plF_succ]
    split
    · rw [List.length_append, List.length_singleton]; omega
    · omega
def placesL (xs : List Int) (q : Int) : List Int := plF xs q xs.length
end Go.Proofs.Ytijofgbealikaaa
