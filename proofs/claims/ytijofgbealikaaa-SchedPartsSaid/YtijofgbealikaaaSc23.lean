/- afterglowref04: Can, Mend. No condition but sizes. -/
import Derived.Test.YtijofgbealikaaaSc22
namespace Go.Proofs.Ytijofgbealikaaa
open Go.RowKit
/-- waits of the first j CPUs -/
def wts (xs : List Int) (j : Nat) : List Int := (List.range j).map fun q : Nat => (waitR xs q : Int)
end Go.Proofs.Ytijofgbealikaaa
