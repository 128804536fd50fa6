/- What a law is told of rows of three words that came in. No condition. -/
import Derived.Test.YtnkaajkdjbdpaaaOpenMe
import Derived.OpenShut
namespace Go.Proofs.Ytnkaajkdjbdpaaa
open Go.ChangeShapes Go.WideShapes Go.ChangeAt Go.RowKit Go.Joins
abbrev Trp := Int × Int × Int
def encT (x : Trp) : Nat → Value
  | 0 => .int .u64 x.1
  | 1 => .int .u64 x.2.1
  | _ => .int .u64 x.2.2
def TrpOk (x : Trp) : Prop := (0 ≤ x.1 ∧ x.1 ≤ 18446744073709551615) ∧ (0 ≤ x.2.1 ∧ x.2.1 ≤ 18446744073709551615) ∧ (0 ≤ x.2.2 ∧ x.2.2 ≤ 18446744073709551615)
section
variable {H : Type} {enc : TypeId × Value → H} {w : World} {base : Nat} {spare : Nat → Bool} {held : Bool}
end
end Go.Proofs.Ytnkaajkdjbdpaaa
