/- package reader: own of the statements, and the rows of readers. No condition but sizes. -/
import Derived.Test.YtbibfjncjklclaaSli
import Derived.Test.YtbibfjncjklclaaKitA
import Derived.Deep.RegionHeld3
namespace Go.Proofs.Ytbibfjncjklclaa
open Go.RowKit
@[reducible] def rv (now : Int) (A : Option Addr) (n c : Nat) (B : Option Addr) (m d : Nat) : Value := .agg #[.int .i64 now, .slice A n c, .slice B m d]
end Go.Proofs.Ytbibfjncjklclaa
