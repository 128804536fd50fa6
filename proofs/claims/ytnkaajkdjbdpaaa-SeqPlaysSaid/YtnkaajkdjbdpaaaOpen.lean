/- What a law is told of its arguments: a row of ints that came in; a pool that came in. No condition. -/
import Derived.Test.YtnkaajkdjbdpaaaRows
import Derived.Test.YtnkaajkdjbdpaaaKitA
import Derived.ProofKit
import Derived.OpenShut
import Derived.ChangeOld
import Derived.Below
import Derived.Lib.SmallJoins
namespace Go.Proofs.Ytnkaajkdjbdpaaa
open Go.ChangeShapes Go.WideShapes Go.ChangeAt Go.RowKit

theorem own_ : ownKnob Try.prog.godebug = none := by kernel_rfl
theorem laidOut : laidOutB Try.prog = true := by kernel_rfl

theorem block_lt {w : World} {b o : Nat} {v : Value} (h : w.cell? ⟨b, o, none⟩ = some v) : b < w.heap.size := World.block_lt_of_cell? w ⟨b, o, none⟩ h

abbrev i64 : Int → Value := .int .i64
end Go.Proofs.Ytnkaajkdjbdpaaa
