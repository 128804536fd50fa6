/-
  No cell of these rows narrows 'for every input' (looked for: loops, veiled, ifaces, maps, wideKeys, modest, calm, conditions, laid).
  DERIVED. THE GIVEN ROWS OF THIS SEAT. 3 by the template 'for every input the law returns true; each argument reads behind the call as it read before'; 0 by the template 'total and deterministic' (their statements: YtfipdoofgbjbjaaGreatTotals.lean).
  GIVEN WITH THE SEED: the statements are not yours to turn. If you find one false, say at which input.
  Laid BY PROGRAM, IN A SANDBOX (cutbox-rows.mjs): the forced cells as the released guide's own fill.sh prints them over the translation f443e53631cc9d29… (all of the seat's roots in one cut). By AI agents, Wed Nov 11 2026. No macro, syntax, notation, axiom, sorry.
-/
import Derived.Test.YtfipdoofgbjbjaaGreatChecked
import GoSem.Claim
import GoSem.ClaimJoined
import GoSem.ClaimMapViews
import Derived.JoinedTies
import Derived.KernelRfl
namespace Go.Proofs.YtfipdoofgbjbjaaGreat
/- THE CELL 'sum', in the pinned program and in every row, IS THE sha256 OF THE DUMP (.gsa) THAT YtfipdoofgbjbjaaGreatProg.lean LOADS. Nothing in Lean hashes anything: it is a label: what it is worth is what the hold of that sum in a sandbox is worth. -/
noncomputable def Tryz.pinned : Pinned := { name := "ytfipdoofgbjbjaagreat", sum := "f443e53631cc9d29ec4d1040e198f16ca4f4db3d9844ff44f1f66f2b8284125e", checked := Tryz.checked }
namespace Rows
def none {H : Type} : Left H := { results := [], args := [] }

/-- 'afterglowlaw14.RcuSteps': WHATEVER THE INPUT: true; the input reads as it did. -/
def rcuStepsSpec : ChangeSpec := { name := "rcuSteps", fn := fun _ => fun
  | [d1, d2] => { results := [.lit (.bool true)], args := [d1, d2] }
  | _ => none }
def rcuStepsRow : OpenClaim := { program := "ytfipdoofgbjbjaagreat", sum := "f443e53631cc9d29ec4d1040e198f16ca4f4db3d9844ff44f1f66f2b8284125e", func := "afterglow/afterglowlaw14.RcuSteps", spec := "rcuSteps", unfollowed := true, recurses := true, apart := false }
def RcuStepsSaid : Prop := rcuStepsRow.holds Tryz.pinned (OpenSpec.ofChange rcuStepsSpec)

/-- ITS FALSE NEIGHBOUR: 'it returns false'. Refute it at one input. -/
def rcuStepsWrong : ChangeSpec := { name := "rcuSteps", fn := fun _ => fun
  | [d1, d2] => { results := [.lit (.bool false)], args := [d1, d2] }
  | _ => none }
def RcuStepsWrongFalsely : Prop := rcuStepsRow.holds Tryz.pinned (OpenSpec.ofChange rcuStepsWrong)

/-- 'afterglowlaw14.RcuSettles': WHATEVER THE INPUT: true; the input reads as it did. -/
def rcuSettlesSpec : ChangeSpec := { name := "rcuSettles", fn := fun _ => fun
  | [d] => { results := [.lit (.bool true)], args := [d] }
  | _ => none }
def rcuSettlesRow : OpenClaim := { program := "ytfipdoofgbjbjaagreat", sum := "f443e53631cc9d29ec4d1040e198f16ca4f4db3d9844ff44f1f66f2b8284125e", func := "afterglow/afterglowlaw14.RcuSettles", spec := "rcuSettles", unfollowed := true, recurses := true, apart := false }
def RcuSettlesSaid : Prop := rcuSettlesRow.holds Tryz.pinned (OpenSpec.ofChange rcuSettlesSpec)

/-- ITS FALSE NEIGHBOUR: 'it returns false'. Refute it at one input. -/
def rcuSettlesWrong : ChangeSpec := { name := "rcuSettles", fn := fun _ => fun
  | [d] => { results := [.lit (.bool false)], args := [d] }
  | _ => none }
def RcuSettlesWrongFalsely : Prop := rcuSettlesRow.holds Tryz.pinned (OpenSpec.ofChange rcuSettlesWrong)

/-- 'afterglowlaw14.RcuRests': WHATEVER THE INPUT: true; the input reads as it did. -/
def rcuRestsSpec : ChangeSpec := { name := "rcuRests", fn := fun _ => fun
  | [d] => { results := [.lit (.bool true)], args := [d] }
  | _ => none }
def rcuRestsRow : OpenClaim := { program := "ytfipdoofgbjbjaagreat", sum := "f443e53631cc9d29ec4d1040e198f16ca4f4db3d9844ff44f1f66f2b8284125e", func := "afterglow/afterglowlaw14.RcuRests", spec := "rcuRests", unfollowed := true, recurses := true, apart := false }
def RcuRestsSaid : Prop := rcuRestsRow.holds Tryz.pinned (OpenSpec.ofChange rcuRestsSpec)

/-- ITS FALSE NEIGHBOUR: 'it returns false'. Refute it at one input. -/
def rcuRestsWrong : ChangeSpec := { name := "rcuRests", fn := fun _ => fun
  | [d] => { results := [.lit (.bool false)], args := [d] }
  | _ => none }
def RcuRestsWrongFalsely : Prop := rcuRestsRow.holds Tryz.pinned (OpenSpec.ofChange rcuRestsWrong)

/- THE SECOND FORM. 'bulk': how many values and letters a reading holds, each counted each time it is reached (what is shared counts as often as it is met; a slice's spare places count too). A statement '..UptoSaid' is the law's where the arguments, and the package variables that the reading takes, are together of bulk at most 1048576: NARROWER than '..Said'. Prove '..Said' where nothing that the law and all that it calls make is longer than what came in: it says more and counts as full. Else prove '..UptoSaid'. A law counts once. -/
mutual
def uptoBulk {H : Type} : DataW H → Nat
  | .lit (.string bytes) => bytes.length + 1
  | .lit _ => 1
  | .nil => 1
  | .ptr d => uptoBulk d + 1
  | .slice elems spare => uptoBulkAll elems + uptoBulkAll spare + 1
  | .agg parts => uptoBulkAll parts + 1
  | .iface _ d => uptoBulk d + 1
  | .map entries => uptoBulkEntries entries + 1
  | .held _ => 1
def uptoBulkAll {H : Type} : List (DataW H) → Nat
  | [] => 0
  | d :: r => uptoBulk d + uptoBulkAll r
def uptoBulkEntries {H : Type} : List (Lit × DataW H) → Nat
  | [] => 0
  | x :: r => uptoBulkEntry x + uptoBulkEntries r
def uptoBulkEntry {H : Type} : Lit × DataW H → Nat
  | (.string bytes, d) => bytes.length + uptoBulk d + 1
  | (_, d) => uptoBulk d + 1
 end
def uptoSmall : (H : Type) → List (DataW H) → Bool := fun _ ds => decide (uptoBulkAll ds ≤ 1048576)
def OpenSpec.upto (s : _root_.Go.ChangeSpec) : _root_.Go.OpenSpec := { _root_.Go.OpenSpec.ofChange s with cond := some uptoSmall }

/-- 'afterglowlaw14.RcuSteps', WHERE WHAT IT READS IS OF BULK AT MOST 1048576: true; the input reads as it did. -/
def rcuStepsUptoRow : OpenClaim := { program := "ytfipdoofgbjbjaagreat", sum := "f443e53631cc9d29ec4d1040e198f16ca4f4db3d9844ff44f1f66f2b8284125e", func := "afterglow/afterglowlaw14.RcuSteps", spec := "rcuSteps", unfollowed := true, recurses := true, apart := false, narrowed := true }
def RcuStepsUptoSaid : Prop := rcuStepsUptoRow.holds Tryz.pinned (OpenSpec.upto rcuStepsSpec)

/-- 'afterglowlaw14.RcuSettles', WHERE WHAT IT READS IS OF BULK AT MOST 1048576: true; the input reads as it did. -/
def rcuSettlesUptoRow : OpenClaim := { program := "ytfipdoofgbjbjaagreat", sum := "f443e53631cc9d29ec4d1040e198f16ca4f4db3d9844ff44f1f66f2b8284125e", func := "afterglow/afterglowlaw14.RcuSettles", spec := "rcuSettles", unfollowed := true, recurses := true, apart := false, narrowed := true }
def RcuSettlesUptoSaid : Prop := rcuSettlesUptoRow.holds Tryz.pinned (OpenSpec.upto rcuSettlesSpec)

/-- 'afterglowlaw14.RcuRests', WHERE WHAT IT READS IS OF BULK AT MOST 1048576: true; the input reads as it did. -/
def rcuRestsUptoRow : OpenClaim := { program := "ytfipdoofgbjbjaagreat", sum := "f443e53631cc9d29ec4d1040e198f16ca4f4db3d9844ff44f1f66f2b8284125e", func := "afterglow/afterglowlaw14.RcuRests", spec := "rcuRests", unfollowed := true, recurses := true, apart := false, narrowed := true }
def RcuRestsUptoSaid : Prop := rcuRestsUptoRow.holds Tryz.pinned (OpenSpec.upto rcuRestsSpec)

end Rows
end Go.Proofs.YtfipdoofgbjbjaaGreat
