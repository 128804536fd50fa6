/-
  No cell of these rows narrows 'for every input' (looked for: loops, veiled, ifaces, maps, wideKeys, modest, calm, conditions, laid).
  DERIVED. THE GIVEN ROWS OF THIS SEAT. 5 by the template 'for every input the law returns true; each argument reads behind the call as it read before'; 0 by the template 'total and deterministic' (their statements: YtenhojdhjfoomaaTotals.lean).
  GIVEN WITH THE SEED: the statements are not yours to turn. If you find one false, say at which input.
  Laid BY PROGRAM, IN A SANDBOX (cutbox-rows.mjs): the forced cells as the released guide's own fill.sh prints them over the translation b32c24c29f3d4d6e… (all of the seat's roots in one cut). By AI agents, Wed Nov 11 2026. No macro, syntax, notation, axiom, sorry.
-/
import Derived.Test.YtenhojdhjfoomaaChecked
import GoSem.Claim
import GoSem.ClaimJoined
import GoSem.ClaimMapViews
import Derived.JoinedTies
import Derived.KernelRfl
namespace Go.Proofs.Ytenhojdhjfoomaa
/- THE CELL 'sum', in the pinned program and in every row, IS THE sha256 OF THE DUMP (.gsa) THAT YtenhojdhjfoomaaProg.lean LOADS. Nothing in Lean hashes anything: it is a label: what it is worth is what the hold of that sum in a sandbox is worth. -/
noncomputable def Try.pinned : Pinned := { name := "ytenhojdhjfoomaa", sum := "b32c24c29f3d4d6e46d328149dff60b9e174e2ec2dc5ad551a6119af1c7697bc", checked := Try.checked }
namespace Rows
def none {H : Type} : Left H := { results := [], args := [] }

/-- 'afterglowlaw02.MemoryTags': WHATEVER THE INPUT: true; the input reads as it did. -/
def memoryTagsSpec : ChangeSpec := { name := "memoryTags", fn := fun _ => fun
  | [d1, d2] => { results := [.lit (.bool true)], args := [d1, d2] }
  | _ => none }
def memoryTagsRow : OpenClaim := { program := "ytenhojdhjfoomaa", sum := "b32c24c29f3d4d6e46d328149dff60b9e174e2ec2dc5ad551a6119af1c7697bc", func := "afterglow/afterglowlaw02.MemoryTags", spec := "memoryTags", unfollowed := true, recurses := true, apart := false }
def MemoryTagsSaid : Prop := memoryTagsRow.holds Try.pinned (OpenSpec.ofChange memoryTagsSpec)

/-- ITS FALSE NEIGHBOUR: 'it returns false'. Refute it at one input. -/
def memoryTagsWrong : ChangeSpec := { name := "memoryTags", fn := fun _ => fun
  | [d1, d2] => { results := [.lit (.bool false)], args := [d1, d2] }
  | _ => none }
def MemoryTagsWrongFalsely : Prop := memoryTagsRow.holds Try.pinned (OpenSpec.ofChange memoryTagsWrong)

/-- 'afterglowlaw02.MemorySteps': WHATEVER THE INPUT: true; the input reads as it did. -/
def memoryStepsSpec : ChangeSpec := { name := "memorySteps", fn := fun _ => fun
  | [d1, d2] => { results := [.lit (.bool true)], args := [d1, d2] }
  | _ => none }
def memoryStepsRow : OpenClaim := { program := "ytenhojdhjfoomaa", sum := "b32c24c29f3d4d6e46d328149dff60b9e174e2ec2dc5ad551a6119af1c7697bc", func := "afterglow/afterglowlaw02.MemorySteps", spec := "memorySteps", unfollowed := true, recurses := true, apart := false }
def MemoryStepsSaid : Prop := memoryStepsRow.holds Try.pinned (OpenSpec.ofChange memoryStepsSpec)

/-- ITS FALSE NEIGHBOUR: 'it returns false'. Refute it at one input. -/
def memoryStepsWrong : ChangeSpec := { name := "memorySteps", fn := fun _ => fun
  | [d1, d2] => { results := [.lit (.bool false)], args := [d1, d2] }
  | _ => none }
def MemoryStepsWrongFalsely : Prop := memoryStepsRow.holds Try.pinned (OpenSpec.ofChange memoryStepsWrong)

/-- 'afterglowlaw02.MemoryHolds': WHATEVER THE INPUT: true; the input reads as it did. -/
def memoryHoldsSpec : ChangeSpec := { name := "memoryHolds", fn := fun _ => fun
  | [d1, d2, d3] => { results := [.lit (.bool true)], args := [d1, d2, d3] }
  | _ => none }
def memoryHoldsRow : OpenClaim := { program := "ytenhojdhjfoomaa", sum := "b32c24c29f3d4d6e46d328149dff60b9e174e2ec2dc5ad551a6119af1c7697bc", func := "afterglow/afterglowlaw02.MemoryHolds", spec := "memoryHolds", unfollowed := true, recurses := true, apart := false }
def MemoryHoldsSaid : Prop := memoryHoldsRow.holds Try.pinned (OpenSpec.ofChange memoryHoldsSpec)

/-- ITS FALSE NEIGHBOUR: 'it returns false'. Refute it at one input. -/
def memoryHoldsWrong : ChangeSpec := { name := "memoryHolds", fn := fun _ => fun
  | [d1, d2, d3] => { results := [.lit (.bool false)], args := [d1, d2, d3] }
  | _ => none }
def MemoryHoldsWrongFalsely : Prop := memoryHoldsRow.holds Try.pinned (OpenSpec.ofChange memoryHoldsWrong)

/-- 'afterglowlaw02.MemorySwaps': WHATEVER THE INPUT: true; the input reads as it did. -/
def memorySwapsSpec : ChangeSpec := { name := "memorySwaps", fn := fun _ => fun
  | [d1, d2, d3] => { results := [.lit (.bool true)], args := [d1, d2, d3] }
  | _ => none }
def memorySwapsRow : OpenClaim := { program := "ytenhojdhjfoomaa", sum := "b32c24c29f3d4d6e46d328149dff60b9e174e2ec2dc5ad551a6119af1c7697bc", func := "afterglow/afterglowlaw02.MemorySwaps", spec := "memorySwaps", unfollowed := true, recurses := true, apart := false }
def MemorySwapsSaid : Prop := memorySwapsRow.holds Try.pinned (OpenSpec.ofChange memorySwapsSpec)

/-- ITS FALSE NEIGHBOUR: 'it returns false'. Refute it at one input. -/
def memorySwapsWrong : ChangeSpec := { name := "memorySwaps", fn := fun _ => fun
  | [d1, d2, d3] => { results := [.lit (.bool false)], args := [d1, d2, d3] }
  | _ => none }
def MemorySwapsWrongFalsely : Prop := memorySwapsRow.holds Try.pinned (OpenSpec.ofChange memorySwapsWrong)

/-- 'afterglowlaw02.MemoryTurns': WHATEVER THE INPUT: true; the input reads as it did. -/
def memoryTurnsSpec : ChangeSpec := { name := "memoryTurns", fn := fun _ => fun
  | [d1, d2, d3] => { results := [.lit (.bool true)], args := [d1, d2, d3] }
  | _ => none }
def memoryTurnsRow : OpenClaim := { program := "ytenhojdhjfoomaa", sum := "b32c24c29f3d4d6e46d328149dff60b9e174e2ec2dc5ad551a6119af1c7697bc", func := "afterglow/afterglowlaw02.MemoryTurns", spec := "memoryTurns", unfollowed := true, recurses := true, apart := false }
def MemoryTurnsSaid : Prop := memoryTurnsRow.holds Try.pinned (OpenSpec.ofChange memoryTurnsSpec)

/-- ITS FALSE NEIGHBOUR: 'it returns false'. Refute it at one input. -/
def memoryTurnsWrong : ChangeSpec := { name := "memoryTurns", fn := fun _ => fun
  | [d1, d2, d3] => { results := [.lit (.bool false)], args := [d1, d2, d3] }
  | _ => none }
def MemoryTurnsWrongFalsely : Prop := memoryTurnsRow.holds Try.pinned (OpenSpec.ofChange memoryTurnsWrong)

/- THE SECOND FORM. 'bulk': how many values and letters a reading holds, each counted each time it is reached (what is shared counts as often as it is met; a slice's spare places count too). A statement '..UptoSaid' is the law's where the arguments, and the package variables that the reading takes, are together of bulk at most 1048576: NARROWER than '..Said'. Prove '..Said' where nothing that the law and all that it calls make is longer than what came in: it says more and counts as full. Else prove '..UptoSaid'. A law counts once. -/
mutual
def uptoBulk {H : Type} : DataW H → Nat
  | .lit (.string bytes) => bytes.length + 1
  | .lit _ => 1
  | .nil => 1
  | .ptr d => uptoBulk d + 1
  | .slice elems spare => uptoBulkAll elems + uptoBulkAll spare + 1
  | .agg parts => uptoBulkAll parts + 1
  | .iface _ d => uptoBulk d + 1
  | .map entries => uptoBulkEntries entries + 1
  | .held _ => 1
def uptoBulkAll {H : Type} : List (DataW H) → Nat
  | [] => 0
  | d :: r => uptoBulk d + uptoBulkAll r
def uptoBulkEntries {H : Type} : List (Lit × DataW H) → Nat
  | [] => 0
  | x :: r => uptoBulkEntry x + uptoBulkEntries r
def uptoBulkEntry {H : Type} : Lit × DataW H → Nat
  | (.string bytes, d) => bytes.length + uptoBulk d + 1
  | (_, d) => uptoBulk d + 1
 end
def uptoSmall : (H : Type) → List (DataW H) → Bool := fun _ ds => decide (uptoBulkAll ds ≤ 1048576)
def OpenSpec.upto (s : _root_.Go.ChangeSpec) : _root_.Go.OpenSpec := { _root_.Go.OpenSpec.ofChange s with cond := some uptoSmall }

/-- 'afterglowlaw02.MemoryTags', WHERE WHAT IT READS IS OF BULK AT MOST 1048576: true; the input reads as it did. -/
def memoryTagsUptoRow : OpenClaim := { program := "ytenhojdhjfoomaa", sum := "b32c24c29f3d4d6e46d328149dff60b9e174e2ec2dc5ad551a6119af1c7697bc", func := "afterglow/afterglowlaw02.MemoryTags", spec := "memoryTags", unfollowed := true, recurses := true, apart := false, narrowed := true }
def MemoryTagsUptoSaid : Prop := memoryTagsUptoRow.holds Try.pinned (OpenSpec.upto memoryTagsSpec)

/-- 'afterglowlaw02.MemorySteps', WHERE WHAT IT READS IS OF BULK AT MOST 1048576: true; the input reads as it did. -/
def memoryStepsUptoRow : OpenClaim := { program := "ytenhojdhjfoomaa", sum := "b32c24c29f3d4d6e46d328149dff60b9e174e2ec2dc5ad551a6119af1c7697bc", func := "afterglow/afterglowlaw02.MemorySteps", spec := "memorySteps", unfollowed := true, recurses := true, apart := false, narrowed := true }
def MemoryStepsUptoSaid : Prop := memoryStepsUptoRow.holds Try.pinned (OpenSpec.upto memoryStepsSpec)

/-- 'afterglowlaw02.MemoryHolds', WHERE WHAT IT READS IS OF BULK AT MOST 1048576: true; the input reads as it did. -/
def memoryHoldsUptoRow : OpenClaim := { program := "ytenhojdhjfoomaa", sum := "b32c24c29f3d4d6e46d328149dff60b9e174e2ec2dc5ad551a6119af1c7697bc", func := "afterglow/afterglowlaw02.MemoryHolds", spec := "memoryHolds", unfollowed := true, recurses := true, apart := false, narrowed := true }
def MemoryHoldsUptoSaid : Prop := memoryHoldsUptoRow.holds Try.pinned (OpenSpec.upto memoryHoldsSpec)

/-- 'afterglowlaw02.MemorySwaps', WHERE WHAT IT READS IS OF BULK AT MOST 1048576: true; the input reads as it did. -/
def memorySwapsUptoRow : OpenClaim := { program := "ytenhojdhjfoomaa", sum := "b32c24c29f3d4d6e46d328149dff60b9e174e2ec2dc5ad551a6119af1c7697bc", func := "afterglow/afterglowlaw02.MemorySwaps", spec := "memorySwaps", unfollowed := true, recurses := true, apart := false, narrowed := true }
def MemorySwapsUptoSaid : Prop := memorySwapsUptoRow.holds Try.pinned (OpenSpec.upto memorySwapsSpec)

/-- 'afterglowlaw02.MemoryTurns', WHERE WHAT IT READS IS OF BULK AT MOST 1048576: true; the input reads as it did. -/
def memoryTurnsUptoRow : OpenClaim := { program := "ytenhojdhjfoomaa", sum := "b32c24c29f3d4d6e46d328149dff60b9e174e2ec2dc5ad551a6119af1c7697bc", func := "afterglow/afterglowlaw02.MemoryTurns", spec := "memoryTurns", unfollowed := true, recurses := true, apart := false, narrowed := true }
def MemoryTurnsUptoSaid : Prop := memoryTurnsUptoRow.holds Try.pinned (OpenSpec.upto memoryTurnsSpec)

end Rows
end Go.Proofs.Ytenhojdhjfoomaa
