/-
  No cell of these rows narrows 'for every input' (looked for: loops, veiled, ifaces, maps, wideKeys, modest, calm, conditions, laid).
  DERIVED. THE GIVEN ROWS OF THIS SEAT. 5 by the template 'for every input the law returns true; each argument reads behind the call as it read before'; 0 by the template 'total and deterministic' (their statements: YtbibfjncjklclaaTotals.lean).
  GIVEN WITH THE SEED: the statements are not yours to turn. If you find one false, say at which input.
  Laid BY PROGRAM, IN A SANDBOX (cutbox-rows.mjs): the forced cells as the released guide's own fill.sh prints them over the translation 4046436136386a16… (all of the seat's roots in one cut). By AI agents, Wed Nov 11 2026. No macro, syntax, notation, axiom, sorry.
-/
import Derived.Test.YtbibfjncjklclaaChecked
import GoSem.Claim
import GoSem.ClaimJoined
import GoSem.ClaimMapViews
import Derived.JoinedTies
import Derived.KernelRfl
namespace Go.Proofs.Ytbibfjncjklclaa
/- THE CELL 'sum', in the pinned program and in every row, IS THE sha256 OF THE DUMP (.gsa) THAT YtbibfjncjklclaaProg.lean LOADS. Nothing in Lean hashes anything: it is a label: what it is worth is what the hold of that sum in a sandbox is worth. -/
noncomputable def Try.pinned : Pinned := { name := "ytbibfjncjklclaa", sum := "4046436136386a1629a0b3765fc3a8837113e35fa0d174ad618b2a8362045d4c", checked := Try.checked }
namespace Rows
def none {H : Type} : Left H := { results := [], args := [] }

/-- 'afterglowlaw12.GracePlays': WHATEVER THE INPUT: true; the input reads as it did. -/
def gracePlaysSpec : ChangeSpec := { name := "gracePlays", fn := fun _ => fun
  | [d1, d2, d3] => { results := [.lit (.bool true)], args := [d1, d2, d3] }
  | _ => none }
def gracePlaysRow : OpenClaim := { program := "ytbibfjncjklclaa", sum := "4046436136386a1629a0b3765fc3a8837113e35fa0d174ad618b2a8362045d4c", func := "afterglow/afterglowlaw12.GracePlays", spec := "gracePlays", unfollowed := true, recurses := true, apart := false }
def GracePlaysSaid : Prop := gracePlaysRow.holds Try.pinned (OpenSpec.ofChange gracePlaysSpec)

/-- ITS FALSE NEIGHBOUR: 'it returns false'. Refute it at one input. -/
def gracePlaysWrong : ChangeSpec := { name := "gracePlays", fn := fun _ => fun
  | [d1, d2, d3] => { results := [.lit (.bool false)], args := [d1, d2, d3] }
  | _ => none }
def GracePlaysWrongFalsely : Prop := gracePlaysRow.holds Try.pinned (OpenSpec.ofChange gracePlaysWrong)

/-- 'afterglowlaw12.GraceEnds': WHATEVER THE INPUT: true; the input reads as it did. -/
def graceEndsSpec : ChangeSpec := { name := "graceEnds", fn := fun _ => fun
  | [d1, d2] => { results := [.lit (.bool true)], args := [d1, d2] }
  | _ => none }
def graceEndsRow : OpenClaim := { program := "ytbibfjncjklclaa", sum := "4046436136386a1629a0b3765fc3a8837113e35fa0d174ad618b2a8362045d4c", func := "afterglow/afterglowlaw12.GraceEnds", spec := "graceEnds", unfollowed := true, recurses := true, apart := false }
def GraceEndsSaid : Prop := graceEndsRow.holds Try.pinned (OpenSpec.ofChange graceEndsSpec)

/-- ITS FALSE NEIGHBOUR: 'it returns false'. Refute it at one input. -/
def graceEndsWrong : ChangeSpec := { name := "graceEnds", fn := fun _ => fun
  | [d1, d2] => { results := [.lit (.bool false)], args := [d1, d2] }
  | _ => none }
def GraceEndsWrongFalsely : Prop := graceEndsRow.holds Try.pinned (OpenSpec.ofChange graceEndsWrong)

/-- 'afterglowlaw12.GraceStays': WHATEVER THE INPUT: true; the input reads as it did. -/
def graceStaysSpec : ChangeSpec := { name := "graceStays", fn := fun _ => fun
  | [d1, d2] => { results := [.lit (.bool true)], args := [d1, d2] }
  | _ => none }
def graceStaysRow : OpenClaim := { program := "ytbibfjncjklclaa", sum := "4046436136386a1629a0b3765fc3a8837113e35fa0d174ad618b2a8362045d4c", func := "afterglow/afterglowlaw12.GraceStays", spec := "graceStays", unfollowed := true, recurses := true, apart := false }
def GraceStaysSaid : Prop := graceStaysRow.holds Try.pinned (OpenSpec.ofChange graceStaysSpec)

/-- ITS FALSE NEIGHBOUR: 'it returns false'. Refute it at one input. -/
def graceStaysWrong : ChangeSpec := { name := "graceStays", fn := fun _ => fun
  | [d1, d2] => { results := [.lit (.bool false)], args := [d1, d2] }
  | _ => none }
def GraceStaysWrongFalsely : Prop := graceStaysRow.holds Try.pinned (OpenSpec.ofChange graceStaysWrong)

/-- 'afterglowlaw12.GraceSteps': WHATEVER THE INPUT: true; the input reads as it did. -/
def graceStepsSpec : ChangeSpec := { name := "graceSteps", fn := fun _ => fun
  | [d1, d2, d3] => { results := [.lit (.bool true)], args := [d1, d2, d3] }
  | _ => none }
def graceStepsRow : OpenClaim := { program := "ytbibfjncjklclaa", sum := "4046436136386a1629a0b3765fc3a8837113e35fa0d174ad618b2a8362045d4c", func := "afterglow/afterglowlaw12.GraceSteps", spec := "graceSteps", unfollowed := true, recurses := true, apart := false }
def GraceStepsSaid : Prop := graceStepsRow.holds Try.pinned (OpenSpec.ofChange graceStepsSpec)

/-- ITS FALSE NEIGHBOUR: 'it returns false'. Refute it at one input. -/
def graceStepsWrong : ChangeSpec := { name := "graceSteps", fn := fun _ => fun
  | [d1, d2, d3] => { results := [.lit (.bool false)], args := [d1, d2, d3] }
  | _ => none }
def GraceStepsWrongFalsely : Prop := graceStepsRow.holds Try.pinned (OpenSpec.ofChange graceStepsWrong)

/-- 'afterglowlaw12.GraceWaits': WHATEVER THE INPUT: true; the input reads as it did. -/
def graceWaitsSpec : ChangeSpec := { name := "graceWaits", fn := fun _ => fun
  | [d1, d2] => { results := [.lit (.bool true)], args := [d1, d2] }
  | _ => none }
def graceWaitsRow : OpenClaim := { program := "ytbibfjncjklclaa", sum := "4046436136386a1629a0b3765fc3a8837113e35fa0d174ad618b2a8362045d4c", func := "afterglow/afterglowlaw12.GraceWaits", spec := "graceWaits", unfollowed := true, recurses := true, apart := false }
def GraceWaitsSaid : Prop := graceWaitsRow.holds Try.pinned (OpenSpec.ofChange graceWaitsSpec)

/-- ITS FALSE NEIGHBOUR: 'it returns false'. Refute it at one input. -/
def graceWaitsWrong : ChangeSpec := { name := "graceWaits", fn := fun _ => fun
  | [d1, d2] => { results := [.lit (.bool false)], args := [d1, d2] }
  | _ => none }
def GraceWaitsWrongFalsely : Prop := graceWaitsRow.holds Try.pinned (OpenSpec.ofChange graceWaitsWrong)

/- THE SECOND FORM. 'bulk': how many values and letters a reading holds, each counted each time it is reached (what is shared counts as often as it is met; a slice's spare places count too). A statement '..UptoSaid' is the law's where the arguments, and the package variables that the reading takes, are together of bulk at most 1048576: NARROWER than '..Said'. Prove '..Said' where nothing that the law and all that it calls make is longer than what came in: it says more and counts as full. Else prove '..UptoSaid'. A law counts once. -/
mutual
def uptoBulk {H : Type} : DataW H → Nat
  | .lit (.string bytes) => bytes.length + 1
  | .lit _ => 1
  | .nil => 1
  | .ptr d => uptoBulk d + 1
  | .slice elems spare => uptoBulkAll elems + uptoBulkAll spare + 1
  | .agg parts => uptoBulkAll parts + 1
  | .iface _ d => uptoBulk d + 1
  | .map entries => uptoBulkEntries entries + 1
  | .held _ => 1
def uptoBulkAll {H : Type} : List (DataW H) → Nat
  | [] => 0
  | d :: r => uptoBulk d + uptoBulkAll r
def uptoBulkEntries {H : Type} : List (Lit × DataW H) → Nat
  | [] => 0
  | x :: r => uptoBulkEntry x + uptoBulkEntries r
def uptoBulkEntry {H : Type} : Lit × DataW H → Nat
  | (.string bytes, d) => bytes.length + uptoBulk d + 1
  | (_, d) => uptoBulk d + 1
 end
def uptoSmall : (H : Type) → List (DataW H) → Bool := fun _ ds => decide (uptoBulkAll ds ≤ 1048576)
def OpenSpec.upto (s : _root_.Go.ChangeSpec) : _root_.Go.OpenSpec := { _root_.Go.OpenSpec.ofChange s with cond := some uptoSmall }

/-- 'afterglowlaw12.GracePlays', WHERE WHAT IT READS IS OF BULK AT MOST 1048576: true; the input reads as it did. -/
def gracePlaysUptoRow : OpenClaim := { program := "ytbibfjncjklclaa", sum := "4046436136386a1629a0b3765fc3a8837113e35fa0d174ad618b2a8362045d4c", func := "afterglow/afterglowlaw12.GracePlays", spec := "gracePlays", unfollowed := true, recurses := true, apart := false, narrowed := true }
def GracePlaysUptoSaid : Prop := gracePlaysUptoRow.holds Try.pinned (OpenSpec.upto gracePlaysSpec)

/-- 'afterglowlaw12.GraceEnds', WHERE WHAT IT READS IS OF BULK AT MOST 1048576: true; the input reads as it did. -/
def graceEndsUptoRow : OpenClaim := { program := "ytbibfjncjklclaa", sum := "4046436136386a1629a0b3765fc3a8837113e35fa0d174ad618b2a8362045d4c", func := "afterglow/afterglowlaw12.GraceEnds", spec := "graceEnds", unfollowed := true, recurses := true, apart := false, narrowed := true }
def GraceEndsUptoSaid : Prop := graceEndsUptoRow.holds Try.pinned (OpenSpec.upto graceEndsSpec)

/-- 'afterglowlaw12.GraceStays', WHERE WHAT IT READS IS OF BULK AT MOST 1048576: true; the input reads as it did. -/
def graceStaysUptoRow : OpenClaim := { program := "ytbibfjncjklclaa", sum := "4046436136386a1629a0b3765fc3a8837113e35fa0d174ad618b2a8362045d4c", func := "afterglow/afterglowlaw12.GraceStays", spec := "graceStays", unfollowed := true, recurses := true, apart := false, narrowed := true }
def GraceStaysUptoSaid : Prop := graceStaysUptoRow.holds Try.pinned (OpenSpec.upto graceStaysSpec)

/-- 'afterglowlaw12.GraceSteps', WHERE WHAT IT READS IS OF BULK AT MOST 1048576: true; the input reads as it did. -/
def graceStepsUptoRow : OpenClaim := { program := "ytbibfjncjklclaa", sum := "4046436136386a1629a0b3765fc3a8837113e35fa0d174ad618b2a8362045d4c", func := "afterglow/afterglowlaw12.GraceSteps", spec := "graceSteps", unfollowed := true, recurses := true, apart := false, narrowed := true }
def GraceStepsUptoSaid : Prop := graceStepsUptoRow.holds Try.pinned (OpenSpec.upto graceStepsSpec)

/-- 'afterglowlaw12.GraceWaits', WHERE WHAT IT READS IS OF BULK AT MOST 1048576: true; the input reads as it did. -/
def graceWaitsUptoRow : OpenClaim := { program := "ytbibfjncjklclaa", sum := "4046436136386a1629a0b3765fc3a8837113e35fa0d174ad618b2a8362045d4c", func := "afterglow/afterglowlaw12.GraceWaits", spec := "graceWaits", unfollowed := true, recurses := true, apart := false, narrowed := true }
def GraceWaitsUptoSaid : Prop := graceWaitsUptoRow.holds Try.pinned (OpenSpec.upto graceWaitsSpec)

end Rows
end Go.Proofs.Ytbibfjncjklclaa
