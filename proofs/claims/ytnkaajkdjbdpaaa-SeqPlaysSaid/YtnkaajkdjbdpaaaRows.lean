/-
  No cell of these rows narrows 'for every input' (looked for: loops, veiled, ifaces, maps, wideKeys, modest, calm, conditions, laid).
  DERIVED. THE GIVEN ROWS OF THIS SEAT. 7 by the template 'for every input the law returns true; each argument reads behind the call as it read before'; 0 by the template 'total and deterministic' (their statements: YtnkaajkdjbdpaaaTotals.lean).
  GIVEN WITH THE SEED: the statements are not yours to turn. If you find one false, say at which input.
  Laid BY PROGRAM, IN A SANDBOX (cutbox-rows.mjs): the forced cells as the released guide's own fill.sh prints them over the translation c8fd8d23f9277256… (all of the seat's roots in one cut). By AI agents, Wed Nov 11 2026. No macro, syntax, notation, axiom, sorry.
-/
import Derived.Test.YtnkaajkdjbdpaaaChecked
import GoSem.Claim
import GoSem.ClaimJoined
import GoSem.ClaimMapViews
import Derived.JoinedTies
import Derived.KernelRfl
namespace Go.Proofs.Ytnkaajkdjbdpaaa
/- THE CELL 'sum', in the pinned program and in every row, IS THE sha256 OF THE DUMP (.gsa) THAT YtnkaajkdjbdpaaaProg.lean LOADS. Nothing in Lean hashes anything: it is a label: what it is worth is what the hold of that sum in a sandbox is worth. -/
noncomputable def Try.pinned : Pinned := { name := "ytnkaajkdjbdpaaa", sum := "c8fd8d23f9277256f0bf028a4d0120c72b3853c07c3a3eb6ab4b779835ce2443", checked := Try.checked }
namespace Rows
def none {H : Type} : Left H := { results := [], args := [] }

/-- 'afterglowlaw06.SeqBegins': WHATEVER THE INPUT: true; the input reads as it did. -/
def seqBeginsSpec : ChangeSpec := { name := "seqBegins", fn := fun _ => fun
  | [d1, d2, d3] => { results := [.lit (.bool true)], args := [d1, d2, d3] }
  | _ => none }
def seqBeginsRow : OpenClaim := { program := "ytnkaajkdjbdpaaa", sum := "c8fd8d23f9277256f0bf028a4d0120c72b3853c07c3a3eb6ab4b779835ce2443", func := "afterglow/afterglowlaw06.SeqBegins", spec := "seqBegins", unfollowed := true, recurses := true, apart := false }
def SeqBeginsSaid : Prop := seqBeginsRow.holds Try.pinned (OpenSpec.ofChange seqBeginsSpec)

/-- ITS FALSE NEIGHBOUR: 'it returns false'. Refute it at one input. -/
def seqBeginsWrong : ChangeSpec := { name := "seqBegins", fn := fun _ => fun
  | [d1, d2, d3] => { results := [.lit (.bool false)], args := [d1, d2, d3] }
  | _ => none }
def SeqBeginsWrongFalsely : Prop := seqBeginsRow.holds Try.pinned (OpenSpec.ofChange seqBeginsWrong)

/-- 'afterglowlaw06.SeqPlays': WHATEVER THE INPUT: true; the input reads as it did. -/
def seqPlaysSpec : ChangeSpec := { name := "seqPlays", fn := fun _ => fun
  | [d1, d2] => { results := [.lit (.bool true)], args := [d1, d2] }
  | _ => none }
def seqPlaysRow : OpenClaim := { program := "ytnkaajkdjbdpaaa", sum := "c8fd8d23f9277256f0bf028a4d0120c72b3853c07c3a3eb6ab4b779835ce2443", func := "afterglow/afterglowlaw06.SeqPlays", spec := "seqPlays", unfollowed := true, recurses := true, apart := false }
def SeqPlaysSaid : Prop := seqPlaysRow.holds Try.pinned (OpenSpec.ofChange seqPlaysSpec)

/-- ITS FALSE NEIGHBOUR: 'it returns false'. Refute it at one input. -/
def seqPlaysWrong : ChangeSpec := { name := "seqPlays", fn := fun _ => fun
  | [d1, d2] => { results := [.lit (.bool false)], args := [d1, d2] }
  | _ => none }
def SeqPlaysWrongFalsely : Prop := seqPlaysRow.holds Try.pinned (OpenSpec.ofChange seqPlaysWrong)

/-- 'afterglowlaw06.SeqWhole': WHATEVER THE INPUT: true; the input reads as it did. -/
def seqWholeSpec : ChangeSpec := { name := "seqWhole", fn := fun _ => fun
  | [d1, d2, d3] => { results := [.lit (.bool true)], args := [d1, d2, d3] }
  | _ => none }
def seqWholeRow : OpenClaim := { program := "ytnkaajkdjbdpaaa", sum := "c8fd8d23f9277256f0bf028a4d0120c72b3853c07c3a3eb6ab4b779835ce2443", func := "afterglow/afterglowlaw06.SeqWhole", spec := "seqWhole", unfollowed := true, recurses := true, apart := false }
def SeqWholeSaid : Prop := seqWholeRow.holds Try.pinned (OpenSpec.ofChange seqWholeSpec)

/-- ITS FALSE NEIGHBOUR: 'it returns false'. Refute it at one input. -/
def seqWholeWrong : ChangeSpec := { name := "seqWhole", fn := fun _ => fun
  | [d1, d2, d3] => { results := [.lit (.bool false)], args := [d1, d2, d3] }
  | _ => none }
def SeqWholeWrongFalsely : Prop := seqWholeRow.holds Try.pinned (OpenSpec.ofChange seqWholeWrong)

/-- 'afterglowlaw06.SeqReads': WHATEVER THE INPUT: true; the input reads as it did. -/
def seqReadsSpec : ChangeSpec := { name := "seqReads", fn := fun _ => fun
  | [d1, d2] => { results := [.lit (.bool true)], args := [d1, d2] }
  | _ => none }
def seqReadsRow : OpenClaim := { program := "ytnkaajkdjbdpaaa", sum := "c8fd8d23f9277256f0bf028a4d0120c72b3853c07c3a3eb6ab4b779835ce2443", func := "afterglow/afterglowlaw06.SeqReads", spec := "seqReads", unfollowed := true, recurses := true, apart := false }
def SeqReadsSaid : Prop := seqReadsRow.holds Try.pinned (OpenSpec.ofChange seqReadsSpec)

/-- ITS FALSE NEIGHBOUR: 'it returns false'. Refute it at one input. -/
def seqReadsWrong : ChangeSpec := { name := "seqReads", fn := fun _ => fun
  | [d1, d2] => { results := [.lit (.bool false)], args := [d1, d2] }
  | _ => none }
def SeqReadsWrongFalsely : Prop := seqReadsRow.holds Try.pinned (OpenSpec.ofChange seqReadsWrong)

/-- 'afterglowlaw06.SeqWrites': WHATEVER THE INPUT: true; the input reads as it did. -/
def seqWritesSpec : ChangeSpec := { name := "seqWrites", fn := fun _ => fun
  | [d1, d2] => { results := [.lit (.bool true)], args := [d1, d2] }
  | _ => none }
def seqWritesRow : OpenClaim := { program := "ytnkaajkdjbdpaaa", sum := "c8fd8d23f9277256f0bf028a4d0120c72b3853c07c3a3eb6ab4b779835ce2443", func := "afterglow/afterglowlaw06.SeqWrites", spec := "seqWrites", unfollowed := true, recurses := true, apart := false }
def SeqWritesSaid : Prop := seqWritesRow.holds Try.pinned (OpenSpec.ofChange seqWritesSpec)

/-- ITS FALSE NEIGHBOUR: 'it returns false'. Refute it at one input. -/
def seqWritesWrong : ChangeSpec := { name := "seqWrites", fn := fun _ => fun
  | [d1, d2] => { results := [.lit (.bool false)], args := [d1, d2] }
  | _ => none }
def SeqWritesWrongFalsely : Prop := seqWritesRow.holds Try.pinned (OpenSpec.ofChange seqWritesWrong)

/-- 'afterglowlaw06.SeqStays': WHATEVER THE INPUT: true; the input reads as it did. -/
def seqStaysSpec : ChangeSpec := { name := "seqStays", fn := fun _ => fun
  | [d1, d2, d3] => { results := [.lit (.bool true)], args := [d1, d2, d3] }
  | _ => none }
def seqStaysRow : OpenClaim := { program := "ytnkaajkdjbdpaaa", sum := "c8fd8d23f9277256f0bf028a4d0120c72b3853c07c3a3eb6ab4b779835ce2443", func := "afterglow/afterglowlaw06.SeqStays", spec := "seqStays", unfollowed := true, recurses := true, apart := false }
def SeqStaysSaid : Prop := seqStaysRow.holds Try.pinned (OpenSpec.ofChange seqStaysSpec)

/-- ITS FALSE NEIGHBOUR: 'it returns false'. Refute it at one input. -/
def seqStaysWrong : ChangeSpec := { name := "seqStays", fn := fun _ => fun
  | [d1, d2, d3] => { results := [.lit (.bool false)], args := [d1, d2, d3] }
  | _ => none }
def SeqStaysWrongFalsely : Prop := seqStaysRow.holds Try.pinned (OpenSpec.ofChange seqStaysWrong)

/-- 'afterglowlaw06.SeqAlone': WHATEVER THE INPUT: true; the input reads as it did. -/
def seqAloneSpec : ChangeSpec := { name := "seqAlone", fn := fun _ => fun
  | [d] => { results := [.lit (.bool true)], args := [d] }
  | _ => none }
def seqAloneRow : OpenClaim := { program := "ytnkaajkdjbdpaaa", sum := "c8fd8d23f9277256f0bf028a4d0120c72b3853c07c3a3eb6ab4b779835ce2443", func := "afterglow/afterglowlaw06.SeqAlone", spec := "seqAlone", unfollowed := true, recurses := true, apart := false }
def SeqAloneSaid : Prop := seqAloneRow.holds Try.pinned (OpenSpec.ofChange seqAloneSpec)

/-- ITS FALSE NEIGHBOUR: 'it returns false'. Refute it at one input. -/
def seqAloneWrong : ChangeSpec := { name := "seqAlone", fn := fun _ => fun
  | [d] => { results := [.lit (.bool false)], args := [d] }
  | _ => none }
def SeqAloneWrongFalsely : Prop := seqAloneRow.holds Try.pinned (OpenSpec.ofChange seqAloneWrong)

/- THE SECOND FORM. 'bulk': how many values and letters a reading holds, each counted each time it is reached (what is shared counts as often as it is met; a slice's spare places count too). A statement '..UptoSaid' is the law's where the arguments, and the package variables that the reading takes, are together of bulk at most 1048576: NARROWER than '..Said'. Prove '..Said' where nothing that the law and all that it calls make is longer than what came in: it says more and counts as full. Else prove '..UptoSaid'. A law counts once. -/
mutual
def uptoBulk {H : Type} : DataW H → Nat
  | .lit (.string bytes) => bytes.length + 1
  | .lit _ => 1
  | .nil => 1
  | .ptr d => uptoBulk d + 1
  | .slice elems spare => uptoBulkAll elems + uptoBulkAll spare + 1
  | .agg parts => uptoBulkAll parts + 1
  | .iface _ d => uptoBulk d + 1
  | .map entries => uptoBulkEntries entries + 1
  | .held _ => 1
def uptoBulkAll {H : Type} : List (DataW H) → Nat
  | [] => 0
  | d :: r => uptoBulk d + uptoBulkAll r
def uptoBulkEntries {H : Type} : List (Lit × DataW H) → Nat
  | [] => 0
  | x :: r => uptoBulkEntry x + uptoBulkEntries r
def uptoBulkEntry {H : Type} : Lit × DataW H → Nat
  | (.string bytes, d) => bytes.length + uptoBulk d + 1
  | (_, d) => uptoBulk d + 1
 end
def uptoSmall : (H : Type) → List (DataW H) → Bool := fun _ ds => decide (uptoBulkAll ds ≤ 1048576)
def OpenSpec.upto (s : _root_.Go.ChangeSpec) : _root_.Go.OpenSpec := { _root_.Go.OpenSpec.ofChange s with cond := some uptoSmall }

/-- 'afterglowlaw06.SeqBegins', WHERE WHAT IT READS IS OF BULK AT MOST 1048576: true; the input reads as it did. -/
def seqBeginsUptoRow : OpenClaim := { program := "ytnkaajkdjbdpaaa", sum := "c8fd8d23f9277256f0bf028a4d0120c72b3853c07c3a3eb6ab4b779835ce2443", func := "afterglow/afterglowlaw06.SeqBegins", spec := "seqBegins", unfollowed := true, recurses := true, apart := false, narrowed := true }
def SeqBeginsUptoSaid : Prop := seqBeginsUptoRow.holds Try.pinned (OpenSpec.upto seqBeginsSpec)

/-- 'afterglowlaw06.SeqPlays', WHERE WHAT IT READS IS OF BULK AT MOST 1048576: true; the input reads as it did. -/
def seqPlaysUptoRow : OpenClaim := { program := "ytnkaajkdjbdpaaa", sum := "c8fd8d23f9277256f0bf028a4d0120c72b3853c07c3a3eb6ab4b779835ce2443", func := "afterglow/afterglowlaw06.SeqPlays", spec := "seqPlays", unfollowed := true, recurses := true, apart := false, narrowed := true }
def SeqPlaysUptoSaid : Prop := seqPlaysUptoRow.holds Try.pinned (OpenSpec.upto seqPlaysSpec)

/-- 'afterglowlaw06.SeqWhole', WHERE WHAT IT READS IS OF BULK AT MOST 1048576: true; the input reads as it did. -/
def seqWholeUptoRow : OpenClaim := { program := "ytnkaajkdjbdpaaa", sum := "c8fd8d23f9277256f0bf028a4d0120c72b3853c07c3a3eb6ab4b779835ce2443", func := "afterglow/afterglowlaw06.SeqWhole", spec := "seqWhole", unfollowed := true, recurses := true, apart := false, narrowed := true }
def SeqWholeUptoSaid : Prop := seqWholeUptoRow.holds Try.pinned (OpenSpec.upto seqWholeSpec)

/-- 'afterglowlaw06.SeqReads', WHERE WHAT IT READS IS OF BULK AT MOST 1048576: true; the input reads as it did. -/
def seqReadsUptoRow : OpenClaim := { program := "ytnkaajkdjbdpaaa", sum := "c8fd8d23f9277256f0bf028a4d0120c72b3853c07c3a3eb6ab4b779835ce2443", func := "afterglow/afterglowlaw06.SeqReads", spec := "seqReads", unfollowed := true, recurses := true, apart := false, narrowed := true }
def SeqReadsUptoSaid : Prop := seqReadsUptoRow.holds Try.pinned (OpenSpec.upto seqReadsSpec)

/-- 'afterglowlaw06.SeqWrites', WHERE WHAT IT READS IS OF BULK AT MOST 1048576: true; the input reads as it did. -/
def seqWritesUptoRow : OpenClaim := { program := "ytnkaajkdjbdpaaa", sum := "c8fd8d23f9277256f0bf028a4d0120c72b3853c07c3a3eb6ab4b779835ce2443", func := "afterglow/afterglowlaw06.SeqWrites", spec := "seqWrites", unfollowed := true, recurses := true, apart := false, narrowed := true }
def SeqWritesUptoSaid : Prop := seqWritesUptoRow.holds Try.pinned (OpenSpec.upto seqWritesSpec)

/-- 'afterglowlaw06.SeqStays', WHERE WHAT IT READS IS OF BULK AT MOST 1048576: true; the input reads as it did. -/
def seqStaysUptoRow : OpenClaim := { program := "ytnkaajkdjbdpaaa", sum := "c8fd8d23f9277256f0bf028a4d0120c72b3853c07c3a3eb6ab4b779835ce2443", func := "afterglow/afterglowlaw06.SeqStays", spec := "seqStays", unfollowed := true, recurses := true, apart := false, narrowed := true }
def SeqStaysUptoSaid : Prop := seqStaysUptoRow.holds Try.pinned (OpenSpec.upto seqStaysSpec)

/-- 'afterglowlaw06.SeqAlone', WHERE WHAT IT READS IS OF BULK AT MOST 1048576: true; the input reads as it did. -/
def seqAloneUptoRow : OpenClaim := { program := "ytnkaajkdjbdpaaa", sum := "c8fd8d23f9277256f0bf028a4d0120c72b3853c07c3a3eb6ab4b779835ce2443", func := "afterglow/afterglowlaw06.SeqAlone", spec := "seqAlone", unfollowed := true, recurses := true, apart := false, narrowed := true }
def SeqAloneUptoSaid : Prop := seqAloneUptoRow.holds Try.pinned (OpenSpec.upto seqAloneSpec)

end Rows
end Go.Proofs.Ytnkaajkdjbdpaaa
