/-
  No cell of these rows narrows 'for every input' (looked for: loops, veiled, ifaces, maps, wideKeys, modest, calm, conditions, laid).
  DERIVED. THE GIVEN ROWS OF THIS SEAT. 3 by the template 'for every input the law returns true; each argument reads behind the call as it read before'; 0 by the template 'total and deterministic' (their statements: YtannechjcdgeeaaTotals.lean).
  GIVEN WITH THE SEED: the statements are not yours to turn. If you find one false, say at which input.
  Laid BY PROGRAM, IN A SANDBOX (cutbox-rows.mjs): the forced cells as the released guide's own fill.sh prints them over the translation 3502b247cd020ee3… (all of the seat's roots in one cut). By AI agents, Wed Nov 11 2026. No macro, syntax, notation, axiom, sorry.
-/
import Derived.Test.YtannechjcdgeeaaChecked
import GoSem.Claim
import GoSem.ClaimJoined
import GoSem.ClaimMapViews
import Derived.JoinedTies
import Derived.KernelRfl
namespace Go.Proofs.Ytannechjcdgeeaa
/- THE CELL 'sum', in the pinned program and in every row, IS THE sha256 OF THE DUMP (.gsa) THAT YtannechjcdgeeaaProg.lean LOADS. Nothing in Lean hashes anything: it is a label: what it is worth is what the hold of that sum in a sandbox is worth. -/
noncomputable def Try.pinned : Pinned := { name := "ytannechjcdgeeaa", sum := "3502b247cd020ee3fa8f929492d9fdb11f62369af31bd7544ce056e6b37d237d", checked := Try.checked }
namespace Rows
def none {H : Type} : Left H := { results := [], args := [] }

/-- 'afterglowlaw11.ReaderStays': WHATEVER THE INPUT: true; the input reads as it did. -/
def readerStaysSpec : ChangeSpec := { name := "readerStays", fn := fun _ => fun
  | [d1, d2, d3] => { results := [.lit (.bool true)], args := [d1, d2, d3] }
  | _ => none }
def readerStaysRow : OpenClaim := { program := "ytannechjcdgeeaa", sum := "3502b247cd020ee3fa8f929492d9fdb11f62369af31bd7544ce056e6b37d237d", func := "afterglow/afterglowlaw11.ReaderStays", spec := "readerStays", unfollowed := true, recurses := true, apart := false }
def ReaderStaysSaid : Prop := readerStaysRow.holds Try.pinned (OpenSpec.ofChange readerStaysSpec)

/-- ITS FALSE NEIGHBOUR: 'it returns false'. Refute it at one input. -/
def readerStaysWrong : ChangeSpec := { name := "readerStays", fn := fun _ => fun
  | [d1, d2, d3] => { results := [.lit (.bool false)], args := [d1, d2, d3] }
  | _ => none }
def ReaderStaysWrongFalsely : Prop := readerStaysRow.holds Try.pinned (OpenSpec.ofChange readerStaysWrong)

/-- 'afterglowlaw11.ReaderRuns': WHATEVER THE INPUT: true; the input reads as it did. -/
def readerRunsSpec : ChangeSpec := { name := "readerRuns", fn := fun _ => fun
  | [d1, d2] => { results := [.lit (.bool true)], args := [d1, d2] }
  | _ => none }
def readerRunsRow : OpenClaim := { program := "ytannechjcdgeeaa", sum := "3502b247cd020ee3fa8f929492d9fdb11f62369af31bd7544ce056e6b37d237d", func := "afterglow/afterglowlaw11.ReaderRuns", spec := "readerRuns", unfollowed := true, recurses := true, apart := false }
def ReaderRunsSaid : Prop := readerRunsRow.holds Try.pinned (OpenSpec.ofChange readerRunsSpec)

/-- ITS FALSE NEIGHBOUR: 'it returns false'. Refute it at one input. -/
def readerRunsWrong : ChangeSpec := { name := "readerRuns", fn := fun _ => fun
  | [d1, d2] => { results := [.lit (.bool false)], args := [d1, d2] }
  | _ => none }
def ReaderRunsWrongFalsely : Prop := readerRunsRow.holds Try.pinned (OpenSpec.ofChange readerRunsWrong)

/-- 'afterglowlaw11.ReaderBack': WHATEVER THE INPUT: true; the input reads as it did. -/
def readerBackSpec : ChangeSpec := { name := "readerBack", fn := fun _ => fun
  | [d1, d2] => { results := [.lit (.bool true)], args := [d1, d2] }
  | _ => none }
def readerBackRow : OpenClaim := { program := "ytannechjcdgeeaa", sum := "3502b247cd020ee3fa8f929492d9fdb11f62369af31bd7544ce056e6b37d237d", func := "afterglow/afterglowlaw11.ReaderBack", spec := "readerBack", unfollowed := true, recurses := true, apart := false }
def ReaderBackSaid : Prop := readerBackRow.holds Try.pinned (OpenSpec.ofChange readerBackSpec)

/-- ITS FALSE NEIGHBOUR: 'it returns false'. Refute it at one input. -/
def readerBackWrong : ChangeSpec := { name := "readerBack", fn := fun _ => fun
  | [d1, d2] => { results := [.lit (.bool false)], args := [d1, d2] }
  | _ => none }
def ReaderBackWrongFalsely : Prop := readerBackRow.holds Try.pinned (OpenSpec.ofChange readerBackWrong)

/- THE SECOND FORM. 'bulk': how many values and letters a reading holds, each counted each time it is reached (what is shared counts as often as it is met; a slice's spare places count too). A statement '..UptoSaid' is the law's where the arguments, and the package variables that the reading takes, are together of bulk at most 1048576: NARROWER than '..Said'. Prove '..Said' where nothing that the law and all that it calls make is longer than what came in: it says more and counts as full. Else prove '..UptoSaid'. A law counts once. -/
mutual
def uptoBulk {H : Type} : DataW H → Nat
  | .lit (.string bytes) => bytes.length + 1
  | .lit _ => 1
  | .nil => 1
  | .ptr d => uptoBulk d + 1
  | .slice elems spare => uptoBulkAll elems + uptoBulkAll spare + 1
  | .agg parts => uptoBulkAll parts + 1
  | .iface _ d => uptoBulk d + 1
  | .map entries => uptoBulkEntries entries + 1
  | .held _ => 1
def uptoBulkAll {H : Type} : List (DataW H) → Nat
  | [] => 0
  | d :: r => uptoBulk d + uptoBulkAll r
def uptoBulkEntries {H : Type} : List (Lit × DataW H) → Nat
  | [] => 0
  | x :: r => uptoBulkEntry x + uptoBulkEntries r
def uptoBulkEntry {H : Type} : Lit × DataW H → Nat
  | (.string bytes, d) => bytes.length + uptoBulk d + 1
  | (_, d) => uptoBulk d + 1
 end
def uptoSmall : (H : Type) → List (DataW H) → Bool := fun _ ds => decide (uptoBulkAll ds ≤ 1048576)
def OpenSpec.upto (s : _root_.Go.ChangeSpec) : _root_.Go.OpenSpec := { _root_.Go.OpenSpec.ofChange s with cond := some uptoSmall }

/-- 'afterglowlaw11.ReaderStays', WHERE WHAT IT READS IS OF BULK AT MOST 1048576: true; the input reads as it did. -/
def readerStaysUptoRow : OpenClaim := { program := "ytannechjcdgeeaa", sum := "3502b247cd020ee3fa8f929492d9fdb11f62369af31bd7544ce056e6b37d237d", func := "afterglow/afterglowlaw11.ReaderStays", spec := "readerStays", unfollowed := true, recurses := true, apart := false, narrowed := true }
def ReaderStaysUptoSaid : Prop := readerStaysUptoRow.holds Try.pinned (OpenSpec.upto readerStaysSpec)

/-- 'afterglowlaw11.ReaderRuns', WHERE WHAT IT READS IS OF BULK AT MOST 1048576: true; the input reads as it did. -/
def readerRunsUptoRow : OpenClaim := { program := "ytannechjcdgeeaa", sum := "3502b247cd020ee3fa8f929492d9fdb11f62369af31bd7544ce056e6b37d237d", func := "afterglow/afterglowlaw11.ReaderRuns", spec := "readerRuns", unfollowed := true, recurses := true, apart := false, narrowed := true }
def ReaderRunsUptoSaid : Prop := readerRunsUptoRow.holds Try.pinned (OpenSpec.upto readerRunsSpec)

/-- 'afterglowlaw11.ReaderBack', WHERE WHAT IT READS IS OF BULK AT MOST 1048576: true; the input reads as it did. -/
def readerBackUptoRow : OpenClaim := { program := "ytannechjcdgeeaa", sum := "3502b247cd020ee3fa8f929492d9fdb11f62369af31bd7544ce056e6b37d237d", func := "afterglow/afterglowlaw11.ReaderBack", spec := "readerBack", unfollowed := true, recurses := true, apart := false, narrowed := true }
def ReaderBackUptoSaid : Prop := readerBackUptoRow.holds Try.pinned (OpenSpec.upto readerBackSpec)

end Rows
end Go.Proofs.Ytannechjcdgeeaa
