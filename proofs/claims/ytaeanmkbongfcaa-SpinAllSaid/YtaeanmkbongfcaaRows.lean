/-
  No cell of these rows narrows 'for every input' (looked for: loops, veiled, ifaces, maps, wideKeys, modest, calm, conditions, laid).
  DERIVED. THE GIVEN ROWS OF THIS SEAT. 5 by the template 'for every input the law returns true; each argument reads behind the call as it read before'; 0 by the template 'total and deterministic' (their statements: YtaeanmkbongfcaaTotals.lean).
  GIVEN WITH THE SEED: the statements are not yours to turn. If you find one false, say at which input.
  Laid BY PROGRAM, IN A SANDBOX (cutbox-rows.mjs): the forced cells as the released guide's own fill.sh prints them over the translation a8def5e4810987b3… (all of the seat's roots in one cut). By AI agents, Wed Nov 11 2026. No macro, syntax, notation, axiom, sorry.
-/
import Derived.Test.YtaeanmkbongfcaaChecked
import GoSem.Claim
import GoSem.ClaimJoined
import GoSem.ClaimMapViews
import Derived.JoinedTies
import Derived.KernelRfl
namespace Go.Proofs.Ytaeanmkbongfcaa
/- THE CELL 'sum', in the pinned program and in every row, IS THE sha256 OF THE DUMP (.gsa) THAT YtaeanmkbongfcaaProg.lean LOADS. Nothing in Lean hashes anything: it is a label: what it is worth is what the hold of that sum in a sandbox is worth. -/
noncomputable def Try.pinned : Pinned := { name := "ytaeanmkbongfcaa", sum := "a8def5e4810987b3a31381cb53bc9cf0358bb85ab849567f62bede62efe7d190", checked := Try.checked }
namespace Rows
def none {H : Type} : Left H := { results := [], args := [] }

/-- 'afterglowlaw05.SpinPlays': WHATEVER THE INPUT: true; the input reads as it did. -/
def spinPlaysSpec : ChangeSpec := { name := "spinPlays", fn := fun _ => fun
  | [d1, d2, d3] => { results := [.lit (.bool true)], args := [d1, d2, d3] }
  | _ => none }
def spinPlaysRow : OpenClaim := { program := "ytaeanmkbongfcaa", sum := "a8def5e4810987b3a31381cb53bc9cf0358bb85ab849567f62bede62efe7d190", func := "afterglow/afterglowlaw05.SpinPlays", spec := "spinPlays", unfollowed := true, recurses := true, apart := false }
def SpinPlaysSaid : Prop := spinPlaysRow.holds Try.pinned (OpenSpec.ofChange spinPlaysSpec)

/-- ITS FALSE NEIGHBOUR: 'it returns false'. Refute it at one input. -/
def spinPlaysWrong : ChangeSpec := { name := "spinPlays", fn := fun _ => fun
  | [d1, d2, d3] => { results := [.lit (.bool false)], args := [d1, d2, d3] }
  | _ => none }
def SpinPlaysWrongFalsely : Prop := spinPlaysRow.holds Try.pinned (OpenSpec.ofChange spinPlaysWrong)

/-- 'afterglowlaw05.SpinTakes': WHATEVER THE INPUT: true; the input reads as it did. -/
def spinTakesSpec : ChangeSpec := { name := "spinTakes", fn := fun _ => fun
  | [d1, d2] => { results := [.lit (.bool true)], args := [d1, d2] }
  | _ => none }
def spinTakesRow : OpenClaim := { program := "ytaeanmkbongfcaa", sum := "a8def5e4810987b3a31381cb53bc9cf0358bb85ab849567f62bede62efe7d190", func := "afterglow/afterglowlaw05.SpinTakes", spec := "spinTakes", unfollowed := true, recurses := true, apart := false }
def SpinTakesSaid : Prop := spinTakesRow.holds Try.pinned (OpenSpec.ofChange spinTakesSpec)

/-- ITS FALSE NEIGHBOUR: 'it returns false'. Refute it at one input. -/
def spinTakesWrong : ChangeSpec := { name := "spinTakes", fn := fun _ => fun
  | [d1, d2] => { results := [.lit (.bool false)], args := [d1, d2] }
  | _ => none }
def SpinTakesWrongFalsely : Prop := spinTakesRow.holds Try.pinned (OpenSpec.ofChange spinTakesWrong)

/-- 'afterglowlaw05.SpinSteps': WHATEVER THE INPUT: true; the input reads as it did. -/
def spinStepsSpec : ChangeSpec := { name := "spinSteps", fn := fun _ => fun
  | [d1, d2, d3] => { results := [.lit (.bool true)], args := [d1, d2, d3] }
  | _ => none }
def spinStepsRow : OpenClaim := { program := "ytaeanmkbongfcaa", sum := "a8def5e4810987b3a31381cb53bc9cf0358bb85ab849567f62bede62efe7d190", func := "afterglow/afterglowlaw05.SpinSteps", spec := "spinSteps", unfollowed := true, recurses := true, apart := false }
def SpinStepsSaid : Prop := spinStepsRow.holds Try.pinned (OpenSpec.ofChange spinStepsSpec)

/-- ITS FALSE NEIGHBOUR: 'it returns false'. Refute it at one input. -/
def spinStepsWrong : ChangeSpec := { name := "spinSteps", fn := fun _ => fun
  | [d1, d2, d3] => { results := [.lit (.bool false)], args := [d1, d2, d3] }
  | _ => none }
def SpinStepsWrongFalsely : Prop := spinStepsRow.holds Try.pinned (OpenSpec.ofChange spinStepsWrong)

/-- 'afterglowlaw05.SpinAlone': WHATEVER THE INPUT: true; the input reads as it did. -/
def spinAloneSpec : ChangeSpec := { name := "spinAlone", fn := fun _ => fun
  | [d1, d2] => { results := [.lit (.bool true)], args := [d1, d2] }
  | _ => none }
def spinAloneRow : OpenClaim := { program := "ytaeanmkbongfcaa", sum := "a8def5e4810987b3a31381cb53bc9cf0358bb85ab849567f62bede62efe7d190", func := "afterglow/afterglowlaw05.SpinAlone", spec := "spinAlone", unfollowed := true, recurses := true, apart := false }
def SpinAloneSaid : Prop := spinAloneRow.holds Try.pinned (OpenSpec.ofChange spinAloneSpec)

/-- ITS FALSE NEIGHBOUR: 'it returns false'. Refute it at one input. -/
def spinAloneWrong : ChangeSpec := { name := "spinAlone", fn := fun _ => fun
  | [d1, d2] => { results := [.lit (.bool false)], args := [d1, d2] }
  | _ => none }
def SpinAloneWrongFalsely : Prop := spinAloneRow.holds Try.pinned (OpenSpec.ofChange spinAloneWrong)

/-- 'afterglowlaw05.SpinAll': WHATEVER THE INPUT: true; the input reads as it did. -/
def spinAllSpec : ChangeSpec := { name := "spinAll", fn := fun _ => fun
  | [d1, d2] => { results := [.lit (.bool true)], args := [d1, d2] }
  | _ => none }
def spinAllRow : OpenClaim := { program := "ytaeanmkbongfcaa", sum := "a8def5e4810987b3a31381cb53bc9cf0358bb85ab849567f62bede62efe7d190", func := "afterglow/afterglowlaw05.SpinAll", spec := "spinAll", unfollowed := true, recurses := true, apart := false }
def SpinAllSaid : Prop := spinAllRow.holds Try.pinned (OpenSpec.ofChange spinAllSpec)

/-- ITS FALSE NEIGHBOUR: 'it returns false'. Refute it at one input. -/
def spinAllWrong : ChangeSpec := { name := "spinAll", fn := fun _ => fun
  | [d1, d2] => { results := [.lit (.bool false)], args := [d1, d2] }
  | _ => none }
def SpinAllWrongFalsely : Prop := spinAllRow.holds Try.pinned (OpenSpec.ofChange spinAllWrong)

/- THE SECOND FORM. 'bulk': how many values and letters a reading holds, each counted each time it is reached (what is shared counts as often as it is met; a slice's spare places count too). A statement '..UptoSaid' is the law's where the arguments, and the package variables that the reading takes, are together of bulk at most 1048576: NARROWER than '..Said'. Prove '..Said' where nothing that the law and all that it calls make is longer than what came in: it says more and counts as full. Else prove '..UptoSaid'. A law counts once. -/
mutual
def uptoBulk {H : Type} : DataW H → Nat
  | .lit (.string bytes) => bytes.length + 1
  | .lit _ => 1
  | .nil => 1
  | .ptr d => uptoBulk d + 1
  | .slice elems spare => uptoBulkAll elems + uptoBulkAll spare + 1
  | .agg parts => uptoBulkAll parts + 1
  | .iface _ d => uptoBulk d + 1
  | .map entries => uptoBulkEntries entries + 1
  | .held _ => 1
def uptoBulkAll {H : Type} : List (DataW H) → Nat
  | [] => 0
  | d :: r => uptoBulk d + uptoBulkAll r
def uptoBulkEntries {H : Type} : List (Lit × DataW H) → Nat
  | [] => 0
  | x :: r => uptoBulkEntry x + uptoBulkEntries r
def uptoBulkEntry {H : Type} : Lit × DataW H → Nat
  | (.string bytes, d) => bytes.length + uptoBulk d + 1
  | (_, d) => uptoBulk d + 1
 end
def uptoSmall : (H : Type) → List (DataW H) → Bool := fun _ ds => decide (uptoBulkAll ds ≤ 1048576)
def OpenSpec.upto (s : _root_.Go.ChangeSpec) : _root_.Go.OpenSpec := { _root_.Go.OpenSpec.ofChange s with cond := some uptoSmall }

/-- 'afterglowlaw05.SpinPlays', WHERE WHAT IT READS IS OF BULK AT MOST 1048576: true; the input reads as it did. -/
def spinPlaysUptoRow : OpenClaim := { program := "ytaeanmkbongfcaa", sum := "a8def5e4810987b3a31381cb53bc9cf0358bb85ab849567f62bede62efe7d190", func := "afterglow/afterglowlaw05.SpinPlays", spec := "spinPlays", unfollowed := true, recurses := true, apart := false, narrowed := true }
def SpinPlaysUptoSaid : Prop := spinPlaysUptoRow.holds Try.pinned (OpenSpec.upto spinPlaysSpec)

/-- 'afterglowlaw05.SpinTakes', WHERE WHAT IT READS IS OF BULK AT MOST 1048576: true; the input reads as it did. -/
def spinTakesUptoRow : OpenClaim := { program := "ytaeanmkbongfcaa", sum := "a8def5e4810987b3a31381cb53bc9cf0358bb85ab849567f62bede62efe7d190", func := "afterglow/afterglowlaw05.SpinTakes", spec := "spinTakes", unfollowed := true, recurses := true, apart := false, narrowed := true }
def SpinTakesUptoSaid : Prop := spinTakesUptoRow.holds Try.pinned (OpenSpec.upto spinTakesSpec)

/-- 'afterglowlaw05.SpinSteps', WHERE WHAT IT READS IS OF BULK AT MOST 1048576: true; the input reads as it did. -/
def spinStepsUptoRow : OpenClaim := { program := "ytaeanmkbongfcaa", sum := "a8def5e4810987b3a31381cb53bc9cf0358bb85ab849567f62bede62efe7d190", func := "afterglow/afterglowlaw05.SpinSteps", spec := "spinSteps", unfollowed := true, recurses := true, apart := false, narrowed := true }
def SpinStepsUptoSaid : Prop := spinStepsUptoRow.holds Try.pinned (OpenSpec.upto spinStepsSpec)

/-- 'afterglowlaw05.SpinAlone', WHERE WHAT IT READS IS OF BULK AT MOST 1048576: true; the input reads as it did. -/
def spinAloneUptoRow : OpenClaim := { program := "ytaeanmkbongfcaa", sum := "a8def5e4810987b3a31381cb53bc9cf0358bb85ab849567f62bede62efe7d190", func := "afterglow/afterglowlaw05.SpinAlone", spec := "spinAlone", unfollowed := true, recurses := true, apart := false, narrowed := true }
def SpinAloneUptoSaid : Prop := spinAloneUptoRow.holds Try.pinned (OpenSpec.upto spinAloneSpec)

/-- 'afterglowlaw05.SpinAll', WHERE WHAT IT READS IS OF BULK AT MOST 1048576: true; the input reads as it did. -/
def spinAllUptoRow : OpenClaim := { program := "ytaeanmkbongfcaa", sum := "a8def5e4810987b3a31381cb53bc9cf0358bb85ab849567f62bede62efe7d190", func := "afterglow/afterglowlaw05.SpinAll", spec := "spinAll", unfollowed := true, recurses := true, apart := false, narrowed := true }
def SpinAllUptoSaid : Prop := spinAllUptoRow.holds Try.pinned (OpenSpec.upto spinAllSpec)

end Rows
end Go.Proofs.Ytaeanmkbongfcaa
