/-
  No cell of these rows narrows 'for every input' (looked for: loops, veiled, ifaces, maps, wideKeys, modest, calm, conditions, laid).
  DERIVED. THE GIVEN ROWS OF THIS SEAT. 5 by the template 'for every input the law returns true; each argument reads behind the call as it read before'; 0 by the template 'total and deterministic' (their statements: YtijofgbealikaaaTotals.lean).
  GIVEN WITH THE SEED: the statements are not yours to turn. If you find one false, say at which input.
  Laid BY PROGRAM, IN A SANDBOX (cutbox-rows.mjs): the forced cells as the released guide's own fill.sh prints them over the translation 66922d31fb7753ec… (all of the seat's roots in one cut). By AI agents, Wed Nov 11 2026. No macro, syntax, notation, axiom, sorry.
-/
import Derived.Test.YtijofgbealikaaaChecked
import GoSem.Claim
import GoSem.ClaimJoined
import GoSem.ClaimMapViews
import Derived.JoinedTies
import Derived.KernelRfl
namespace Go.Proofs.Ytijofgbealikaaa
/- THE CELL 'sum', in the pinned program and in every row, IS THE sha256 OF THE DUMP (.gsa) THAT YtijofgbealikaaaProg.lean LOADS. Nothing in Lean hashes anything: it is a label: what it is worth is what the hold of that sum in a sandbox is worth. -/
noncomputable def Try.pinned : Pinned := { name := "ytijofgbealikaaa", sum := "66922d31fb7753ec5fa558a501c9b139535725bf8b7426b3b024ee3f3aaae82a", checked := Try.checked }
namespace Rows
def none {H : Type} : Left H := { results := [], args := [] }

/-- 'afterglowlaw04.SchedTells': WHATEVER THE INPUT: true; the input reads as it did. -/
def schedTellsSpec : ChangeSpec := { name := "schedTells", fn := fun _ => fun
  | [d1, d2, d3] => { results := [.lit (.bool true)], args := [d1, d2, d3] }
  | _ => none }
def schedTellsRow : OpenClaim := { program := "ytijofgbealikaaa", sum := "66922d31fb7753ec5fa558a501c9b139535725bf8b7426b3b024ee3f3aaae82a", func := "afterglow/afterglowlaw04.SchedTells", spec := "schedTells", unfollowed := true, recurses := true, apart := false }
def SchedTellsSaid : Prop := schedTellsRow.holds Try.pinned (OpenSpec.ofChange schedTellsSpec)

/-- ITS FALSE NEIGHBOUR: 'it returns false'. Refute it at one input. -/
def schedTellsWrong : ChangeSpec := { name := "schedTells", fn := fun _ => fun
  | [d1, d2, d3] => { results := [.lit (.bool false)], args := [d1, d2, d3] }
  | _ => none }
def SchedTellsWrongFalsely : Prop := schedTellsRow.holds Try.pinned (OpenSpec.ofChange schedTellsWrong)

/-- 'afterglowlaw04.SchedMends': WHATEVER THE INPUT: true; the input reads as it did. -/
def schedMendsSpec : ChangeSpec := { name := "schedMends", fn := fun _ => fun
  | [d1, d2, d3] => { results := [.lit (.bool true)], args := [d1, d2, d3] }
  | _ => none }
def schedMendsRow : OpenClaim := { program := "ytijofgbealikaaa", sum := "66922d31fb7753ec5fa558a501c9b139535725bf8b7426b3b024ee3f3aaae82a", func := "afterglow/afterglowlaw04.SchedMends", spec := "schedMends", unfollowed := true, recurses := true, apart := false }
def SchedMendsSaid : Prop := schedMendsRow.holds Try.pinned (OpenSpec.ofChange schedMendsSpec)

/-- ITS FALSE NEIGHBOUR: 'it returns false'. Refute it at one input. -/
def schedMendsWrong : ChangeSpec := { name := "schedMends", fn := fun _ => fun
  | [d1, d2, d3] => { results := [.lit (.bool false)], args := [d1, d2, d3] }
  | _ => none }
def SchedMendsWrongFalsely : Prop := schedMendsRow.holds Try.pinned (OpenSpec.ofChange schedMendsWrong)

/-- 'afterglowlaw04.SchedFair': WHATEVER THE INPUT: true; the input reads as it did. -/
def schedFairSpec : ChangeSpec := { name := "schedFair", fn := fun _ => fun
  | [d1, d2, d3] => { results := [.lit (.bool true)], args := [d1, d2, d3] }
  | _ => none }
def schedFairRow : OpenClaim := { program := "ytijofgbealikaaa", sum := "66922d31fb7753ec5fa558a501c9b139535725bf8b7426b3b024ee3f3aaae82a", func := "afterglow/afterglowlaw04.SchedFair", spec := "schedFair", unfollowed := true, recurses := true, apart := false }
def SchedFairSaid : Prop := schedFairRow.holds Try.pinned (OpenSpec.ofChange schedFairSpec)

/-- ITS FALSE NEIGHBOUR: 'it returns false'. Refute it at one input. -/
def schedFairWrong : ChangeSpec := { name := "schedFair", fn := fun _ => fun
  | [d1, d2, d3] => { results := [.lit (.bool false)], args := [d1, d2, d3] }
  | _ => none }
def SchedFairWrongFalsely : Prop := schedFairRow.holds Try.pinned (OpenSpec.ofChange schedFairWrong)

/-- 'afterglowlaw04.SchedParts': WHATEVER THE INPUT: true; the input reads as it did. -/
def schedPartsSpec : ChangeSpec := { name := "schedParts", fn := fun _ => fun
  | [d1, d2, d3] => { results := [.lit (.bool true)], args := [d1, d2, d3] }
  | _ => none }
def schedPartsRow : OpenClaim := { program := "ytijofgbealikaaa", sum := "66922d31fb7753ec5fa558a501c9b139535725bf8b7426b3b024ee3f3aaae82a", func := "afterglow/afterglowlaw04.SchedParts", spec := "schedParts", unfollowed := true, recurses := true, apart := false }
def SchedPartsSaid : Prop := schedPartsRow.holds Try.pinned (OpenSpec.ofChange schedPartsSpec)

/-- ITS FALSE NEIGHBOUR: 'it returns false'. Refute it at one input. -/
def schedPartsWrong : ChangeSpec := { name := "schedParts", fn := fun _ => fun
  | [d1, d2, d3] => { results := [.lit (.bool false)], args := [d1, d2, d3] }
  | _ => none }
def SchedPartsWrongFalsely : Prop := schedPartsRow.holds Try.pinned (OpenSpec.ofChange schedPartsWrong)

/-- 'afterglowlaw04.SchedWaits': WHATEVER THE INPUT: true; the input reads as it did. -/
def schedWaitsSpec : ChangeSpec := { name := "schedWaits", fn := fun _ => fun
  | [d1, d2, d3] => { results := [.lit (.bool true)], args := [d1, d2, d3] }
  | _ => none }
def schedWaitsRow : OpenClaim := { program := "ytijofgbealikaaa", sum := "66922d31fb7753ec5fa558a501c9b139535725bf8b7426b3b024ee3f3aaae82a", func := "afterglow/afterglowlaw04.SchedWaits", spec := "schedWaits", unfollowed := true, recurses := true, apart := false }
def SchedWaitsSaid : Prop := schedWaitsRow.holds Try.pinned (OpenSpec.ofChange schedWaitsSpec)

/-- ITS FALSE NEIGHBOUR: 'it returns false'. Refute it at one input. -/
def schedWaitsWrong : ChangeSpec := { name := "schedWaits", fn := fun _ => fun
  | [d1, d2, d3] => { results := [.lit (.bool false)], args := [d1, d2, d3] }
  | _ => none }
def SchedWaitsWrongFalsely : Prop := schedWaitsRow.holds Try.pinned (OpenSpec.ofChange schedWaitsWrong)

/- THE SECOND FORM. 'bulk': how many values and letters a reading holds, each counted each time it is reached (what is shared counts as often as it is met; a slice's spare places count too). A statement '..UptoSaid' is the law's where the arguments, and the package variables that the reading takes, are together of bulk at most 1048576: NARROWER than '..Said'. Prove '..Said' where nothing that the law and all that it calls make is longer than what came in: it says more and counts as full. Else prove '..UptoSaid'. A law counts once. -/
mutual
def uptoBulk {H : Type} : DataW H → Nat
  | .lit (.string bytes) => bytes.length + 1
  | .lit _ => 1
  | .nil => 1
  | .ptr d => uptoBulk d + 1
  | .slice elems spare => uptoBulkAll elems + uptoBulkAll spare + 1
  | .agg parts => uptoBulkAll parts + 1
  | .iface _ d => uptoBulk d + 1
  | .map entries => uptoBulkEntries entries + 1
  | .held _ => 1
def uptoBulkAll {H : Type} : List (DataW H) → Nat
  | [] => 0
  | d :: r => uptoBulk d + uptoBulkAll r
def uptoBulkEntries {H : Type} : List (Lit × DataW H) → Nat
  | [] => 0
  | x :: r => uptoBulkEntry x + uptoBulkEntries r
def uptoBulkEntry {H : Type} : Lit × DataW H → Nat
  | (.string bytes, d) => bytes.length + uptoBulk d + 1
  | (_, d) => uptoBulk d + 1
 end
def uptoSmall : (H : Type) → List (DataW H) → Bool := fun _ ds => decide (uptoBulkAll ds ≤ 1048576)
def OpenSpec.upto (s : _root_.Go.ChangeSpec) : _root_.Go.OpenSpec := { _root_.Go.OpenSpec.ofChange s with cond := some uptoSmall }

/-- 'afterglowlaw04.SchedTells', WHERE WHAT IT READS IS OF BULK AT MOST 1048576: true; the input reads as it did. -/
def schedTellsUptoRow : OpenClaim := { program := "ytijofgbealikaaa", sum := "66922d31fb7753ec5fa558a501c9b139535725bf8b7426b3b024ee3f3aaae82a", func := "afterglow/afterglowlaw04.SchedTells", spec := "schedTells", unfollowed := true, recurses := true, apart := false, narrowed := true }
def SchedTellsUptoSaid : Prop := schedTellsUptoRow.holds Try.pinned (OpenSpec.upto schedTellsSpec)

/-- 'afterglowlaw04.SchedMends', WHERE WHAT IT READS IS OF BULK AT MOST 1048576: true; the input reads as it did. -/
def schedMendsUptoRow : OpenClaim := { program := "ytijofgbealikaaa", sum := "66922d31fb7753ec5fa558a501c9b139535725bf8b7426b3b024ee3f3aaae82a", func := "afterglow/afterglowlaw04.SchedMends", spec := "schedMends", unfollowed := true, recurses := true, apart := false, narrowed := true }
def SchedMendsUptoSaid : Prop := schedMendsUptoRow.holds Try.pinned (OpenSpec.upto schedMendsSpec)

/-- 'afterglowlaw04.SchedFair', WHERE WHAT IT READS IS OF BULK AT MOST 1048576: true; the input reads as it did. -/
def schedFairUptoRow : OpenClaim := { program := "ytijofgbealikaaa", sum := "66922d31fb7753ec5fa558a501c9b139535725bf8b7426b3b024ee3f3aaae82a", func := "afterglow/afterglowlaw04.SchedFair", spec := "schedFair", unfollowed := true, recurses := true, apart := false, narrowed := true }
def SchedFairUptoSaid : Prop := schedFairUptoRow.holds Try.pinned (OpenSpec.upto schedFairSpec)

/-- 'afterglowlaw04.SchedParts', WHERE WHAT IT READS IS OF BULK AT MOST 1048576: true; the input reads as it did. -/
def schedPartsUptoRow : OpenClaim := { program := "ytijofgbealikaaa", sum := "66922d31fb7753ec5fa558a501c9b139535725bf8b7426b3b024ee3f3aaae82a", func := "afterglow/afterglowlaw04.SchedParts", spec := "schedParts", unfollowed := true, recurses := true, apart := false, narrowed := true }
def SchedPartsUptoSaid : Prop := schedPartsUptoRow.holds Try.pinned (OpenSpec.upto schedPartsSpec)

/-- 'afterglowlaw04.SchedWaits', WHERE WHAT IT READS IS OF BULK AT MOST 1048576: true; the input reads as it did. -/
def schedWaitsUptoRow : OpenClaim := { program := "ytijofgbealikaaa", sum := "66922d31fb7753ec5fa558a501c9b139535725bf8b7426b3b024ee3f3aaae82a", func := "afterglow/afterglowlaw04.SchedWaits", spec := "schedWaits", unfollowed := true, recurses := true, apart := false, narrowed := true }
def SchedWaitsUptoSaid : Prop := schedWaitsUptoRow.holds Try.pinned (OpenSpec.upto schedWaitsSpec)

end Rows
end Go.Proofs.Ytijofgbealikaaa
