/- Readers and a grace: what a tick does, and that who was in a section is waited for, plainly. No condition. -/
import Derived.Test.YtfipdoofgbjbjaaRd17
import Derived.Test.YtfipdoofgbjbjaaGr0
namespace Go.Proofs.Ytfipdoofgbjbjaa
/-- a tick: the error, the readers, the grace, what was asked for -/
def tickF (s : St) (g : Gr) (t : Int × Int) : Int × St × Gr × List Int :=
  if t.1 = 1 ∨ t.1 = 2 then (stC s (t.2, decide (t.1 = 1)), stN s (t.2, decide (t.1 = 1)), g, [])
  else if t.1 = 3 then (if t.2 < 0 ∨ (g.nd.length : Int) ≤ t.2 then (2, s, g, []) else if 2147483645 < gNext g then (6, s, g, []) else (0, s, gAsk g, [gNext g]))
  else if t.1 = 4 then (if t.2 < 0 ∨ (g.nd.length : Int) ≤ t.2 then (2, s, g, []) else (0, s, gPick g t.2.toNat (decide (s.2.1[t.2.toNat]?.getD 0 = 0)), []))
  else (221, s, g, [])
def Both (s : St) (g : Gr) : Prop := Good s.1 s.2.1 s.2.2 ∧ GrOk g ∧ s.2.1.length = g.nd.length
/-- with which step each period was asked for last -/
def AtInv (s : St) (g : Gr) (at_ : List (Int × Int)) : Prop :=
  (∀ x ∈ at_, 1 ≤ x.1 ∧ x.1 ≤ g.ak ∧ 0 ≤ x.2 ∧ x.2 ≤ s.1 ∧ (x.1 ≤ g.dn → ∀ k, k < s.2.1.length → 0 < s.2.1[k]?.getD 0 → x.2 < s.2.2[k]?.getD 0) ∧
    (x.1 = g.dn + 1 → g.on = true → ∀ k, k < s.2.1.length → g.nd[k]?.getD false = false → 0 < s.2.1[k]?.getD 0 → x.2 < s.2.2[k]?.getD 0)) ∧ ∀ n, 1 ≤ n → n ≤ g.ak → n ∈ at_.map Prod.fst
def putI (L : List (Int × Int)) (k v : Int) : List (Int × Int) := match L with
  | [] => [(k, v)]
  | x :: L => if x.1 = k then (k, v) :: L else x :: putI L k v
/-- what was asked for by a tick is laid down -/
def atF (s : St) (at_ : List (Int × Int)) (l : List Int) : List (Int × Int) := l.foldl (fun a n => putI a n s.1) at_
end Go.Proofs.Ytfipdoofgbjbjaa
