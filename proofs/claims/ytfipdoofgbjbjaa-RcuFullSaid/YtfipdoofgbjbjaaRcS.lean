/- package rcu: settling, plainly: a turn, that turns come to an end, and what they come to. No condition. -/
import Derived.Test.YtfipdoofgbjbjaaRc15
namespace Go.Proofs.Ytfipdoofgbjbjaa
open Go.RowKit
/-- what settling goes through: the grace, the queues, what was run, whose turn it is -/
structure Sv where
  g : Gr
  qs : Qs
  ran : List Int
  k : Nat
abbrev qAt (qs : Qs) (k : Nat) : List Cb × Int := qs[k]?.getD ([], 0)
def drN (qs : Qs) (k : Nat) : Nat := doneN (qAt qs k).2 (qAt qs k).1
/-- queues behind a CPU's first j are run, and what is run -/
def drQ (qs : Qs) (k j : Nat) : Qs := qs.set k ((qAt qs k).1.drop j, (qAt qs k).2)
def drR (qs : Qs) (k j : Nat) : List Int := ((qAt qs k).1.take j).map Prod.snd
def pkQ (t : Sv) : Qs := overs t.g.dn (gPick t.g t.k true).dn t.qs
def turnF (t : Sv) : Sv := ⟨gPick t.g t.k true, drQ (pkQ t) t.k (drN (pkQ t) t.k), t.ran ++ drR (pkQ t) t.k (drN (pkQ t) t.k), (t.k + 1) % t.qs.length⟩
def SvOk (s : St) (t : Sv) : Prop := RcGood s t.g t.qs ∧ quietB s = true ∧ t.k < t.qs.length
/-- how far those are off, together -/
def dist (n k : Nat) (p : Nat → Bool) : Nat := ((List.range n).map fun j => if p j then 1 + (j + n - k) % n else 0).sum
def mu (t : Sv) : Nat :=
  (t.g.ak - t.g.dn).toNat * 1000 + (if t.g.on then dist t.qs.length t.k (fun j => t.g.nd[j]?.getD false) else if t.g.dn < t.g.ak then 100 else 0) +
    (if t.g.dn < t.g.ak then 100 else dist t.qs.length t.k (fun j => !(qAt t.qs j).1.isEmpty))
theorem qAt_mem {qs : Qs} {k : Nat} (hk : k < qs.length) : qAt qs k ∈ qs := by unfold qAt; rw [List.getElem?_eq_getElem hk]; exact List.getElem_mem _
def setN (s : St) : Nat → Sv → Sv
  | 0, t => t
  | n + 1, t => if idleB s t.g t.qs then t else setN s n (turnF t)
/-- settled -/
def setF (s : St) (t : Sv) : Sv := setN s (mu t) t
end Go.Proofs.Ytfipdoofgbjbjaa
