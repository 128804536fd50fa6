/- afterglowlaw04.SchedTells returns true at every number of CPUs, row, and k, and turns nothing old. No condition. -/
import Derived.Test.YtijofgbealikaaaSc24
namespace Go.Proofs.Ytijofgbealikaaa
open Go.RowKit
theorem fairC_ref {q : Nat} {l : List Int} {kk : Int} (hs : SchR (q : Int) l) : fairC (q : Int) l kk = decide (FairP q l kk) := by
  have h8 : ∀ x ∈ l, 0 ≤ x ∧ x < 8 := fun x hx => by have := hs.2 x hx; have := hs.1.2; omega
  have hf := fairP_least (c := q) (by have := hs.1.1; omega) (by have := hs.1.2; omega) h8 kk
  have hl : leastC (q : Int) l = leastF q l l.length := if_pos hs
  unfold fairC
  refine decide_eq_decide.2 ⟨fun h => hf.2 (by rw [← hl]; exact h.2.2), fun h => ⟨h.1, hs, by rw [hl]; exact hf.1 h⟩⟩
end Go.Proofs.Ytijofgbealikaaa
