/- afterglowref04: Fair, Least. No condition but sizes. -/
import Derived.Test.YtijofgbealikaaaSc8
import Derived.Test.YtijofgbealikaaaKitA
namespace Go.Proofs.Ytijofgbealikaaa
open Go.RowKit
/-- are picks k-fair: no CPU waits k behind any of them -/
def FairP (c : Nat) (xs : List Int) (k : Int) : Prop := 1 ≤ k ∧ ∀ j, j < xs.length + 1 → ∀ q, q < c → (trail xs q j : Int) < k
instance {c : Nat} {xs : List Int} {k : Int} : Decidable (FairP c xs k) := by unfold FairP; infer_instance
theorem trail_sub (xs : List Int) (q : Int) (i K : Nat) (h : i + K ≤ xs.length) : ∀ j, j ≤ K → trail ((xs.drop i).take K) q j = min (trail xs q (i + j)) j
  | 0, _ => by rw [show trail ((xs.drop i).take K) q 0 = 0 from rfl]; omega
  | j + 1, hj => by
    rw [trail_succ, trail_sub xs q i K h j (by omega), ← Nat.add_assoc, trail_succ]
    have e : ((xs.drop i).take K)[j]?.getD 0 = xs[i + j]?.getD 0 := by rw [List.getElem?_take, if_pos (by omega), List.getElem?_drop]
    rw [e]
    split <;> omega
end Go.Proofs.Ytijofgbealikaaa
