/- afterglowref04: Fair, Least. No condition but sizes. -/
import Derived.Test.YtijofgbealikaaaSc8
import Derived.Test.YtijofgbealikaaaKitA
namespace Go.Proofs.Ytijofgbealikaaa
open Go.RowKit
/-- are picks k-fair: no CPU waits k behind any of them -/
def FairP (c : Nat) (xs : List Int) (k : Int) : Prop := 1 ≤ k ∧ ∀ j, j < xs.length + 1 → ∀ q, q < c → (trail xs q j : Int) < k
instance {c : Nat} {xs : List Int} {k : Int} : Decidable (FairP c xs k) := by unfold FairP; infer_instance
end Go.Proofs.Ytijofgbealikaaa
