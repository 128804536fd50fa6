/- afterglowref04: sorted. No condition but sizes. -/
import Derived.Test.YtijofgbealikaaaSc21
import Derived.Test.YtijofgbealikaaaKitA
import Derived.Deep.RegionHeld
import Derived.Deep.DeepCutAuto
import Derived.Deep.CutBlock
namespace Go.Proofs.Ytijofgbealikaaa
open Go.RowKit
end Go.Proofs.Ytijofgbealikaaa
