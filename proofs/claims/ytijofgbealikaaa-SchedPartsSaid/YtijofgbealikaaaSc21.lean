/- afterglowref04: Rounds. No condition but sizes. -/
import Derived.Test.YtijofgbealikaaaSc20
namespace Go.Proofs.Ytijofgbealikaaa
open Go.RowKit
end Go.Proofs.Ytijofgbealikaaa
