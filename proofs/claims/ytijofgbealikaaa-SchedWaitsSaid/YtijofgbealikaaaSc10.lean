/- Chapter 04, plainly: what sched.Least tells is the least k of which picks are k-fair. No condition. -/
import Derived.Test.YtijofgbealikaaaSc9
namespace Go.Proofs.Ytijofgbealikaaa
end Go.Proofs.Ytijofgbealikaaa
