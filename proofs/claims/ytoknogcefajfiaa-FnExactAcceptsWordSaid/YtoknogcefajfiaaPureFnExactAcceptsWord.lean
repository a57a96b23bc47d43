/- The pure statement of the law FnExactAcceptsWord holds. No condition. -/
import Derived.Test.YtoknogcefajfiaaLAcc
namespace Go.Proofs.Ytoknogcefajfiaa.Pure
theorem FnExactAcceptsWord : St.FnExactAcceptsWord := Pl.pureFnExactAcceptsWord
end Go.Proofs.Ytoknogcefajfiaa.Pure
