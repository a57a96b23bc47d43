/- The pure statement of the law FnExactRunDfa holds. No condition. -/
import Derived.Test.YtoknogcefajfiaaLRun
namespace Go.Proofs.Ytoknogcefajfiaa.Pure
theorem FnExactRunDfa : St.FnExactRunDfa := Pl.pureFnExactRunDfa
end Go.Proofs.Ytoknogcefajfiaa.Pure
