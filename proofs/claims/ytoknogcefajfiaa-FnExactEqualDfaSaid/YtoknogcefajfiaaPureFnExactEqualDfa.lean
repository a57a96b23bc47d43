/- The pure statement of the law FnExactEqualDfa holds. No condition. -/
import Derived.Test.YtoknogcefajfiaaLEq
namespace Go.Proofs.Ytoknogcefajfiaa.Pure
theorem FnExactEqualDfa : St.FnExactEqualDfa := Pl.pureFnExactEqualDfa
end Go.Proofs.Ytoknogcefajfiaa.Pure
