/- The pure statement of the law FnExactIsIncluded holds. No condition. -/
import Derived.Test.YtoknogcefajfiaaLawIn
namespace Go.Proofs.Ytoknogcefajfiaa.Pure
theorem FnExactIsIncluded : St.FnExactIsIncluded := Pl.pureFnExactIsIncluded
end Go.Proofs.Ytoknogcefajfiaa.Pure
