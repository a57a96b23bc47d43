/- The pure statement of the law FnExactIsValidDfa holds. No condition. -/
import Derived.Test.YtoknogcefajfiaaLIsV
namespace Go.Proofs.Ytoknogcefajfiaa.Pure
theorem FnExactIsValidDfa : St.FnExactIsValidDfa := Pl.pureFnExactIsValidDfa
end Go.Proofs.Ytoknogcefajfiaa.Pure
