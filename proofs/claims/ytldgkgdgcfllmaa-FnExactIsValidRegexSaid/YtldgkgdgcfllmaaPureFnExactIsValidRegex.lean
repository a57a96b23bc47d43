/- The pure statement of the law FnExactIsValidRegex holds. No condition. -/
import Derived.Test.YtldgkgdgcfllmaaLawVr
namespace Go.Proofs.Ytldgkgdgcfllmaa.Pure
theorem FnExactIsValidRegex : St.FnExactIsValidRegex := Pl.pureFnExactIsValidRegex
end Go.Proofs.Ytldgkgdgcfllmaa.Pure
