/- The pure statement of the law FnExactEqualRegex holds. No condition. -/
import Derived.Test.YtldgkgdgcfllmaaLawEq
namespace Go.Proofs.Ytldgkgdgcfllmaa.Pure
theorem FnExactEqualRegex : St.FnExactEqualRegex := Pl.pureFnExactEqualRegex
end Go.Proofs.Ytldgkgdgcfllmaa.Pure
