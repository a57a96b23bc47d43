/- The pure statement of the law FnExactFormatRegex holds. No condition. -/
import Derived.Test.YtldgkgdgcfllmaaLawFr
namespace Go.Proofs.Ytldgkgdgcfllmaa.Pure
theorem FnExactFormatRegex : St.FnExactFormatRegex := Pl.pureFnExactFormatRegex
end Go.Proofs.Ytldgkgdgcfllmaa.Pure
