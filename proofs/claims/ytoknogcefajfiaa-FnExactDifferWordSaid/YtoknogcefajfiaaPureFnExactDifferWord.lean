/- The pure statement of the law FnExactDifferWord holds. No condition. -/
import Derived.Test.YtoknogcefajfiaaLawDw
namespace Go.Proofs.Ytoknogcefajfiaa.Pure
theorem FnExactDifferWord : St.FnExactDifferWord := Pl.pureFnExactDifferWord
end Go.Proofs.Ytoknogcefajfiaa.Pure
