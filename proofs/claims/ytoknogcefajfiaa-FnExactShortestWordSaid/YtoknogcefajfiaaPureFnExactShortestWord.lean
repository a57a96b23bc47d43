/- The pure statement of the law FnExactShortestWord holds. No condition. -/
import Derived.Test.YtoknogcefajfiaaLSh
namespace Go.Proofs.Ytoknogcefajfiaa.Pure
theorem FnExactShortestWord : St.FnExactShortestWord := Pl.pureFnExactShortestWord
end Go.Proofs.Ytoknogcefajfiaa.Pure
