/- The pure statement of the law FnExactCountWords holds. No condition. -/
import Derived.Test.YtoknogcefajfiaaCnt
namespace Go.Proofs.Ytoknogcefajfiaa.Pure
theorem FnExactCountWords : St.FnExactCountWords := Pl.pureFnExactCountWords
end Go.Proofs.Ytoknogcefajfiaa.Pure
