/- The pure statement of the law FnExactCompareWords holds. No condition. -/
import Derived.Test.YtdhgmmgdblnciaaLawsA
namespace Go.Proofs.Ytdhgmmgdblnciaa.Pure
open Go.Proofs.Ytdhgmmgdblnciaa.P
theorem FnExactCompareWords : laws_FnExactCompareWords.Pure := Pl.pureFnExactCompareWords
end Go.Proofs.Ytdhgmmgdblnciaa.Pure
