/- The pure statement of the law FnExactWordsUpTo holds. No condition. -/
import Derived.Test.YtdhgmmgdblnciaaLawsA
namespace Go.Proofs.Ytdhgmmgdblnciaa.Pure
open Go.Proofs.Ytdhgmmgdblnciaa.P
theorem FnExactWordsUpTo : laws_FnExactWordsUpTo.Pure := Pl.pureFnExactWordsUpTo
end Go.Proofs.Ytdhgmmgdblnciaa.Pure
