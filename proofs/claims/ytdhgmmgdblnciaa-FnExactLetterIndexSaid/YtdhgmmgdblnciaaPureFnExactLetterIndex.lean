/- The pure statement of the law FnExactLetterIndex holds. No condition. -/
import Derived.Test.YtdhgmmgdblnciaaLawsA
namespace Go.Proofs.Ytdhgmmgdblnciaa.Pure
open Go.Proofs.Ytdhgmmgdblnciaa.P
theorem FnExactLetterIndex : laws_FnExactLetterIndex.Pure := Pl.pureFnExactLetterIndex
end Go.Proofs.Ytdhgmmgdblnciaa.Pure
