/- The pure statement of the law FnExactConstants holds. No condition. -/
import Derived.Test.YtdhgmmgdblnciaaLawsA
namespace Go.Proofs.Ytdhgmmgdblnciaa.Pure
open Go.Proofs.Ytdhgmmgdblnciaa.P
theorem FnExactConstants : laws_FnExactConstants.Pure := Pl.pureFnExactConstants
end Go.Proofs.Ytdhgmmgdblnciaa.Pure
