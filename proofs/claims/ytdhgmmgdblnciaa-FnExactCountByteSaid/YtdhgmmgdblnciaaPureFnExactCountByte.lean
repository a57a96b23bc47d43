/- The pure statement of the law FnExactCountByte holds. No condition. -/
import Derived.Test.YtdhgmmgdblnciaaLawsA
namespace Go.Proofs.Ytdhgmmgdblnciaa.Pure
open Go.Proofs.Ytdhgmmgdblnciaa.P
theorem FnExactCountByte : laws_FnExactCountByte.Pure := Pl.pureFnExactCountByte
end Go.Proofs.Ytdhgmmgdblnciaa.Pure
