/- The pure statement of the law FnExactSplitByte holds. No condition. -/
import Derived.Test.YtdhgmmgdblnciaaLawsA
namespace Go.Proofs.Ytdhgmmgdblnciaa.Pure
open Go.Proofs.Ytdhgmmgdblnciaa.P
theorem FnExactSplitByte : laws_FnExactSplitByte.Pure := Pl.pureFnExactSplitByte
end Go.Proofs.Ytdhgmmgdblnciaa.Pure
