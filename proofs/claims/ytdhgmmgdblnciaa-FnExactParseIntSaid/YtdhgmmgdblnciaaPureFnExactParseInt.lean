/- The pure statement of the law FnExactParseInt holds. No condition. -/
import Derived.Test.YtdhgmmgdblnciaaNum2
namespace Go.Proofs.Ytdhgmmgdblnciaa.Pure
open Go.Proofs.Ytdhgmmgdblnciaa.P
theorem FnExactParseInt : laws_FnExactParseInt.Pure := Pl.pureFnExactParseInt
end Go.Proofs.Ytdhgmmgdblnciaa.Pure
