/- The pure statement of the law FnExactParseNumber holds. No condition. -/
import Derived.Test.YtdhgmmgdblnciaaNum2
namespace Go.Proofs.Ytdhgmmgdblnciaa.Pure
open Go.Proofs.Ytdhgmmgdblnciaa.P
theorem FnExactParseNumber : laws_FnExactParseNumber.Pure := Pl.pureFnExactParseNumber
end Go.Proofs.Ytdhgmmgdblnciaa.Pure
