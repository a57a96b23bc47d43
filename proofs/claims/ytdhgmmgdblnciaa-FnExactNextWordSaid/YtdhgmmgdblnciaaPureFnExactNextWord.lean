/- The pure statement of the law FnExactNextWord holds. No condition. -/
import Derived.Test.YtdhgmmgdblnciaaLNext
namespace Go.Proofs.Ytdhgmmgdblnciaa.Pure
open Go.Proofs.Ytdhgmmgdblnciaa.P
theorem FnExactNextWord : laws_FnExactNextWord.Pure := Pl.pureFnExactNextWord
end Go.Proofs.Ytdhgmmgdblnciaa.Pure
