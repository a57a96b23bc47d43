/- The pure statement of the law FnExactIsWord holds. No condition. -/
import Derived.Test.YtdhgmmgdblnciaaLawsA
namespace Go.Proofs.Ytdhgmmgdblnciaa.Pure
open Go.Proofs.Ytdhgmmgdblnciaa.P
theorem FnExactIsWord : laws_FnExactIsWord.Pure := Pl.pureFnExactIsWord
end Go.Proofs.Ytdhgmmgdblnciaa.Pure
