/- The pure statement of the law FnExactWordsOfLength holds. No condition. -/
import Derived.Test.YtdhgmmgdblnciaaLawsA
namespace Go.Proofs.Ytdhgmmgdblnciaa.Pure
open Go.Proofs.Ytdhgmmgdblnciaa.P
theorem FnExactWordsOfLength : laws_FnExactWordsOfLength.Pure := Pl.pureFnExactWordsOfLength
end Go.Proofs.Ytdhgmmgdblnciaa.Pure
