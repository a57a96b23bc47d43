/- The pure statement of the law FnExactJoin holds. No condition. -/
import Derived.Test.YtdhgmmgdblnciaaLJoin
namespace Go.Proofs.Ytdhgmmgdblnciaa.Pure
theorem FnExactJoin : St.FnExactJoin := Pl.pureFnExactJoin
end Go.Proofs.Ytdhgmmgdblnciaa.Pure
