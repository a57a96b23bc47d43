/- The pure statement of the law FnSplit holds. No condition. -/
import Derived.Test.YtffagfflgoplbaaLSplit
namespace Go.Proofs.Ytffagfflgoplbaa.Pure
open Go.Proofs.Ytffagfflgoplbaa.P
theorem FnSplit : laws_FnSplit.Pure := Pl.pureFnSplit
end Go.Proofs.Ytffagfflgoplbaa.Pure
