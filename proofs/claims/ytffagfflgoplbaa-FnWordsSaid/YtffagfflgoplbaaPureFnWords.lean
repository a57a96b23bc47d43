/- The pure statement of the law FnWords holds. No condition. -/
import Derived.Test.YtffagfflgoplbaaLWords
namespace Go.Proofs.Ytffagfflgoplbaa.Pure
open Go.Proofs.Ytffagfflgoplbaa.P
theorem FnWords : laws_FnWords.Pure := Pl.pureFnWords
end Go.Proofs.Ytffagfflgoplbaa.Pure
