-- Written by gen.py of this repo for seat Ytdhgmmgdblnciaa.
import Derived.Test.YtdhgmmgdblnciaaP9
import Derived.Test.YtdhgmmgdblnciaaRk
namespace Go.Proofs.Ytdhgmmgdblnciaa.St
open Go.Proofs.Ytdhgmmgdblnciaa Rk
/-- The pure statement of FnExactJoin. -/
def FnExactJoin : Prop := ∀ (l0 : List ByteArray) (a1 : ByteArray), (rowsOf shortS) l0 → a1.size ≤ 140737488351232 → ∃ k, P.laws_FnExactJoin.f k l0 a1 = some true
end Go.Proofs.Ytdhgmmgdblnciaa.St
