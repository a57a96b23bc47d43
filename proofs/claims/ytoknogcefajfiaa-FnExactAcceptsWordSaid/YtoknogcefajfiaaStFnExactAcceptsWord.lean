-- Written by gen.py of this repo for seat Ytoknogcefajfiaa.
import Derived.Test.YtoknogcefajfiaaP9
import Derived.Test.YtoknogcefajfiaaRk
namespace Go.Proofs.Ytoknogcefajfiaa.St
open Go.Proofs.Ytoknogcefajfiaa Rk
/-- The pure statement of FnExactAcceptsWord. -/
def FnExactAcceptsWord : Prop := ∀ (l0_0 : List Bool) (l0_1 : List (List Int)) (a1 : ByteArray), (rowsOf (fun _ => True)) l0_0 → (rowsOf (rowsOf (wfI .i64))) l0_1 → a1.size ≤ 140737488351232 → ∃ k, P.laws_FnExactAcceptsWord.f k l0_0 l0_1 a1 = some true
end Go.Proofs.Ytoknogcefajfiaa.St
