-- Written by gen.py of this repo for seat Ytoknogcefajfiaa.
import Derived.Test.YtoknogcefajfiaaP14
import Derived.Test.YtoknogcefajfiaaRk
namespace Go.Proofs.Ytoknogcefajfiaa.St
open Go.Proofs.Ytoknogcefajfiaa Rk
/-- The pure statement of FnExactShortestWord. -/
def FnExactShortestWord : Prop := ∀ (l0_0 : List Bool) (l0_1 : List (List Int)), (rowsOf (fun _ => True)) l0_0 → (rowsOf (rowsOf (wfI .i64))) l0_1 → ∃ k, P.laws_FnExactShortestWord.f k l0_0 l0_1 = some true
end Go.Proofs.Ytoknogcefajfiaa.St
