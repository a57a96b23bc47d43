-- Written by gen.py of this repo for seat Ytoknogcefajfiaa.
import Derived.Test.YtoknogcefajfiaaP33
import Derived.Test.YtoknogcefajfiaaRk
namespace Go.Proofs.Ytoknogcefajfiaa.St
open Go.Proofs.Ytoknogcefajfiaa Rk
/-- The pure statement of FnExactIsIncluded. -/
def FnExactIsIncluded : Prop := ∀ (l0_0 : List Bool) (l0_1 : List (List Int)) (l1_0 : List Bool) (l1_1 : List (List Int)), (rowsOf (fun _ => True)) l0_0 → (rowsOf (rowsOf (wfI .i64))) l0_1 → (rowsOf (fun _ => True)) l1_0 → (rowsOf (rowsOf (wfI .i64))) l1_1 → ∃ k, P.laws_FnExactIsIncluded.f k l0_0 l0_1 l1_0 l1_1 = some true
end Go.Proofs.Ytoknogcefajfiaa.St
