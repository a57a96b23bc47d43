-- Written by gen.py of this repo for seat Ytldgkgdgcfllmaa.
import Derived.Test.YtldgkgdgcfllmaaP9
import Derived.Test.YtldgkgdgcfllmaaRkT
namespace Go.Proofs.Ytldgkgdgcfllmaa.St
open Go.Proofs.Ytldgkgdgcfllmaa Go.Proofs.Ytldgkgdgcfllmaa.P Rk
/-- The pure statement of FnExactEqualRegex. -/
def FnExactEqualRegex : Prop := ∀ (l0_0 : Int) (l0_1 : ByteArray) (l0_2 : List (S24)) (l1_0 : Int) (l1_1 : ByteArray) (l1_2 : List (S24)), (wfI .i64) l0_0 → shortS l0_1 → (rowsOf OkT) l0_2 → (wfI .i64) l1_0 → shortS l1_1 → (rowsOf OkT) l1_2 → ∃ k, P.laws_FnExactEqualRegex.f k l0_0 l0_1 l0_2 l1_0 l1_1 l1_2 = some true
end Go.Proofs.Ytldgkgdgcfllmaa.St
