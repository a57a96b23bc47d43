-- Words of the shorter printed texts.
import Derived.Test.YtldgkgdgcfllmaaWWords
import Derived.Test.YtldgkgdgcfllmaaWLast
import Derived.Test.YtldgkgdgcfllmaaProg
namespace Go.Proofs.Ytldgkgdgcfllmaa.P
open Go.RowKit
theorem pn_ (l : List Value) (d : List Deferred) (n : Tmp) (v : Value) : Act.put ⟨⟨l⟩, d⟩ (some n) v = ⟨⟨l.set n v⟩, d⟩ := by simp [Act.put]
theorem sz_ {α : Type} (a b : α) (l : List α) : (a :: l).set 0 b = b :: l := rfl
theorem ss_ {α : Type} (a b : α) (n : Nat) (l : List α) : (a :: l).set (n + 1) b = a :: l.set n b := rfl
def bl (n k : Nat) : Array Bool := ((List.range n).map fun i => k.testBit i).toArray
end Go.Proofs.Ytldgkgdgcfllmaa.P
