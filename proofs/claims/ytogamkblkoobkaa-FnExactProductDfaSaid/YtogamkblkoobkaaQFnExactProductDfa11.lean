/- Texts of the proof of FnExactProductDfa, put together. No condition. -/
import Derived.Test.YtogamkblkoobkaaQFnExactProductDfa2
import Derived.Test.YtogamkblkoobkaaQFnExactProductDfa10
import Derived.Test.YtogamkblkoobkaaQFnExactProductDfa9
section
namespace Go.Proofs.Ytogamkblkoobkaa.P
open Go.RowKit Go.Proofs.YtogamkblkoobkaaW.PrintWords Go.Proofs.YtogamkblkoobkaaW.PrintLast Go.Proofs.YtogamkblkoobkaaW.PrintMore
attribute [local go_sem] max2_int min2_int max_two min_two max_three min_three max_four min_four
set_option linter.unusedVariables false
set_option linter.unusedSimpArgs false
def spec_ProductDfa.f (l0_0 : List Bool) (l0_1 : List (List Int)) (l1_0 : List Bool) (l1_1 : List (List Int)) (a2 : Int) : Option (List Bool × List (List Int) × Bool) := if l0_0.length ≤ 1048576 ∧ l0_1.length ≤ 1048576 ∧ l1_0.length ≤ 1048576 ∧ l1_1.length ≤ 1048576 then some (Wk.pdR l0_0 l0_1 l1_0 l1_1 a2) else none
theorem spec_ProductDfa.calls (A0_0 : Option Addr) (c0_0 : Nat) (l0_0 : List Bool) (A0_1 : Option Addr) (c0_1 : Nat) (l0_1 : List (List Int)) (A1_0 : Option Addr) (c1_0 : Nat) (l1_0 : List Bool) (A1_1 : Option Addr) (c1_1 : Nat) (l1_1 : List (List Int)) (a2 : Int) (r1 : List Bool) (r2 : List (List Int)) (r3 : Bool) (w : World) (hr0_0 : Kd.C Kd.bool w A0_0 l0_0.length l0_0) (hc0_0 : l0_0.length ≤ c0_0) (hr0_1 : Kd.C (Kd.slice 3 (Kd.int .i64)) w A0_1 l0_1.length l0_1) (hc0_1 : l0_1.length ≤ c0_1) (hr1_0 : Kd.C Kd.bool w A1_0 l1_0.length l1_0) (hc1_0 : l1_0.length ≤ c1_0) (hr1_1 : Kd.C (Kd.slice 3 (Kd.int .i64)) w A1_1 l1_1.length l1_1) (hc1_1 : l1_1.length ≤ c1_1) (h : spec_ProductDfa.f l0_0 l0_1 l1_0 l1_1 a2 = some (r1, r2, r3)) :
    Calls Try.prog 19 #[.agg #[.slice A0_0 l0_0.length c0_0, .slice A0_1 l0_1.length c0_1], .agg #[.slice A1_0 l1_0.length c1_0, .slice A1_1 l1_1.length c1_1], .int .i64 a2] w fun e w' => ∃ v0_ v1_ : Value, e = .returned (.tuple #[.agg #[v0_, v1_], .bool r3]) ∧ Kd.R Kd.bool 4 w' w.heap.size (fun _ => True) v0_ r1 ∧ Kd.S (Kd.slice 3 (Kd.int .i64)) 67 w' w.heap.size (fun _ => True) v1_ r2 ∧ Below w.heap.size w w' := by
  unfold spec_ProductDfa.f at h
  split at h
  · rename_i hp
    have h := Option.some.inj h
    have e1 : (Wk.pdR l0_0 l0_1 l1_0 l1_1 a2).1 = r1 := by rw [h]
    have e2 : (Wk.pdR l0_0 l0_1 l1_0 l1_1 a2).2.1 = r2 := by rw [h]
    have e3 : (Wk.pdR l0_0 l0_1 l1_0 l1_1 a2).2.2 = r3 := by rw [h]
    rw [← e1, ← e2, ← e3]
    exact Wk.spdCalls A0_0 c0_0 l0_0 A0_1 c0_1 l0_1 A1_0 c1_0 l1_0 A1_1 c1_1 l1_1 a2 w hr0_0 hc0_0 hr0_1 hc0_1 hr1_0 hc1_0 hr1_1 hc1_1 hp.1 hp.2.1 hp.2.2.1 hp.2.2.2
  · cases h
end Go.Proofs.Ytogamkblkoobkaa.P
end
section
namespace Go.Proofs.Ytogamkblkoobkaa.Can
open Go.RowKit Go.Proofs.Ytogamkblkoobkaa Go.Proofs.Ytogamkblkoobkaa.P Go.Proofs.Ytogamkblkoobkaa.Wk Go.Proofs.Ytogamkblkoobkaa.Pl Go.Proofs.YtogamkblkoobkaaW.PrintWords Go.Proofs.YtogamkblkoobkaaW.PrintLast Go.Proofs.YtogamkblkoobkaaW.PrintMore
set_option linter.unusedVariables false
theorem spec_pd (a : List Bool) (n : List (List Int)) (b : List Bool) (m : List (List Int)) (k : Int) (h1 : a.length ≤ 1048576) (h2 : n.length ≤ 1048576) (h3 : b.length ≤ 1048576) (h4 : m.length ≤ 1048576) : spec_ProductDfa.f a n b m k = some (pdR a n b m k) := by
  unfold spec_ProductDfa.f
  rw [if_pos ⟨h1, h2, h3, h4⟩]
theorem pdR_len (a : List Bool) (n : List (List Int)) (b : List Bool) (m : List (List Int)) (k : Int) : (pdR a n b m k).1.length ≤ 40 ∧ (pdR a n b m k).2.1.length ≤ 40 ∧ ∀ r ∈ (pdR a n b m k).2.1, r.length = 3 := by
  unfold pdR
  by_cases h : (validD a n = true ∧ validD b m = true) ∧ (k = 6 ∨ k = 7)
  · rw [if_pos h]
    obtain ⟨q, _, hx, hau, _⟩ := pd_some (kind := k) h.1.1 h.1.2
    rw [hx]
    exact fitD_len hau.rows.1 hau.rows.2
  · rw [if_neg h]
    simp
end Go.Proofs.Ytogamkblkoobkaa.Can
end
section
namespace Go.Proofs.Ytogamkblkoobkaa.P
open Go.RowKit Go.Proofs.YtogamkblkoobkaaW.PrintWords Go.Proofs.YtogamkblkoobkaaW.PrintLast Go.Proofs.YtogamkblkoobkaaW.PrintMore
attribute [local go_sem] max2_int min2_int max_two min_two max_three min_three max_four min_four
set_option linter.unusedVariables false
set_option linter.unusedSimpArgs false
def impl_ProductDfa.f (l0_0 : List Bool) (l0_1 : List (List Int)) (l1_0 : List Bool) (l1_1 : List (List Int)) (a2 : Int) : Option (List Bool × List (List Int) × Bool) := some (Wk.pdR l0_0 l0_1 l1_0 l1_1 a2)
theorem impl_ProductDfa.calls (A0_0 : Option Addr) (c0_0 : Nat) (l0_0 : List Bool) (A0_1 : Option Addr) (c0_1 : Nat) (l0_1 : List (List Int)) (A1_0 : Option Addr) (c1_0 : Nat) (l1_0 : List Bool) (A1_1 : Option Addr) (c1_1 : Nat) (l1_1 : List (List Int)) (a2 : Int) (r1 : List Bool) (r2 : List (List Int)) (r3 : Bool) (w : World) (hr0_0 : Kd.C Kd.bool w A0_0 l0_0.length l0_0) (hc0_0 : l0_0.length ≤ c0_0) (hr0_1 : Kd.C (Kd.slice 3 (Kd.int .i64)) w A0_1 l0_1.length l0_1) (hc0_1 : l0_1.length ≤ c0_1) (hr1_0 : Kd.C Kd.bool w A1_0 l1_0.length l1_0) (hc1_0 : l1_0.length ≤ c1_0) (hr1_1 : Kd.C (Kd.slice 3 (Kd.int .i64)) w A1_1 l1_1.length l1_1) (hc1_1 : l1_1.length ≤ c1_1) (h : impl_ProductDfa.f l0_0 l0_1 l1_0 l1_1 a2 = some (r1, r2, r3)) :
    Calls Try.prog 20 #[.agg #[.slice A0_0 l0_0.length c0_0, .slice A0_1 l0_1.length c0_1], .agg #[.slice A1_0 l1_0.length c1_0, .slice A1_1 l1_1.length c1_1], .int .i64 a2] w fun e w' => ∃ v0_ v1_ : Value, e = .returned (.tuple #[.agg #[v0_, v1_], .bool r3]) ∧ Kd.R Kd.bool 4 w' w.heap.size (fun _ => True) v0_ r1 ∧ Kd.S (Kd.slice 3 (Kd.int .i64)) 67 w' w.heap.size (fun _ => True) v1_ r2 ∧ Below w.heap.size w w' := by
  have h := Option.some.inj h
  have e1 : (Wk.pdR l0_0 l0_1 l1_0 l1_1 a2).1 = r1 := by rw [h]
  have e2 : (Wk.pdR l0_0 l0_1 l1_0 l1_1 a2).2.1 = r2 := by rw [h]
  have e3 : (Wk.pdR l0_0 l0_1 l1_0 l1_1 a2).2.2 = r3 := by rw [h]
  rw [← e1, ← e2, ← e3]
  exact Wk.pdCalls A0_0 c0_0 l0_0 A0_1 c0_1 l0_1 A1_0 c1_0 l1_0 A1_1 c1_1 l1_1 a2 w hr0_0 hr0_1 hr1_0 hr1_1
end Go.Proofs.Ytogamkblkoobkaa.P
end
