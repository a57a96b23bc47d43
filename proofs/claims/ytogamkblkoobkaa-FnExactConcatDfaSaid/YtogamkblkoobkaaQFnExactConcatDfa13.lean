/- The law FnExactConcatDfa holds for every input. No condition. -/
import Derived.Test.YtogamkblkoobkaaQFnExactConcatDfa2
import Derived.Test.YtogamkblkoobkaaQFnExactConcatDfa12
import Derived.Test.YtogamkblkoobkaaQFnExactConcatDfa3
import Derived.Test.YtogamkblkoobkaaRows
import Derived.WalkKit
import Derived.ProofKit
import Derived.OpenShut
import Derived.ShutString
import Derived.ChangeOld
import Derived.Below
import Derived.SizedLaws
import Derived.Lib.SmallJoins
import Derived.ChangeSlices
section
namespace Go.Proofs.Ytogamkblkoobkaa.P
open Go.RowKit Go.Proofs.YtogamkblkoobkaaW.PrintWords Go.Proofs.YtogamkblkoobkaaW.PrintLast Go.Proofs.YtogamkblkoobkaaW.PrintMore
attribute [local go_sem] max2_int min2_int max_two min_two max_three min_three max_four min_four
set_option linter.unusedVariables false
set_option linter.unusedSimpArgs false
def laws_FnExactConcatDfa.f (l0_0 : List Bool) (l0_1 : List (List Int)) (l1_0 : List Bool) (l1_1 : List (List Int)) : Option Bool := if l0_0.length ≤ 9223372036854775807 ∧ l0_1.length ≤ 9223372036854775807 ∧ (∀ x ∈ l0_1, x.length ≤ 9223372036854775807) ∧ l1_0.length ≤ 9223372036854775807 ∧ l1_1.length ≤ 9223372036854775807 ∧ (∀ x ∈ l1_1, x.length ≤ 9223372036854775807) then some true else none
theorem laws_FnExactConcatDfa.calls (A0_0 : Option Addr) (c0_0 : Nat) (l0_0 : List Bool) (A0_1 : Option Addr) (c0_1 : Nat) (l0_1 : List (List Int)) (A1_0 : Option Addr) (c1_0 : Nat) (l1_0 : List Bool) (A1_1 : Option Addr) (c1_1 : Nat) (l1_1 : List (List Int)) (r : Bool) (w : World) (hr0_0 : Kd.C Kd.bool w A0_0 l0_0.length l0_0) (hc0_0 : l0_0.length ≤ c0_0) (hr0_1 : Kd.C (Kd.slice 3 (Kd.int .i64)) w A0_1 l0_1.length l0_1) (hc0_1 : l0_1.length ≤ c0_1) (hr1_0 : Kd.C Kd.bool w A1_0 l1_0.length l1_0) (hc1_0 : l1_0.length ≤ c1_0) (hr1_1 : Kd.C (Kd.slice 3 (Kd.int .i64)) w A1_1 l1_1.length l1_1) (hc1_1 : l1_1.length ≤ c1_1) (h : laws_FnExactConcatDfa.f l0_0 l0_1 l1_0 l1_1 = some r) (hR : r = true) :
    Calls Try.prog 6 #[.agg #[.slice A0_0 l0_0.length c0_0, .slice A0_1 l0_1.length c0_1], .agg #[.slice A1_0 l1_0.length c1_0, .slice A1_1 l1_1.length c1_1]] w fun e w' => e = .returned (.bool r) ∧ Below w.heap.size w w' := by
  unfold laws_FnExactConcatDfa.f at h
  subst hR
  split at h
  · rename_i hp
    exact Wk.lawCt A0_0 c0_0 l0_0 A0_1 c0_1 l0_1 A1_0 c1_0 l1_0 A1_1 c1_1 l1_1 w hr0_0 hc0_0 hr0_1 hc0_1 hr1_0 hc1_0 hr1_1 hc1_1 hp.1 hp.2.1 hp.2.2.1 hp.2.2.2.1 hp.2.2.2.2.1 hp.2.2.2.2.2
  · cases h
end Go.Proofs.Ytogamkblkoobkaa.P
end
section
namespace Go.Proofs.Ytogamkblkoobkaa.St
open Go.Proofs.Ytogamkblkoobkaa Rk
def FnExactConcatDfa : Prop := ∀ (l0_0 : List Bool) (l0_1 : List (List Int)) (l1_0 : List Bool) (l1_1 : List (List Int)), (rowsOf (fun _ => True)) l0_0 → (rowsOf (rowsOf (wfI .i64))) l0_1 → (rowsOf (fun _ => True)) l1_0 → (rowsOf (rowsOf (wfI .i64))) l1_1 → P.laws_FnExactConcatDfa.f l0_0 l0_1 l1_0 l1_1 = some true
end Go.Proofs.Ytogamkblkoobkaa.St
end
section
namespace Go.Proofs.Ytogamkblkoobkaa.Pl
open Go.RowKit Go.Proofs.Ytogamkblkoobkaa Go.Proofs.Ytogamkblkoobkaa.P Go.Proofs.YtogamkblkoobkaaW.PrintWords Go.Proofs.YtogamkblkoobkaaW.PrintLast Go.Proofs.YtogamkblkoobkaaW.PrintMore Rk
set_option linter.unusedVariables false
theorem pureFnExactConcatDfa : St.FnExactConcatDfa := by
  intro a n b m wa wn wb wm
  unfold laws_FnExactConcatDfa.f
  rw [if_pos ⟨wa.1, wn.1, lens wn, wb.1, wm.1, lens wm⟩]
end Go.Proofs.Ytogamkblkoobkaa.Pl
end
section
namespace Go.Proofs.Ytogamkblkoobkaa.Pure
theorem FnExactConcatDfa : St.FnExactConcatDfa := Pl.pureFnExactConcatDfa
end Go.Proofs.Ytogamkblkoobkaa.Pure
end
section
namespace Go.Proofs.Ytogamkblkoobkaa.fnExactConcatDfa
open Go.ChangeShapes Go.WideShapes Go.ChangeAt Go.RowKit Go.Proofs.Ytogamkblkoobkaa.Rk Go.Proofs.YtogamkblkoobkaaW.PrintWords
open Go.ChangeMaps (open_string shut_string)
set_option linter.unusedVariables false
theorem own : ownKnob Try.prog.godebug = none := by kernel_rfl
theorem laidOut : laidOutB Try.prog = true := by kernel_rfl
set_option maxRecDepth 100000 in
theorem lifted (os : Os) (started : os.Started) (H : Type) (enc : TypeId × Value → H) :
    ReturnsInHanded {} Try.checked os 6 .any (Rows.fnExactConcatDfaSpec.pre6 enc Try.prog Try.f6 Rows.fnExactConcatDfaRow.domain false) (Rows.fnExactConcatDfaSpec.post enc Try.prog Try.f6 false true false false) := by
  refine returnsInHanded_of_change_sized (C := Try.checked) own started (by kernel_rfl) Try.func6
    (ChangeSpec.witness6 (enc := enc) (C := Try.checked) false ⟨#[], #[.agg #[.slice none 0 0, .slice none 0 0], .agg #[.slice none 0 0, .slice none 0 0]], []⟩ 8 (by kernel_rfl) (by kernel_rfl) (by kernel_rfl) (by kernel_rfl)) ?_
  intro W base args ds gs before hval0 hW hcnd hsz0 _
  have hsz : (DataW.weightsEach Try.prog (Try.f6.params.toList ++ Rows.fnExactConcatDfaSpec.plain.varTypes Try.prog) (ds ++ gs)).all (· ≤ reachBytes) = true := hsz0
  have hval : ∀ (j : Nat) t v, Try.f6.params[j]? = some t → args[j]? = some v → Value.okWide Try.prog W .any base t v := hval0
  have hW' := hW
  obtain ⟨p, q, hA0, hV, rfl, hfz, hnd⟩ := hW
  have hA : DataW.TrodAll enc Try.prog W 0 (fun _ => true) true Try.f6.params.toList args.toList ds p := hA0
  rw [Try.params6] at hA hval hsz
  obtain ⟨v0, vs0, d0, ds0, p0, q0, hargs, rfl, rfl, h0, r0⟩ := trodAll_cons hA
  obtain ⟨v1, vs1, d1, ds1, p1, q1, rfl, rfl, rfl, h1, r1⟩ := trodAll_cons r0
  obtain ⟨rfl, rfl, rfl⟩ := trodAll_nil r1
  obtain rfl : args = #[v0, v1] := by cases args; simp_all
  obtain ⟨rfl, rfl⟩ := trodVars_none hV
  have k0 := h0
  have lt0 : ∀ x ∈ p0, x.block < W.heap.size := by obtain ⟨m, hm⟩ := k0; exact DataW.trod_lt m _ _ _ hm
  obtain ⟨u0_0, u0_1, y0_0, y0_1, n0, rfl, rfl, _, g0_0, g0_1⟩ := Go.Joins.open_agg2 Try.underlying25 (by kernel_rfl) (by kernel_rfl) (hval 0 25 v0 rfl rfl) h0
  obtain ⟨l0_0, aa, w0_0⟩ := (opens_slice (K := Kd.bool) 4 Try.underlying22 (by kernel_rfl) rfl (opens_bool Try.underlying4)) _ _ _ g0_0
  obtain ⟨A0_0, c0_0, rfl, hc0_0, hr0_0⟩ := slice_of aa
  obtain ⟨l0_1, ab, w0_1⟩ := (opens_slice (K := (Kd.slice 3 (Kd.int .i64))) 67 Try.underlying23 (by kernel_rfl) rfl (opens_slice (K := (Kd.int .i64)) 3 Try.underlying67 (by kernel_rfl) rfl (opens_int Try.underlying3))) _ _ _ g0_1
  obtain ⟨A0_1, c0_1, rfl, hc0_1, hr0_1⟩ := slice_of ab
  have k1 := h1
  have lt1 : ∀ x ∈ p1, x.block < W.heap.size := by obtain ⟨m, hm⟩ := k1; exact DataW.trod_lt m _ _ _ hm
  obtain ⟨u1_0, u1_1, y1_0, y1_1, n1, rfl, rfl, _, g1_0, g1_1⟩ := Go.Joins.open_agg2 Try.underlying25 (by kernel_rfl) (by kernel_rfl) (hval 1 25 v1 rfl rfl) h1
  obtain ⟨l1_0, ad, w1_0⟩ := (opens_slice (K := Kd.bool) 4 Try.underlying22 (by kernel_rfl) rfl (opens_bool Try.underlying4)) _ _ _ g1_0
  obtain ⟨A1_0, c1_0, rfl, hc1_0, hr1_0⟩ := slice_of ad
  obtain ⟨l1_1, ae, w1_1⟩ := (opens_slice (K := (Kd.slice 3 (Kd.int .i64))) 67 Try.underlying23 (by kernel_rfl) rfl (opens_slice (K := (Kd.int .i64)) 3 Try.underlying67 (by kernel_rfl) rfl (opens_int Try.underlying3))) _ _ _ g1_1
  obtain ⟨A1_1, c1_1, rfl, hc1_1, hr1_1⟩ := slice_of ae
  clear hA0 hval0 hsz0 hsz
  have hk := Pure.FnExactConcatDfa l0_0 l0_1 l1_0 l1_1 w0_0 w0_1 w1_0 w1_1
  refine (P.laws_FnExactConcatDfa.calls A0_0 c0_0 l0_0 A0_1 c0_1 l0_1 A1_0 c1_0 l1_0 A1_1 c1_1 l1_1 true W hr0_0 hc0_0 hr0_1 hc0_1 hr1_0 hc1_0 hr1_1 hc1_1 hk rfl).mono fun e W' hh => ?_
  obtain ⟨he, bel0⟩ := hh
  have bel : Below W.heap.size W W' := bel0
  subst he
  exact ⟨_, rfl, _, _, _, [], _, [], hW', trodAll_mk1 (shut_bool Try.underlying4 _), (trodAll_cons_mk (Below.trod laidOut (by kernel_rfl) (of_decide_eq_true (by kernel_rfl)) k0 bel lt0) (trodAll_cons_mk (Below.trod laidOut (by kernel_rfl) (of_decide_eq_true (by kernel_rfl)) k1 bel lt1) trodAll_mk0)), rfl, bel.frame _, fun h => by cases h⟩
theorem over : Rows.fnExactConcatDfaRow.holds Try.pinned (OpenSpec.ofChange Rows.fnExactConcatDfaSpec) :=
  OpenClaim.holds_of_wide 6 Try.f6 rfl rfl rfl rfl rfl rfl rfl ⟨rfl, rfl, rfl, rfl, rfl⟩ rfl rfl rfl rfl rfl (by kernel_rfl) Try.func6 (by kernel_rfl)
    (of_decide_eq_true (by kernel_rfl)) (by unfold Func.isWrapper; first | (rw [if_pos (by decide +kernel)]; kernel_rfl) | (rw [if_neg (by decide +kernel)]; exact ⟨rfl, rfl⟩))
    (fun os started H enc _ => lifted os started H enc)
theorem proved : Rows.FnExactConcatDfaSaid := over
#print axioms proved
end Go.Proofs.Ytogamkblkoobkaa.fnExactConcatDfa
namespace Go.Proofs.Ytogamkblkoobkaa
theorem fnExactConcatDfa_holds : Rows.FnExactConcatDfaSaid := fnExactConcatDfa.proved
end Go.Proofs.Ytogamkblkoobkaa
end
