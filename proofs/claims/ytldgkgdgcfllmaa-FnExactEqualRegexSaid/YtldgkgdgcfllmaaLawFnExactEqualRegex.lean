/- The law FnExactEqualRegex holds for every input. No condition. -/
import Derived.Test.YtldgkgdgcfllmaaRows
import Derived.Test.YtldgkgdgcfllmaaStFnExactEqualRegex
import Derived.Test.YtldgkgdgcfllmaaPureFnExactEqualRegex
import Derived.WalkKit
import Derived.ProofKit
import Derived.OpenShut
import Derived.ShutString
import Derived.ChangeOld
import Derived.Below
import Derived.SizedLaws
import Derived.Lib.SmallJoins
import Derived.Test.YtldgkgdgcfllmaaWSized
namespace Go.Proofs.Ytldgkgdgcfllmaa.fnExactEqualRegex
open Go.ChangeShapes Go.WideShapes Go.ChangeAt Go.RowKit Go.Proofs.Ytldgkgdgcfllmaa.Rk Go.Proofs.YtldgkgdgcfllmaaW.PrintWords
open Go.ChangeMaps (open_string shut_string)
set_option linter.unusedVariables false
theorem own : ownKnob Try.prog.godebug = none := by kernel_rfl
theorem laidOut : laidOutB Try.prog = true := by kernel_rfl
set_option maxRecDepth 100000 in
theorem lifted (os : Os) (started : os.Started) (H : Type) (enc : TypeId × Value → H) :
    ReturnsInHanded {} Try.checked os 3 .any (Rows.fnExactEqualRegexSpec.pre6 enc Try.prog Try.f3 Rows.fnExactEqualRegexRow.domain false) (Rows.fnExactEqualRegexSpec.post enc Try.prog Try.f3 false true false false) := by
  refine returnsInHanded_of_change_sized (C := Try.checked) own started (by kernel_rfl) Try.func3
    (ChangeSpec.witness6 (enc := enc) (C := Try.checked) false ⟨#[], #[.agg #[.int .i64 0, .string ByteArray.empty, .slice none 0 0], .agg #[.int .i64 0, .string ByteArray.empty, .slice none 0 0]], []⟩ 8 (by kernel_rfl) (by kernel_rfl) (by kernel_rfl) (by kernel_rfl)) ?_
  intro W base args ds gs before hval0 hW hcnd hsz0 _
  have hsz : (DataW.weightsEach Try.prog (Try.f3.params.toList ++ Rows.fnExactEqualRegexSpec.plain.varTypes Try.prog) (ds ++ gs)).all (· ≤ reachBytes) = true := hsz0
  have hval : ∀ (j : Nat) t v, Try.f3.params[j]? = some t → args[j]? = some v → Value.okWide Try.prog W .any base t v := hval0
  have hW' := hW
  obtain ⟨p, q, hA0, hV, rfl, hfz, hnd⟩ := hW
  have hA : DataW.TrodAll enc Try.prog W 0 (fun _ => true) true Try.f3.params.toList args.toList ds p := hA0
  rw [Try.params3] at hA hval hsz
  obtain ⟨v0, vs0, d0, ds0, p0, q0, hargs, rfl, rfl, h0, r0⟩ := trodAll_cons hA
  obtain ⟨v1, vs1, d1, ds1, p1, q1, rfl, rfl, rfl, h1, r1⟩ := trodAll_cons r0
  obtain ⟨rfl, rfl, rfl⟩ := trodAll_nil r1
  obtain rfl : args = #[v0, v1] := by cases args; simp_all
  obtain ⟨rfl, rfl⟩ := trodVars_none hV
  have k0 := h0
  have lt0 : ∀ x ∈ p0, x.block < W.heap.size := by obtain ⟨m, hm⟩ := k0; exact DataW.trod_lt m _ _ _ hm
  obtain ⟨u0_0, u0_1, u0_2, y0_0, y0_1, y0_2, n0, rfl, rfl, _, g0_0, g0_1, g0_2⟩ := Go.Joins.open_agg3 Try.underlying24 (by kernel_rfl) (by kernel_rfl) (hval 0 24 v0 rfl rfl) h0
  obtain ⟨l0_0, hx0_0, w0_0⟩ := (opens_int Try.underlying3) _ _ _ g0_0
  obtain rfl := (List.cons.inj (show [u0_0] = [Value.int .i64 l0_0] from hx0_0)).1
  obtain ⟨l0_1, hx0_1, w0_1⟩ := (opens_string Try.underlying9) _ _ _ g0_1
  obtain rfl := (List.cons.inj (show [u0_1] = [Value.string l0_1] from hx0_1)).1
  obtain ⟨l0_2, hx0_2, w0_2⟩ := opens_trees _ _ _ g0_2
  obtain ⟨A0_2, c0_2, rfl, hc0_2, hr0_2⟩ := slice_of hx0_2
  have k1 := h1
  have lt1 : ∀ x ∈ p1, x.block < W.heap.size := by obtain ⟨m, hm⟩ := k1; exact DataW.trod_lt m _ _ _ hm
  obtain ⟨u1_0, u1_1, u1_2, y1_0, y1_1, y1_2, n1, rfl, rfl, _, g1_0, g1_1, g1_2⟩ := Go.Joins.open_agg3 Try.underlying24 (by kernel_rfl) (by kernel_rfl) (hval 1 24 v1 rfl rfl) h1
  obtain ⟨l1_0, hx1_0, w1_0⟩ := (opens_int Try.underlying3) _ _ _ g1_0
  obtain rfl := (List.cons.inj (show [u1_0] = [Value.int .i64 l1_0] from hx1_0)).1
  obtain ⟨l1_1, hx1_1, w1_1⟩ := (opens_string Try.underlying9) _ _ _ g1_1
  obtain rfl := (List.cons.inj (show [u1_1] = [Value.string l1_1] from hx1_1)).1
  obtain ⟨l1_2, hx1_2, w1_2⟩ := opens_trees _ _ _ g1_2
  obtain ⟨A1_2, c1_2, rfl, hc1_2, hr1_2⟩ := slice_of hx1_2
  clear hA0 hval0 hsz0 hsz
  obtain ⟨k, hk⟩ := Pure.FnExactEqualRegex l0_0 l0_1 l0_2 l1_0 l1_1 l1_2 w0_0 w0_1 w0_2 w1_0 w1_1 w1_2
  refine (P.laws_FnExactEqualRegex.calls k l0_0 l0_1 A0_2 c0_2 l0_2 l1_0 l1_1 A1_2 c1_2 l1_2 true W hr0_2 hc0_2 hr1_2 hc1_2 hk rfl).mono fun e W' hh => ?_
  obtain ⟨he, bel0⟩ := hh
  have bel : Below W.heap.size W W' := bel0
  subst he
  exact ⟨_, rfl, _, _, _, [], _, [], hW', trodAll_mk1 (shut_bool Try.underlying4 _), (trodAll_cons_mk (Below.trod laidOut (by kernel_rfl) (of_decide_eq_true (by kernel_rfl)) k0 bel lt0) (trodAll_cons_mk (Below.trod laidOut (by kernel_rfl) (of_decide_eq_true (by kernel_rfl)) k1 bel lt1) trodAll_mk0)), rfl, bel.frame _, fun h => by cases h⟩
theorem over : Rows.fnExactEqualRegexRow.holds Try.pinned (OpenSpec.ofChange Rows.fnExactEqualRegexSpec) :=
  OpenClaim.holds_of_wide 3 Try.f3 rfl rfl rfl rfl rfl rfl rfl ⟨rfl, rfl, rfl, rfl, rfl⟩ rfl rfl rfl rfl rfl (by kernel_rfl) Try.func3 (by kernel_rfl)
    (of_decide_eq_true (by kernel_rfl)) (by unfold Func.isWrapper; first | (rw [if_pos (by decide +kernel)]; kernel_rfl) | (rw [if_neg (by decide +kernel)]; exact ⟨rfl, rfl⟩))
    (fun os started H enc _ => lifted os started H enc)
theorem proved : Rows.FnExactEqualRegexSaid := over
#print axioms proved
end Go.Proofs.Ytldgkgdgcfllmaa.fnExactEqualRegex
namespace Go.Proofs.Ytldgkgdgcfllmaa
/-- The row, under a short name, for the claim. -/
theorem fnExactEqualRegex_holds : Rows.FnExactEqualRegexSaid := fnExactEqualRegex.proved
end Go.Proofs.Ytldgkgdgcfllmaa
