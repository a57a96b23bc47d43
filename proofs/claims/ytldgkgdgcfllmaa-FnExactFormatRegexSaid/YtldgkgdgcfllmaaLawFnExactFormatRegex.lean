/- The law FnExactFormatRegex holds for every input. No condition. -/
import Derived.Test.YtldgkgdgcfllmaaRows
import Derived.Test.YtldgkgdgcfllmaaStFnExactFormatRegex
import Derived.Test.YtldgkgdgcfllmaaPureFnExactFormatRegex
import Derived.WalkKit
import Derived.ProofKit
import Derived.OpenShut
import Derived.ShutString
import Derived.ChangeOld
import Derived.Below
import Derived.SizedLaws
import Derived.Lib.SmallJoins
import Derived.Test.YtldgkgdgcfllmaaWSized
namespace Go.Proofs.Ytldgkgdgcfllmaa.fnExactFormatRegex
open Go.ChangeShapes Go.WideShapes Go.ChangeAt Go.RowKit Go.Proofs.Ytldgkgdgcfllmaa.Rk Go.Proofs.YtldgkgdgcfllmaaW.PrintWords
open Go.ChangeMaps (open_string shut_string)
set_option linter.unusedVariables false
theorem own : ownKnob Try.prog.godebug = none := by kernel_rfl
theorem laidOut : laidOutB Try.prog = true := by kernel_rfl
set_option maxRecDepth 100000 in
theorem lifted (os : Os) (started : os.Started) (H : Type) (enc : TypeId × Value → H) :
    ReturnsInHanded {} Try.checked os 5 .any (Rows.fnExactFormatRegexSpec.pre6 enc Try.prog Try.f5 Rows.fnExactFormatRegexRow.domain false) (Rows.fnExactFormatRegexSpec.post enc Try.prog Try.f5 false true false false) := by
  refine returnsInHanded_of_change_sized (C := Try.checked) own started (by kernel_rfl) Try.func5
    (ChangeSpec.witness6 (enc := enc) (C := Try.checked) false ⟨#[], #[.agg #[.int .i64 0, .string ByteArray.empty, .slice none 0 0]], []⟩ 8 (by kernel_rfl) (by kernel_rfl) (by kernel_rfl) (by kernel_rfl)) ?_
  intro W base args ds gs before hval0 hW hcnd hsz0 _
  have hsz : (DataW.weightsEach Try.prog (Try.f5.params.toList ++ Rows.fnExactFormatRegexSpec.plain.varTypes Try.prog) (ds ++ gs)).all (· ≤ reachBytes) = true := hsz0
  have hval : ∀ (j : Nat) t v, Try.f5.params[j]? = some t → args[j]? = some v → Value.okWide Try.prog W .any base t v := hval0
  have hW' := hW
  obtain ⟨p, q, hA0, hV, rfl, hfz, hnd⟩ := hW
  have hA : DataW.TrodAll enc Try.prog W 0 (fun _ => true) true Try.f5.params.toList args.toList ds p := hA0
  rw [Try.params5] at hA hval hsz
  obtain ⟨v0, vs0, d0, ds0, p0, q0, hargs, rfl, rfl, h0, r0⟩ := trodAll_cons hA
  obtain ⟨rfl, rfl, rfl⟩ := trodAll_nil r0
  obtain rfl : args = #[v0] := by cases args; simp_all
  obtain ⟨rfl, rfl⟩ := trodVars_none hV
  have k0 := h0
  have lt0 : ∀ x ∈ p0, x.block < W.heap.size := by obtain ⟨m, hm⟩ := k0; exact DataW.trod_lt m _ _ _ hm
  obtain ⟨u0_0, u0_1, u0_2, y0_0, y0_1, y0_2, n0, rfl, rfl, _, g0_0, g0_1, g0_2⟩ := Go.Joins.open_agg3 Try.underlying24 (by kernel_rfl) (by kernel_rfl) (hval 0 24 v0 rfl rfl) h0
  obtain ⟨l0_0, hx0_0, w0_0⟩ := (opens_int Try.underlying3) _ _ _ g0_0
  obtain rfl := (List.cons.inj (show [u0_0] = [Value.int .i64 l0_0] from hx0_0)).1
  obtain ⟨l0_1, hx0_1, w0_1⟩ := (opens_string Try.underlying9) _ _ _ g0_1
  obtain rfl := (List.cons.inj (show [u0_1] = [Value.string l0_1] from hx0_1)).1
  obtain ⟨l0_2, hx0_2, w0_2⟩ := opens_trees _ _ _ g0_2
  obtain ⟨A0_2, c0_2, rfl, hc0_2, hr0_2⟩ := slice_of hx0_2
  clear hA0 hval0 hsz0 hsz
  obtain ⟨k, hk⟩ := Pure.FnExactFormatRegex l0_0 l0_1 l0_2 w0_0 w0_1 w0_2
  refine (P.laws_FnExactFormatRegex.calls k l0_0 l0_1 A0_2 c0_2 l0_2 true W hr0_2 hc0_2 hk rfl).mono fun e W' hh => ?_
  obtain ⟨he, bel0⟩ := hh
  have bel : Below W.heap.size W W' := bel0
  subst he
  exact ⟨_, rfl, _, _, _, [], _, [], hW', trodAll_mk1 (shut_bool Try.underlying4 _), (trodAll_cons_mk (Below.trod laidOut (by kernel_rfl) (of_decide_eq_true (by kernel_rfl)) k0 bel lt0) trodAll_mk0), rfl, bel.frame _, fun h => by cases h⟩
theorem over : Rows.fnExactFormatRegexRow.holds Try.pinned (OpenSpec.ofChange Rows.fnExactFormatRegexSpec) :=
  OpenClaim.holds_of_wide 5 Try.f5 rfl rfl rfl rfl rfl rfl rfl ⟨rfl, rfl, rfl, rfl, rfl⟩ rfl rfl rfl rfl rfl (by kernel_rfl) Try.func5 (by kernel_rfl)
    (of_decide_eq_true (by kernel_rfl)) (by unfold Func.isWrapper; first | (rw [if_pos (by decide +kernel)]; kernel_rfl) | (rw [if_neg (by decide +kernel)]; exact ⟨rfl, rfl⟩))
    (fun os started H enc _ => lifted os started H enc)
theorem proved : Rows.FnExactFormatRegexSaid := over
#print axioms proved
end Go.Proofs.Ytldgkgdgcfllmaa.fnExactFormatRegex
namespace Go.Proofs.Ytldgkgdgcfllmaa
/-- The row, under a short name, for the claim. -/
theorem fnExactFormatRegex_holds : Rows.FnExactFormatRegexSaid := fnExactFormatRegex.proved
end Go.Proofs.Ytldgkgdgcfllmaa
