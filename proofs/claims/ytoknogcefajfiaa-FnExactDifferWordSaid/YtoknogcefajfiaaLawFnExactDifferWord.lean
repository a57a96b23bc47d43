/- The law FnExactDifferWord holds for every input. No condition. -/
import Derived.Test.YtoknogcefajfiaaRows
import Derived.Test.YtoknogcefajfiaaStFnExactDifferWord
import Derived.Test.YtoknogcefajfiaaPureFnExactDifferWord
import Derived.WalkKit
import Derived.ProofKit
import Derived.OpenShut
import Derived.ShutString
import Derived.ChangeOld
import Derived.Below
import Derived.SizedLaws
import Derived.Lib.SmallJoins
import Derived.Test.YtoknogcefajfiaaWSized
namespace Go.Proofs.Ytoknogcefajfiaa.fnExactDifferWord
open Go.ChangeShapes Go.WideShapes Go.ChangeAt Go.RowKit Go.Proofs.Ytoknogcefajfiaa.Rk Go.Proofs.YtoknogcefajfiaaW.PrintWords
open Go.ChangeMaps (open_string shut_string)
set_option linter.unusedVariables false
theorem own : ownKnob Try.prog.godebug = none := by kernel_rfl
theorem laidOut : laidOutB Try.prog = true := by kernel_rfl
set_option maxRecDepth 100000 in
theorem lifted (os : Os) (started : os.Started) (H : Type) (enc : TypeId × Value → H) :
    ReturnsInHanded {} Try.checked os 9 .any (Rows.fnExactDifferWordSpec.pre6 enc Try.prog Try.f9 Rows.fnExactDifferWordRow.domain false) (Rows.fnExactDifferWordSpec.post enc Try.prog Try.f9 false true false false) := by
  refine returnsInHanded_of_change_sized (C := Try.checked) own started (by kernel_rfl) Try.func9
    (ChangeSpec.witness6 (enc := enc) (C := Try.checked) false ⟨#[], #[.agg #[.slice none 0 0, .slice none 0 0], .agg #[.slice none 0 0, .slice none 0 0]], []⟩ 8 (by kernel_rfl) (by kernel_rfl) (by kernel_rfl) (by kernel_rfl)) ?_
  intro W base args ds gs before hval0 hW hcnd hsz0 _
  have hsz : (DataW.weightsEach Try.prog (Try.f9.params.toList ++ Rows.fnExactDifferWordSpec.plain.varTypes Try.prog) (ds ++ gs)).all (· ≤ reachBytes) = true := hsz0
  have hval : ∀ (j : Nat) t v, Try.f9.params[j]? = some t → args[j]? = some v → Value.okWide Try.prog W .any base t v := hval0
  have hW' := hW
  obtain ⟨p, q, hA0, hV, rfl, hfz, hnd⟩ := hW
  have hA : DataW.TrodAll enc Try.prog W 0 (fun _ => true) true Try.f9.params.toList args.toList ds p := hA0
  rw [Try.params9] at hA hval hsz
  obtain ⟨v0, vs0, d0, ds0, p0, q0, hargs, rfl, rfl, h0, r0⟩ := trodAll_cons hA
  obtain ⟨v1, vs1, d1, ds1, p1, q1, rfl, rfl, rfl, h1, r1⟩ := trodAll_cons r0
  obtain ⟨rfl, rfl, rfl⟩ := trodAll_nil r1
  obtain rfl : args = #[v0, v1] := by cases args; simp_all
  obtain ⟨rfl, rfl⟩ := trodVars_none hV
  have k0 := h0
  have lt0 : ∀ x ∈ p0, x.block < W.heap.size := by obtain ⟨m, hm⟩ := k0; exact DataW.trod_lt m _ _ _ hm
  obtain ⟨u0_0, u0_1, y0_0, y0_1, n0, rfl, rfl, _, g0_0, g0_1⟩ := Go.Joins.open_agg2 Try.underlying25 (by kernel_rfl) (by kernel_rfl) (hval 0 25 v0 rfl rfl) h0
  obtain ⟨l0_0, hx0_0, w0_0⟩ := (opens_slice (K := Kd.bool) 4 Try.underlying22 (by kernel_rfl) rfl (opens_bool Try.underlying4)) _ _ _ g0_0
  obtain ⟨A0_0, c0_0, rfl, hc0_0, hr0_0⟩ := slice_of hx0_0
  obtain ⟨l0_1, hx0_1, w0_1⟩ := (opens_slice (K := (Kd.slice 3 (Kd.int .i64))) 54 Try.underlying23 (by kernel_rfl) rfl (opens_slice (K := (Kd.int .i64)) 3 Try.underlying54 (by kernel_rfl) rfl (opens_int Try.underlying3))) _ _ _ g0_1
  obtain ⟨A0_1, c0_1, rfl, hc0_1, hr0_1⟩ := slice_of hx0_1
  have k1 := h1
  have lt1 : ∀ x ∈ p1, x.block < W.heap.size := by obtain ⟨m, hm⟩ := k1; exact DataW.trod_lt m _ _ _ hm
  obtain ⟨u1_0, u1_1, y1_0, y1_1, n1, rfl, rfl, _, g1_0, g1_1⟩ := Go.Joins.open_agg2 Try.underlying25 (by kernel_rfl) (by kernel_rfl) (hval 1 25 v1 rfl rfl) h1
  obtain ⟨l1_0, hx1_0, w1_0⟩ := (opens_slice (K := Kd.bool) 4 Try.underlying22 (by kernel_rfl) rfl (opens_bool Try.underlying4)) _ _ _ g1_0
  obtain ⟨A1_0, c1_0, rfl, hc1_0, hr1_0⟩ := slice_of hx1_0
  obtain ⟨l1_1, hx1_1, w1_1⟩ := (opens_slice (K := (Kd.slice 3 (Kd.int .i64))) 54 Try.underlying23 (by kernel_rfl) rfl (opens_slice (K := (Kd.int .i64)) 3 Try.underlying54 (by kernel_rfl) rfl (opens_int Try.underlying3))) _ _ _ g1_1
  obtain ⟨A1_1, c1_1, rfl, hc1_1, hr1_1⟩ := slice_of hx1_1
  clear hA0 hval0 hsz0 hsz
  obtain ⟨k, hk⟩ := Pure.FnExactDifferWord l0_0 l0_1 l1_0 l1_1 w0_0 w0_1 w1_0 w1_1
  refine (P.laws_FnExactDifferWord.calls k A0_0 c0_0 l0_0 A0_1 c0_1 l0_1 A1_0 c1_0 l1_0 A1_1 c1_1 l1_1 true W hr0_0 hc0_0 hr0_1 hc0_1 hr1_0 hc1_0 hr1_1 hc1_1 hk rfl).mono fun e W' hh => ?_
  obtain ⟨he, bel0⟩ := hh
  have bel : Below W.heap.size W W' := bel0
  subst he
  exact ⟨_, rfl, _, _, _, [], _, [], hW', trodAll_mk1 (shut_bool Try.underlying4 _), (trodAll_cons_mk (Below.trod laidOut (by kernel_rfl) (of_decide_eq_true (by kernel_rfl)) k0 bel lt0) (trodAll_cons_mk (Below.trod laidOut (by kernel_rfl) (of_decide_eq_true (by kernel_rfl)) k1 bel lt1) trodAll_mk0)), rfl, bel.frame _, fun h => by cases h⟩
theorem over : Rows.fnExactDifferWordRow.holds Try.pinned (OpenSpec.ofChange Rows.fnExactDifferWordSpec) :=
  OpenClaim.holds_of_wide 9 Try.f9 rfl rfl rfl rfl rfl rfl rfl ⟨rfl, rfl, rfl, rfl, rfl⟩ rfl rfl rfl rfl rfl (by kernel_rfl) Try.func9 (by kernel_rfl)
    (of_decide_eq_true (by kernel_rfl)) (by unfold Func.isWrapper; first | (rw [if_pos (by decide +kernel)]; kernel_rfl) | (rw [if_neg (by decide +kernel)]; exact ⟨rfl, rfl⟩))
    (fun os started H enc _ => lifted os started H enc)
theorem proved : Rows.FnExactDifferWordSaid := over
#print axioms proved
end Go.Proofs.Ytoknogcefajfiaa.fnExactDifferWord
namespace Go.Proofs.Ytoknogcefajfiaa
/-- The row, under a short name, for the claim. -/
theorem fnExactDifferWord_holds : Rows.FnExactDifferWordSaid := fnExactDifferWord.proved
end Go.Proofs.Ytoknogcefajfiaa
