/- The law FnExactDerivativeOf holds for every input. No condition. -/
import Derived.Test.YtldgkgdgcfllmaaQFnExactDerivativeOf2
import Derived.Test.YtldgkgdgcfllmaaQFnExactDerivativeOf13
import Derived.Test.YtldgkgdgcfllmaaQFnExactDerivativeOf10
import Derived.Test.YtldgkgdgcfllmaaQFnExactDerivativeOf12
import Derived.Test.YtldgkgdgcfllmaaRows
import Derived.WalkKit
import Derived.ProofKit
import Derived.OpenShut
import Derived.ShutString
import Derived.ChangeOld
import Derived.Below
import Derived.SizedLaws
import Derived.Lib.SmallJoins
import Derived.ChangeSlices
section
namespace Go.Proofs.Ytldgkgdgcfllmaa
open Go.RowKit Go.Shelf Go.Proofs.Ytldgkgdgcfllmaa.P Go.Proofs.Ytldgkgdgcfllmaa.Pl Go.Proofs.Ytldgkgdgcfllmaa.Rg Go.Proofs.Ytldgkgdgcfllmaa.Rk Go.Proofs.YtldgkgdgcfllmaaW.PrintWords Go.Proofs.YtldgkgdgcfllmaaW.PrintLast Go.Proofs.YtldgkgdgcfllmaaW.PrintMore
set_option linter.unusedVariables false
set_option linter.unusedSimpArgs false
theorem thin_tr : ∀ y : Rx, Lt y → Thin (tr y) ∧ cnt (tr y) = sz y
  | .none, _ => ⟨Thin.mk _ (by simp [tr]) (by show (⟨#[]⟩ : ByteArray).size ≤ _; decide) (fun y hy => by simp [tr] at hy), by simp [tr, cnt, cnts, sz]⟩
  | .empty, _ => ⟨Thin.mk _ (by simp [tr]) (by show (⟨#[]⟩ : ByteArray).size ≤ _; decide) (fun y hy => by simp [tr] at hy), by simp [tr, cnt, cnts, sz]⟩
  | .any, _ => ⟨Thin.mk _ (by simp [tr]) (by show (⟨#[]⟩ : ByteArray).size ≤ _; decide) (fun y hy => by simp [tr] at hy), by simp [tr, cnt, cnts, sz]⟩
  | .letter l, h => ⟨Thin.mk _ (by simp [tr]) (by have h1 : l.size = 1 := h; show l.size ≤ _; omega) (fun y hy => by simp [tr] at hy), by simp [tr, cnt, cnts, sz]⟩
  | .cat x y, h => by
    have h1 := thin_tr x h.1
    have h2 := thin_tr y h.2
    exact ⟨Thin.mk _ (by simp [tr]) (by show (⟨#[]⟩ : ByteArray).size ≤ _; decide) (fun z hz => by simp only [tr, List.mem_cons, List.not_mem_nil, or_false] at hz; rcases hz with rfl | rfl; exact h1.1; exact h2.1), by simp only [tr, cnt, cnts, sz]; omega⟩
  | .or x y, h => by
    have h1 := thin_tr x h.1
    have h2 := thin_tr y h.2
    exact ⟨Thin.mk _ (by simp [tr]) (by show (⟨#[]⟩ : ByteArray).size ≤ _; decide) (fun z hz => by simp only [tr, List.mem_cons, List.not_mem_nil, or_false] at hz; rcases hz with rfl | rfl; exact h1.1; exact h2.1), by simp only [tr, cnt, cnts, sz]; omega⟩
  | .and x y, h => by
    have h1 := thin_tr x h.1
    have h2 := thin_tr y h.2
    exact ⟨Thin.mk _ (by simp [tr]) (by show (⟨#[]⟩ : ByteArray).size ≤ _; decide) (fun z hz => by simp only [tr, List.mem_cons, List.not_mem_nil, or_false] at hz; rcases hz with rfl | rfl; exact h1.1; exact h2.1), by simp only [tr, cnt, cnts, sz]; omega⟩
  | .star x, h => by
    have h1 := thin_tr x h
    exact ⟨Thin.mk _ (by simp [tr]) (by show (⟨#[]⟩ : ByteArray).size ≤ _; decide) (fun z hz => by simp only [tr, List.mem_cons, List.not_mem_nil, or_false] at hz; rw [hz]; exact h1.1), by simp only [tr, cnt, cnts, sz]; omega⟩
  | .not x, h => by
    have h1 := thin_tr x h
    exact ⟨Thin.mk _ (by simp [tr]) (by show (⟨#[]⟩ : ByteArray).size ≤ _; decide) (fun z hz => by simp only [tr, List.mem_cons, List.not_mem_nil, or_false] at hz; rw [hz]; exact h1.1), by simp only [tr, cnt, cnts, sz]; omega⟩
theorem dof_ok (s : ByteArray) (x : TI) : Thin (dofT s x) ∧ cnt (dofT s x) ≤ 1000 := by
  unfold dofT
  split
  · rename_i h
    obtain ⟨y, rfl, hl, hz⟩ := validR_tr h.1
    rw [drT_tr s y (by omega)]
    have h1 := thin_tr (drv s y) (drv_lt s y hl)
    have h2 := drv_sz s y
    have h3 : sz y * sz y ≤ 16 * 16 := Nat.mul_le_mul hz hz
    exact ⟨h1.1, by rw [h1.2]; omega⟩
  · exact ⟨Thin.mk _ (by simp) (by decide) (fun y hy => by simp at hy), by simp [cnt, cnts]⟩
set_option maxHeartbeats 4000000 in
set_option maxRecDepth 100000 in
theorem lawDo (x : TL) (hx : OkT x) (s : ByteArray) (hs : s.size ≤ 140737488351232) (A : Option Addr) (c : Nat) (w : World) (hC : Kd.C k24 w A x.f2.length x.f2) (hc : x.f2.length ≤ c) :
    Calls Try.prog 9 #[tvL x A c, .string s] w fun e w' => e = .returned (.bool true) ∧ Below w.heap.size w w' := by
  by_cases h1 : 1048576 < s.size
  · have q1 : decide ((s.size : Int) > 1048576) = true := decide_eq_true (by omega)
    have q2 : ((1048576 : Int) < (s.size : Int)) = True := eq_true (by omega)
    have H := Sl.start w
    clear hx hs hC hc h1
    go_enter Try.func9, Try.ntmps9
    go_wp2_with (refine nw_ H 2 #[.int .i64 x.f0, .string x.f1, .slice A x.f2.length c] 24 rfl ?_; clear H; intro g0 w1 H; have F0 := H.f3 0)
    go_ret
    exact ⟨rfl, H.bel⟩
  obtain ⟨k, hk⟩ := (sz_tree x hx 1048576 (by omega)).rounds
  unfold lft at hk
  by_cases h2 : wt x ≤ 1048576
  · rw [if_pos h2] at hk
    have hd := dof_ok s (cv x)
    have hcq := cnt_eq (dofT s (cv x))
    have hct := cnt_eq (cv x)
    have hcv := cnt_cv x
    have hnd := nd_cv x
    have ht := thin_cv x h2
    exact lawDo0 x s (cv x) (dofT s (cv x)) A c w k _ (by omega) hk hC hc (fun w' hb => toAt x h2 A c w' (Kd.C_below hC hb) hc) (doSpec (cv x) ht (by omega) s hs) (doImpl (cv x) ht (by omega) s hs) ht hd.1 (by omega) (by omega) (by omega)
  · rw [if_neg h2] at hk
    have q1 : decide ((s.size : Int) > 1048576) = false := decide_eq_false (by omega)
    have q2 : ((1048576 : Int) < (s.size : Int)) = False := eq_false (by omega)
    have H := Sl.start w
    have HC := am_ hC
    have HL := am_ hc
    have HK := am_ hk
    have hu := Try.underlying24
    clear hx hs hC hc h1 h2 hk
    go_enter Try.func9, Try.ntmps9
    go_wp2_with (first | (refine nw_ H 2 #[.int .i64 x.f0, .string x.f1, .slice A x.f2.length c] 24 rfl ?_; clear H; intro g0 w1 H; have F0 := H.f3 0) |
      ((with_reducible refine gate_dst (N := 18) rfl ?_); refine gL_ (some 18) Try.func12 #[tvL x A c, .int .i64 1048576] ?_; refine (laws_szRegex.calls k x.f0 x.f1 A c x.f2 1048576 (-1) _ (Kd.C_below HC.out H.bel) HL.out HK.out).mono ?_; rintro e w2 ⟨rfl, hb⟩; replace H := H.only hb; clear hb F0; refine ⟨_, rfl, ?_⟩))
    go_ret
    exact ⟨rfl, H.bel⟩
end Go.Proofs.Ytldgkgdgcfllmaa
end
section
namespace Go.Proofs.Ytldgkgdgcfllmaa.P
open Go.RowKit Go.Proofs.YtldgkgdgcfllmaaW.PrintWords Go.Proofs.YtldgkgdgcfllmaaW.PrintLast Go.Proofs.YtldgkgdgcfllmaaW.PrintMore
attribute [local go_sem] max2_int min2_int max_two min_two max_three min_three max_four min_four
set_option linter.unusedVariables false
set_option linter.unusedSimpArgs false
open Classical in
noncomputable def laws_FnExactDerivativeOf.f (a0_0 : Int) (a0_1 : ByteArray) (l0_2 : List S24) (a1 : ByteArray) : Option Bool := if Rk.OkT ⟨a0_0, a0_1, l0_2⟩ ∧ a1.size ≤ 140737488351232 then some true else none
theorem laws_FnExactDerivativeOf.calls (a0_0 : Int) (a0_1 : ByteArray) (A0_2 : Option Addr) (c0_2 : Nat) (l0_2 : List S24) (a1 : ByteArray) (r : Bool) (w : World) (hr0_2 : Kd.C k24 w A0_2 l0_2.length l0_2) (hc0_2 : l0_2.length ≤ c0_2) (h : laws_FnExactDerivativeOf.f a0_0 a0_1 l0_2 a1 = some r) (hR : r = true) :
    Calls Try.prog 9 #[.agg #[.int .i64 a0_0, .string a0_1, .slice A0_2 l0_2.length c0_2], .string a1] w fun e w' => e = .returned (.bool r) ∧ Below w.heap.size w w' := by
  unfold laws_FnExactDerivativeOf.f at h
  subst hR
  split at h
  · rename_i hp
    exact lawDo ⟨a0_0, a0_1, l0_2⟩ hp.1 a1 hp.2 A0_2 c0_2 w hr0_2 hc0_2
  · cases h
end Go.Proofs.Ytldgkgdgcfllmaa.P
end
section
namespace Go.Proofs.Ytldgkgdgcfllmaa.St
open Go.Proofs.Ytldgkgdgcfllmaa Go.Proofs.Ytldgkgdgcfllmaa.P Rk
def FnExactDerivativeOf : Prop := ∀ (l0_0 : Int) (l0_1 : ByteArray) (l0_2 : List (S24)) (a1 : ByteArray), (wfI .i64) l0_0 → shortS l0_1 → (rowsOf OkT) l0_2 → a1.size ≤ 140737488351232 → P.laws_FnExactDerivativeOf.f l0_0 l0_1 l0_2 a1 = some true
end Go.Proofs.Ytldgkgdgcfllmaa.St
end
section
namespace Go.Proofs.Ytldgkgdgcfllmaa.Pl
open Go.RowKit Go.Proofs.Ytldgkgdgcfllmaa Go.Proofs.Ytldgkgdgcfllmaa.P Go.Proofs.YtldgkgdgcfllmaaW.PrintWords Go.Proofs.YtldgkgdgcfllmaaW.PrintLast Go.Proofs.YtldgkgdgcfllmaaW.PrintMore Rk
set_option linter.unusedVariables false
theorem pureFnExactDerivativeOf : St.FnExactDerivativeOf := by
  intro a s l m wa ws wl wm
  unfold laws_FnExactDerivativeOf.f
  rw [if_pos ⟨OkT.mk _ wa ws wl.1 wl.2, wm⟩]
end Go.Proofs.Ytldgkgdgcfllmaa.Pl
end
section
namespace Go.Proofs.Ytldgkgdgcfllmaa.Pure
theorem FnExactDerivativeOf : St.FnExactDerivativeOf := Pl.pureFnExactDerivativeOf
end Go.Proofs.Ytldgkgdgcfllmaa.Pure
end
section
namespace Go.Proofs.Ytldgkgdgcfllmaa.fnExactDerivativeOf
open Go.ChangeShapes Go.WideShapes Go.ChangeAt Go.RowKit Go.Proofs.Ytldgkgdgcfllmaa.Rk Go.Proofs.YtldgkgdgcfllmaaW.PrintWords
open Go.ChangeMaps (open_string shut_string)
set_option linter.unusedVariables false
theorem own : ownKnob Try.prog.godebug = none := by kernel_rfl
theorem laidOut : laidOutB Try.prog = true := by kernel_rfl
set_option maxRecDepth 100000 in
theorem lifted (os : Os) (started : os.Started) (H : Type) (enc : TypeId × Value → H) :
    ReturnsInHanded {} Try.checked os 9 .any (Rows.fnExactDerivativeOfSpec.pre6 enc Try.prog Try.f9 Rows.fnExactDerivativeOfRow.domain false) (Rows.fnExactDerivativeOfSpec.post enc Try.prog Try.f9 false true false false) := by
  refine returnsInHanded_of_change_sized (C := Try.checked) own started (by kernel_rfl) Try.func9
    (ChangeSpec.witness6 (enc := enc) (C := Try.checked) false ⟨#[], #[.agg #[.int .i64 0, .string ByteArray.empty, .slice none 0 0], .string ByteArray.empty], []⟩ 8 (by kernel_rfl) (by kernel_rfl) (by kernel_rfl) (by kernel_rfl)) ?_
  intro W base args ds gs before hval0 hW hcnd hsz0 _
  have hsz : (DataW.weightsEach Try.prog (Try.f9.params.toList ++ Rows.fnExactDerivativeOfSpec.plain.varTypes Try.prog) (ds ++ gs)).all (· ≤ reachBytes) = true := hsz0
  have hval : ∀ (j : Nat) t v, Try.f9.params[j]? = some t → args[j]? = some v → Value.okWide Try.prog W .any base t v := hval0
  have hW' := hW
  obtain ⟨p, q, hA0, hV, rfl, hfz, hnd⟩ := hW
  have hA : DataW.TrodAll enc Try.prog W 0 (fun _ => true) true Try.f9.params.toList args.toList ds p := hA0
  rw [Try.params9] at hA hval hsz
  obtain ⟨v0, vs0, d0, ds0, p0, q0, hargs, rfl, rfl, h0, r0⟩ := trodAll_cons hA
  obtain ⟨v1, vs1, d1, ds1, p1, q1, rfl, rfl, rfl, h1, r1⟩ := trodAll_cons r0
  obtain ⟨rfl, rfl, rfl⟩ := trodAll_nil r1
  obtain rfl : args = #[v0, v1] := by cases args; simp_all
  obtain ⟨rfl, rfl⟩ := trodVars_none hV
  have k0 := h0
  have lt0 : ∀ x ∈ p0, x.block < W.heap.size := by obtain ⟨m, hm⟩ := k0; exact DataW.trod_lt m _ _ _ hm
  obtain ⟨u0_0, u0_1, u0_2, y0_0, y0_1, y0_2, n0, rfl, rfl, _, g0_0, g0_1, g0_2⟩ := Go.Joins.open_agg3 Try.underlying24 (by kernel_rfl) (by kernel_rfl) (hval 0 24 v0 rfl rfl) h0
  obtain ⟨l0_0, aa, w0_0⟩ := (opens_int Try.underlying3) _ _ _ g0_0
  obtain rfl := (List.cons.inj (show [u0_0] = [Value.int .i64 l0_0] from aa)).1
  obtain ⟨l0_1, ab, w0_1⟩ := (opens_string Try.underlying9) _ _ _ g0_1
  obtain rfl := (List.cons.inj (show [u0_1] = [Value.string l0_1] from ab)).1
  obtain ⟨l0_2, ad, w0_2⟩ := opens_trees _ _ _ g0_2
  obtain ⟨A0_2, c0_2, rfl, hc0_2, hr0_2⟩ := slice_of ad
  obtain ⟨a1, rfl, rfl, rfl, y1⟩ := open_string Try.underlying9 (hval 1 9 v1 rfl rfl) h1
  have w1 : a1.size ≤ 140737488351232 := by
    have z := sized_string hsz (j := 1) (t := 9) rfl rfl
    rw [Array.length_toList] at z
    exact z
  clear hA0 hval0 hsz0 hsz
  have hk := Pure.FnExactDerivativeOf l0_0 l0_1 l0_2 a1 w0_0 w0_1 w0_2 w1
  refine (P.laws_FnExactDerivativeOf.calls l0_0 l0_1 A0_2 c0_2 l0_2 a1 true W hr0_2 hc0_2 hk rfl).mono fun e W' hh => ?_
  obtain ⟨he, bel0⟩ := hh
  have bel : Below W.heap.size W W' := bel0
  subst he
  exact ⟨_, rfl, _, _, _, [], _, [], hW', trodAll_mk1 (shut_bool Try.underlying4 _), (trodAll_cons_mk (Below.trod laidOut (by kernel_rfl) (of_decide_eq_true (by kernel_rfl)) k0 bel lt0) (trodAll_cons_mk (shut_string Try.underlying9 y1) trodAll_mk0)), rfl, bel.frame _, fun h => by cases h⟩
theorem over : Rows.fnExactDerivativeOfRow.holds Try.pinned (OpenSpec.ofChange Rows.fnExactDerivativeOfSpec) :=
  OpenClaim.holds_of_wide 9 Try.f9 rfl rfl rfl rfl rfl rfl rfl ⟨rfl, rfl, rfl, rfl, rfl⟩ rfl rfl rfl rfl rfl (by kernel_rfl) Try.func9 (by kernel_rfl)
    (of_decide_eq_true (by kernel_rfl)) (by unfold Func.isWrapper; first | (rw [if_pos (by decide +kernel)]; kernel_rfl) | (rw [if_neg (by decide +kernel)]; exact ⟨rfl, rfl⟩))
    (fun os started H enc _ => lifted os started H enc)
theorem proved : Rows.FnExactDerivativeOfSaid := over
#print axioms proved
end Go.Proofs.Ytldgkgdgcfllmaa.fnExactDerivativeOf
namespace Go.Proofs.Ytldgkgdgcfllmaa
theorem fnExactDerivativeOf_holds : Rows.FnExactDerivativeOfSaid := fnExactDerivativeOf.proved
end Go.Proofs.Ytldgkgdgcfllmaa
end
