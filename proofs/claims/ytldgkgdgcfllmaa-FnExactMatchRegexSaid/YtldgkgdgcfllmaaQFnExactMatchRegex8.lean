/- The law FnExactMatchRegex holds for every input. No condition. -/
import Derived.Test.YtldgkgdgcfllmaaQFnExactMatchRegex2
import Derived.Test.YtldgkgdgcfllmaaQFnExactMatchRegex3
import Derived.Test.YtldgkgdgcfllmaaQFnExactMatchRegex7
import Derived.Deep.Slices
import Derived.Lib.SmallJoins
import Derived.Test.YtldgkgdgcfllmaaRows
import Derived.WalkKit
import Derived.ProofKit
import Derived.OpenShut
import Derived.ShutString
import Derived.ChangeOld
import Derived.Below
import Derived.SizedLaws
import Derived.ChangeSlices
section
namespace Go.Proofs.Ytldgkgdgcfllmaa.P
open Go.RowKit Go.Proofs.YtldgkgdgcfllmaaW.PrintWords Go.Proofs.YtldgkgdgcfllmaaW.PrintLast Go.Proofs.YtldgkgdgcfllmaaW.PrintMore
attribute [local go_sem] max2_int min2_int max_two min_two max_three min_three max_four min_four
set_option linter.unusedVariables false
set_option linter.unusedSimpArgs false
def impl_MatchRegex.f (k : Nat) (a0_0 : Int) (a0_1 : ByteArray) (l0_2 : List (S29)) (a1 : ByteArray) : Option (Bool) := (impl_IsValidRegex.f k a0_0 a0_1 l0_2).bind fun t547 => (if t547 = true then ((impl_IsWord.f k a1).bind fun t548 => (if t548 = true then ((impl_matches.f a0_0 a0_1 l0_2 a1).bind fun t549 => (some t549)) else (some false))) else (some false))
theorem impl_MatchRegex.mono : ∀ a0 a1 a2 a3 k, LeO (impl_MatchRegex.f k a0 a1 a2 a3) (impl_MatchRegex.f (k + 1) a0 a1 a2 a3) := by
  intro a0 a1 a2 a3 k
  unfold impl_MatchRegex.f
  repeat' first
      | (with_reducible exact impl_IsValidRegex.mono _ _ _ _)
      | (with_reducible exact impl_IsWord.mono _ _)
      | (with_reducible exact LeO.refl _)
      | (with_reducible exact LeO.none _)
      | (with_reducible refine LeO.ite ?_ ?_)
      | (with_reducible refine LeO.bind ?_ (fun _ => ?_))
      | exact impl_IsValidRegex.mono _ _ _ _
      | exact impl_IsWord.mono _ _
      | exact LeO.none _
      | refine LeO.ite ?_ ?_
      | refine LeO.bind ?_ (fun _ => ?_)
set_option maxHeartbeats 8000000 in
set_option maxRecDepth 100000 in
theorem impl_MatchRegex.calls (k : Nat) (a0_0 : Int) (a0_1 : ByteArray) (A0_2 : Option Addr) (c0_2 : Nat) (l0_2 : List (S29)) (a1 : ByteArray) (r : Bool) (w : World) (hr0_2 : Kd.C k29 w A0_2 l0_2.length l0_2) (hc0_2 : l0_2.length ≤ c0_2) (h : impl_MatchRegex.f k a0_0 a0_1 l0_2 a1 = some r) :
    Calls Try.prog 26 #[.agg #[.int .i64 a0_0, .string a0_1, .slice A0_2 l0_2.length c0_2], .string a1] w fun e w' => e = .returned (.bool r) ∧ Below w.heap.size w w' := by
  have hu29 := Try.underlying29
  have HR0_2 := Aside0.mk hr0_2
  have HC0_2 := Aside0.mk hc0_2
  clear hr0_2 hc0_2
  have HB := Aside0.mk (Below.refl w.heap.size w)
  have H : ((impl_IsValidRegex.f k a0_0 a0_1 l0_2).bind fun t547 => (if t547 = true then ((impl_IsWord.f k a1).bind fun t548 => (if t548 = true then ((impl_matches.f a0_0 a0_1 l0_2 a1).bind fun t549 => (some t549)) else (some false))) else (some false))) = some r := h
  clear h
  replace H := Option.bind_eq_some_iff.mp H
  obtain ⟨t547, A30, H⟩ := H
  replace H : (if t547 = true then ((impl_IsWord.f k a1).bind fun t548 => (if t548 = true then ((impl_matches.f a0_0 a0_1 l0_2 a1).bind fun t549 => (some t549)) else (some false))) else (some false)) = some r := H
  have A3 := Aside0.mk A30
  clear A30
  by_cases c4 : t547 = true
  · subst c4
    have H1 : ((impl_IsWord.f k a1).bind fun t548 => (if t548 = true then ((impl_matches.f a0_0 a0_1 l0_2 a1).bind fun t549 => (some t549)) else (some false))) = some r := by rw [if_pos rfl] at H; exact H
    clear H
    have H := H1
    clear H1
    replace H := Option.bind_eq_some_iff.mp H
    obtain ⟨t548, A50, H⟩ := H
    replace H : (if t548 = true then ((impl_matches.f a0_0 a0_1 l0_2 a1).bind fun t549 => (some t549)) else (some false)) = some r := H
    have A5 := Aside0.mk A50
    clear A50
    by_cases c6 : t548 = true
    · subst c6
      have H1 : ((impl_matches.f a0_0 a0_1 l0_2 a1).bind fun t549 => (some t549)) = some r := by rw [if_pos rfl] at H; exact H
      clear H
      have H := H1
      clear H1
      replace H := Option.bind_eq_some_iff.mp H
      obtain ⟨t549, A70, H⟩ := H
      replace H : (some t549) = some r := H
      have A7 := Aside0.mk A70
      clear A70
      obtain rfl := Option.some.inj H
      simp only [Option.some.injEq, Prod.mk.injEq] at H
      obtain ⟨rfl⟩ := H
      go_enter Try.func26, Try.ntmps26
      go_wp2_with (first | ((with_reducible refine gate_dst (N := 2) rfl ?_); refine box_event ?hg (N := 2) ?hd (cs := #[.int .i64 a0_0, .string a0_1, .slice A0_2 l0_2.length c0_2]) (t := 29) ?hr ?_; (case hd => rfl); (case hg => rfl); (case hr => first | (go_simp; done) | (go_simp; rfl)); intro gb546 hg w8 hbox hb; have n0_ := Aside0.mk (below_step (by repeat (first | (with_reducible first | exact HB.out | apply below_alloc | apply pw_below_drewN | apply below_drew1) | exact HB.out)) hb); have n1_ := Aside0.mk (hbox); have n2_ := Aside0.mk ((by rw [hg]; exact (below_size (by repeat (first | (with_reducible first | exact HB.out | apply below_alloc | apply pw_below_drewN | apply below_drew1) | exact HB.out))) : w.heap.size ≤ gb546)); have n3_ := Aside0.mk ((by rw [hg]; exact (below_size (by repeat (first | (with_reducible first | exact HB.out | apply below_alloc | apply pw_below_drewN | apply below_drew1) | exact HB.out))) : w.heap.size ≤ gb546)); clear HB; have HB := n0_; have BK546 := n1_; have GW546 := n2_; have GE546 := n3_; clear n0_ n1_ n2_ n3_; clear hb hbox hg; have hcz9_0 : w8.cell? ⟨gb546, 0, none⟩ = some (.int .i64 a0_0) := (blk_cell BK546.out 0).trans rfl; have hcz9_1 : w8.cell? ⟨gb546, 1, none⟩ = some (.string a0_1) := (blk_cell BK546.out 1).trans rfl; have hcz9_2 : w8.cell? ⟨gb546, 2, none⟩ = some (.slice A0_2 l0_2.length c0_2) := (blk_cell BK546.out 2).trans rfl; have hfz9_0 := blk_frozen BK546.out 0; have hfz9_1 := blk_frozen BK546.out 1; have hfz9_2 := blk_frozen BK546.out 2) | ((with_reducible refine gate_callee (f := 18) rfl ?_); refine goesL_ (some 6) rfl rfl Try.func18 (by kernel_rfl) rfl #[.agg #[.int .i64 a0_0, .string a0_1, .slice A0_2 l0_2.length c0_2]] rfl (by (try simp only [List.map_toArray, List.map_cons, List.map_nil]); first | done | rfl | (simp only [List.length_drop, List.length_take]; rfl)) ?_; (with_reducible refine (impl_IsValidRegex.calls k a0_0 a0_1 _ _ l0_2 true _ ?side1 ?side2 A3.out).mono ?_); (case side1 => repeat (first | exact (Kd.C_below HR0_2.out HB.out) | (with_reducible refine Kd.C_alloc ?_ _) | (with_reducible refine Kd.C_drewN ?_ _) | (with_reducible refine Kd.C_drew ?_))); (case side2 => exact HC0_2.out); rintro e w10 ⟨rfl, hb⟩; refine ⟨_, rfl, ?_⟩; have n0_ := Aside0.mk (blk_below (g := gb546) (o := .cells #[.int .i64 a0_0, .string a0_1, .slice A0_2 l0_2.length c0_2] 29 (0, 0)) (by (with_reducible repeat (first | refine blk_drewN ?_ _ | refine blk_drew ?_ | refine blk_alloc ?_ _)); exact BK546.out) hb); have n1_ := Aside0.mk (below_step (by repeat (first | (with_reducible first | exact HB.out | apply below_alloc | apply pw_below_drewN | apply below_drew1 | refine below_set ?_ GE546.out) | exact HB.out)) hb); clear BK546; clear HB; have BK546 := n0_; have HB := n1_; clear n0_ n1_; (try clear hb); (try clear hb2); (try clear hk); (try clear hi)) | (go_at_call 53; (with_reducible refine (impl_IsWord.calls k a1 true _ A5.out).mono ?_); rintro e w' ⟨rfl, ⟨nd, rfl⟩⟩; have hcz11_0 : w10.cell? ⟨gb546, 0, none⟩ = some (.int .i64 a0_0) := (blk_cell BK546.out 0).trans rfl; have hcz11_1 : w10.cell? ⟨gb546, 1, none⟩ = some (.string a0_1) := (blk_cell BK546.out 1).trans rfl; have hcz11_2 : w10.cell? ⟨gb546, 2, none⟩ = some (.slice A0_2 l0_2.length c0_2) := (blk_cell BK546.out 2).trans rfl; have hfz11_0 := blk_frozen BK546.out 0; have hfz11_1 := blk_frozen BK546.out 1; have hfz11_2 := blk_frozen BK546.out 2) | (go_at_call 54; (with_reducible refine (impl_matches.calls a0_0 a0_1 _ _ l0_2 a1 t549 _ ?side1 ?side2 A7.out).mono ?_); (case side1 => repeat (first | exact (Kd.C_below HR0_2.out (by repeat (first | (with_reducible first | exact HB.out | apply below_alloc | apply pw_below_drewN | apply below_drew1 | refine below_set ?_ GE546.out) | exact HB.out))) | (with_reducible refine Kd.C_alloc ?_ _) | (with_reducible refine Kd.C_drewN ?_ _) | (with_reducible refine Kd.C_drew ?_))); (case side2 => exact HC0_2.out); rintro e w12 ⟨rfl, hb⟩; have n0_ := Aside0.mk (blk_below (g := gb546) (o := .cells #[.int .i64 a0_0, .string a0_1, .slice A0_2 l0_2.length c0_2] 29 (0, 0)) (by (with_reducible repeat (first | refine blk_drewN ?_ _ | refine blk_drew ?_ | refine blk_alloc ?_ _)); exact BK546.out) hb); have n1_ := Aside0.mk (below_step (by repeat (first | (with_reducible first | exact HB.out | apply below_alloc | apply pw_below_drewN | apply below_drew1 | refine below_set ?_ GE546.out) | exact HB.out)) hb); clear BK546; clear HB; have BK546 := n0_; have HB := n1_; clear n0_ n1_; (try clear hb); (try clear hb2); (try clear hk); (try clear hi)))
      go_ret
      exact ⟨by first | rfl | (simp [errW_none, errW_some] <;> rfl) | (simp [*, errW_none, errW_some] <;> rfl), by repeat (first | (with_reducible first | exact HB.out | apply below_alloc | apply pw_below_drewN | apply below_drew1 | refine below_set ?_ GE546.out) | exact HB.out)⟩
    · replace c6 := Bool.eq_false_iff.mpr c6
      subst c6
      have H1 : (some false) = some r := by rw [if_neg (show ¬ (false = true) by decide)] at H; exact H
      clear H
      have H := H1
      clear H1
      obtain rfl := Option.some.inj H
      simp only [Option.some.injEq, Prod.mk.injEq] at H
      obtain ⟨rfl⟩ := H
      go_enter Try.func26, Try.ntmps26
      go_wp2_with (first | ((with_reducible refine gate_dst (N := 2) rfl ?_); refine box_event ?hg (N := 2) ?hd (cs := #[.int .i64 a0_0, .string a0_1, .slice A0_2 l0_2.length c0_2]) (t := 29) ?hr ?_; (case hd => rfl); (case hg => rfl); (case hr => first | (go_simp; done) | (go_simp; rfl)); intro gb546 hg w13 hbox hb; have n0_ := Aside0.mk (below_step (by repeat (first | (with_reducible first | exact HB.out | apply below_alloc | apply pw_below_drewN | apply below_drew1) | exact HB.out)) hb); have n1_ := Aside0.mk (hbox); have n2_ := Aside0.mk ((by rw [hg]; exact (below_size (by repeat (first | (with_reducible first | exact HB.out | apply below_alloc | apply pw_below_drewN | apply below_drew1) | exact HB.out))) : w.heap.size ≤ gb546)); have n3_ := Aside0.mk ((by rw [hg]; exact (below_size (by repeat (first | (with_reducible first | exact HB.out | apply below_alloc | apply pw_below_drewN | apply below_drew1) | exact HB.out))) : w.heap.size ≤ gb546)); clear HB; have HB := n0_; have BK546 := n1_; have GW546 := n2_; have GE546 := n3_; clear n0_ n1_ n2_ n3_; clear hb hbox hg; have hcz14_0 : w13.cell? ⟨gb546, 0, none⟩ = some (.int .i64 a0_0) := (blk_cell BK546.out 0).trans rfl; have hcz14_1 : w13.cell? ⟨gb546, 1, none⟩ = some (.string a0_1) := (blk_cell BK546.out 1).trans rfl; have hcz14_2 : w13.cell? ⟨gb546, 2, none⟩ = some (.slice A0_2 l0_2.length c0_2) := (blk_cell BK546.out 2).trans rfl; have hfz14_0 := blk_frozen BK546.out 0; have hfz14_1 := blk_frozen BK546.out 1; have hfz14_2 := blk_frozen BK546.out 2) | ((with_reducible refine gate_callee (f := 18) rfl ?_); refine goesL_ (some 6) rfl rfl Try.func18 (by kernel_rfl) rfl #[.agg #[.int .i64 a0_0, .string a0_1, .slice A0_2 l0_2.length c0_2]] rfl (by (try simp only [List.map_toArray, List.map_cons, List.map_nil]); first | done | rfl | (simp only [List.length_drop, List.length_take]; rfl)) ?_; (with_reducible refine (impl_IsValidRegex.calls k a0_0 a0_1 _ _ l0_2 true _ ?side1 ?side2 A3.out).mono ?_); (case side1 => repeat (first | exact (Kd.C_below HR0_2.out HB.out) | (with_reducible refine Kd.C_alloc ?_ _) | (with_reducible refine Kd.C_drewN ?_ _) | (with_reducible refine Kd.C_drew ?_))); (case side2 => exact HC0_2.out); rintro e w15 ⟨rfl, hb⟩; refine ⟨_, rfl, ?_⟩; have n0_ := Aside0.mk (blk_below (g := gb546) (o := .cells #[.int .i64 a0_0, .string a0_1, .slice A0_2 l0_2.length c0_2] 29 (0, 0)) (by (with_reducible repeat (first | refine blk_drewN ?_ _ | refine blk_drew ?_ | refine blk_alloc ?_ _)); exact BK546.out) hb); have n1_ := Aside0.mk (below_step (by repeat (first | (with_reducible first | exact HB.out | apply below_alloc | apply pw_below_drewN | apply below_drew1 | refine below_set ?_ GE546.out) | exact HB.out)) hb); clear BK546; clear HB; have BK546 := n0_; have HB := n1_; clear n0_ n1_; (try clear hb); (try clear hb2); (try clear hk); (try clear hi)) | (go_at_call 53; (with_reducible refine (impl_IsWord.calls k a1 false _ A5.out).mono ?_); rintro e w' ⟨rfl, ⟨nd, rfl⟩⟩))
      go_ret
      exact ⟨by first | rfl | (simp [errW_none, errW_some] <;> rfl) | (simp [*, errW_none, errW_some] <;> rfl), by repeat (first | (with_reducible first | exact HB.out | apply below_alloc | apply pw_below_drewN | apply below_drew1 | refine below_set ?_ GE546.out) | exact HB.out)⟩
  · replace c4 := Bool.eq_false_iff.mpr c4
    subst c4
    have H1 : (some false) = some r := by rw [if_neg (show ¬ (false = true) by decide)] at H; exact H
    clear H
    have H := H1
    clear H1
    obtain rfl := Option.some.inj H
    simp only [Option.some.injEq, Prod.mk.injEq] at H
    obtain ⟨rfl⟩ := H
    go_enter Try.func26, Try.ntmps26
    go_wp2_with (first | ((with_reducible refine gate_dst (N := 2) rfl ?_); refine box_event ?hg (N := 2) ?hd (cs := #[.int .i64 a0_0, .string a0_1, .slice A0_2 l0_2.length c0_2]) (t := 29) ?hr ?_; (case hd => rfl); (case hg => rfl); (case hr => first | (go_simp; done) | (go_simp; rfl)); intro gb546 hg w16 hbox hb; have n0_ := Aside0.mk (below_step (by repeat (first | (with_reducible first | exact HB.out | apply below_alloc | apply pw_below_drewN | apply below_drew1) | exact HB.out)) hb); have n1_ := Aside0.mk (hbox); have n2_ := Aside0.mk ((by rw [hg]; exact (below_size (by repeat (first | (with_reducible first | exact HB.out | apply below_alloc | apply pw_below_drewN | apply below_drew1) | exact HB.out))) : w.heap.size ≤ gb546)); have n3_ := Aside0.mk ((by rw [hg]; exact (below_size (by repeat (first | (with_reducible first | exact HB.out | apply below_alloc | apply pw_below_drewN | apply below_drew1) | exact HB.out))) : w.heap.size ≤ gb546)); clear HB; have HB := n0_; have BK546 := n1_; have GW546 := n2_; have GE546 := n3_; clear n0_ n1_ n2_ n3_; clear hb hbox hg; have hcz17_0 : w16.cell? ⟨gb546, 0, none⟩ = some (.int .i64 a0_0) := (blk_cell BK546.out 0).trans rfl; have hcz17_1 : w16.cell? ⟨gb546, 1, none⟩ = some (.string a0_1) := (blk_cell BK546.out 1).trans rfl; have hcz17_2 : w16.cell? ⟨gb546, 2, none⟩ = some (.slice A0_2 l0_2.length c0_2) := (blk_cell BK546.out 2).trans rfl; have hfz17_0 := blk_frozen BK546.out 0; have hfz17_1 := blk_frozen BK546.out 1; have hfz17_2 := blk_frozen BK546.out 2) | ((with_reducible refine gate_callee (f := 18) rfl ?_); refine goesL_ (some 6) rfl rfl Try.func18 (by kernel_rfl) rfl #[.agg #[.int .i64 a0_0, .string a0_1, .slice A0_2 l0_2.length c0_2]] rfl (by (try simp only [List.map_toArray, List.map_cons, List.map_nil]); first | done | rfl | (simp only [List.length_drop, List.length_take]; rfl)) ?_; (with_reducible refine (impl_IsValidRegex.calls k a0_0 a0_1 _ _ l0_2 false _ ?side1 ?side2 A3.out).mono ?_); (case side1 => repeat (first | exact (Kd.C_below HR0_2.out HB.out) | (with_reducible refine Kd.C_alloc ?_ _) | (with_reducible refine Kd.C_drewN ?_ _) | (with_reducible refine Kd.C_drew ?_))); (case side2 => exact HC0_2.out); rintro e w18 ⟨rfl, hb⟩; refine ⟨_, rfl, ?_⟩; have n0_ := Aside0.mk (blk_below (g := gb546) (o := .cells #[.int .i64 a0_0, .string a0_1, .slice A0_2 l0_2.length c0_2] 29 (0, 0)) (by (with_reducible repeat (first | refine blk_drewN ?_ _ | refine blk_drew ?_ | refine blk_alloc ?_ _)); exact BK546.out) hb); have n1_ := Aside0.mk (below_step (by repeat (first | (with_reducible first | exact HB.out | apply below_alloc | apply pw_below_drewN | apply below_drew1 | refine below_set ?_ GE546.out) | exact HB.out)) hb); clear BK546; clear HB; have BK546 := n0_; have HB := n1_; clear n0_ n1_; (try clear hb); (try clear hb2); (try clear hk); (try clear hi)))
    go_ret
    exact ⟨by first | rfl | (simp [errW_none, errW_some] <;> rfl) | (simp [*, errW_none, errW_some] <;> rfl), by repeat (first | (with_reducible first | exact HB.out | apply below_alloc | apply pw_below_drewN | apply below_drew1 | refine below_set ?_ GE546.out) | exact HB.out)⟩
end Go.Proofs.Ytldgkgdgcfllmaa.P
end
section
namespace Go.Proofs.Ytldgkgdgcfllmaa.P
open Go.RowKit Go.Proofs.YtldgkgdgcfllmaaW.PrintWords Go.Proofs.YtldgkgdgcfllmaaW.PrintLast Go.Proofs.YtldgkgdgcfllmaaW.PrintMore
attribute [local go_sem] max2_int min2_int max_two min_two max_three min_three max_four min_four
set_option linter.unusedVariables false
set_option linter.unusedSimpArgs false
def laws_FnExactMatchRegex.f (k : Nat) (a0_0 : Int) (a0_1 : ByteArray) (l0_2 : List (S24)) (a1 : ByteArray) : Option (Bool) := if (a1.size : Int) > 1048576 then (some true) else ((laws_szRegex.f k a0_0 a0_1 l0_2 1048576).bind fun t551 => (if t551 < 0 then (some true) else ((laws_toRegex.f k a0_0 a0_1 l0_2).bind fun bt552 => ((spec_MatchRegex.f k bt552.1 bt552.2.1 bt552.2.2 a1).bind fun t557 => ((laws_toRegex.f k a0_0 a0_1 l0_2).bind fun bt558 => ((impl_MatchRegex.f k bt558.1 bt558.2.1 bt558.2.2 a1).bind fun t564 => (if (t564 != t557) = true then (some false) else ((laws_toRegex.f k a0_0 a0_1 l0_2).bind fun bt565 => ((laws_eqRegex.f k bt558.1 bt558.2.1 bt558.2.2 bt565.1 bt565.2.1 bt565.2.2).bind fun t570 => (if t570 = true then (some true) else (some false)))))))))))
theorem laws_FnExactMatchRegex.mono : ∀ a0 a1 a2 a3 k, LeO (laws_FnExactMatchRegex.f k a0 a1 a2 a3) (laws_FnExactMatchRegex.f (k + 1) a0 a1 a2 a3) := by
 intro a0 a1 a2 a3 k
 unfold laws_FnExactMatchRegex.f
 repeat' first
   | (with_reducible exact impl_MatchRegex.mono _ _ _ _ _)
   | (with_reducible exact laws_eqRegex.mono _ _ _ _ _ _ _)
   | (with_reducible exact laws_szRegex.mono _ _ _ _ _)
   | (with_reducible exact laws_toRegex.mono _ _ _ _)
   | (with_reducible exact spec_MatchRegex.mono _ _ _ _ _)
   | (with_reducible exact LeO.refl _)
   | (with_reducible exact LeO.none _)
   | (with_reducible refine LeO.ite ?_ ?_)
   | (with_reducible refine LeO.bind ?_ (fun _ => ?_))
   | exact impl_MatchRegex.mono _ _ _ _ _
   | exact laws_eqRegex.mono _ _ _ _ _ _ _
   | exact laws_szRegex.mono _ _ _ _ _
   | exact laws_toRegex.mono _ _ _ _
   | exact spec_MatchRegex.mono _ _ _ _ _
   | exact LeO.none _
   | refine LeO.ite ?_ ?_
   | refine LeO.bind ?_ (fun _ => ?_)
set_option maxHeartbeats 8000000 in
set_option maxRecDepth 100000 in
theorem laws_FnExactMatchRegex.calls (k : Nat) (a0_0 : Int) (a0_1 : ByteArray) (A0_2 : Option Addr) (c0_2 : Nat) (l0_2 : List (S24)) (a1 : ByteArray) (r : Bool) (w : World) (hr0_2 : Kd.C k24 w A0_2 l0_2.length l0_2) (hc0_2 : l0_2.length ≤ c0_2) (h : laws_FnExactMatchRegex.f k a0_0 a0_1 l0_2 a1 = some r) (hR : r = true) :
  Calls Try.prog 7 #[.agg #[.int .i64 a0_0, .string a0_1, .slice A0_2 l0_2.length c0_2], .string a1] w fun e w' => e = .returned (.bool r) ∧ Below w.heap.size w w' := by
 have hu24 := Try.underlying24
 have hu29 := Try.underlying29
 have HR0_2 := Aside0.mk hr0_2
 have HC0_2 := Aside0.mk hc0_2
 clear hr0_2 hc0_2
 have HB := Aside0.mk (Below.refl w.heap.size w)
 have H : (if (a1.size : Int) > 1048576 then (some true) else ((laws_szRegex.f k a0_0 a0_1 l0_2 1048576).bind fun t551 => (if t551 < 0 then (some true) else ((laws_toRegex.f k a0_0 a0_1 l0_2).bind fun bt552 => ((spec_MatchRegex.f k bt552.1 bt552.2.1 bt552.2.2 a1).bind fun t557 => ((laws_toRegex.f k a0_0 a0_1 l0_2).bind fun bt558 => ((impl_MatchRegex.f k bt558.1 bt558.2.1 bt558.2.2 a1).bind fun t564 => (if (t564 != t557) = true then (some false) else ((laws_toRegex.f k a0_0 a0_1 l0_2).bind fun bt565 => ((laws_eqRegex.f k bt558.1 bt558.2.1 bt558.2.2 bt565.1 bt565.2.1 bt565.2.2).bind fun t570 => (if t570 = true then (some true) else (some false)))))))))))) = some r := h
 clear h
 by_cases c3 : (a1.size : Int) > 1048576
 ·rw [if_pos c3] at H
  have c3b0 : decide (1048576 < (a1.size : Int)) = true := decide_eq_true c3
  have c3b1 : decide (1048576 < a1.size) = true := decide_eq_true (by omega)
  clear c3
  obtain rfl := Option.some.inj H
  simp only [Option.some.injEq, Prod.mk.injEq] at H
  obtain ⟨rfl⟩ := H
  go_enter Try.func7, Try.ntmps7
  go_wp2_with (first | ((with_reducible refine gate_dst (N := 2) rfl ?_); refine box_event ?hg (N := 2) ?hd (cs := #[.int .i64 a0_0, .string a0_1, .slice A0_2 l0_2.length c0_2]) (t := 24) ?hr ?_; (case hd => rfl); (case hg => rfl); (case hr => first | (go_simp; done) | (go_simp; rfl)); intro gb550 hg w4 hbox hb; have n0_ := Aside0.mk (below_step (by repeat (first | (with_reducible first | exact HB.out | apply below_alloc | apply pw_below_drewN | apply below_drew1) | exact HB.out)) hb); have n1_ := Aside0.mk (hbox); have n2_ := Aside0.mk ((by rw [hg]; exact (below_size (by repeat (first | (with_reducible first | exact HB.out | apply below_alloc | apply pw_below_drewN | apply below_drew1) | exact HB.out))) : w.heap.size ≤ gb550)); have n3_ := Aside0.mk ((by rw [hg]; exact (below_size (by repeat (first | (with_reducible first | exact HB.out | apply below_alloc | apply pw_below_drewN | apply below_drew1) | exact HB.out))) : w.heap.size ≤ gb550)); clear HB; have HB := n0_; have BK550 := n1_; have GW550 := n2_; have GE550 := n3_; clear n0_ n1_ n2_ n3_; clear hb hbox hg))
  go_ret
  exact ⟨by first | rfl | (simp [errW_none, errW_some] <;> rfl) | (simp [*, errW_none, errW_some] <;> rfl), by repeat (first | (with_reducible first | exact HB.out | apply below_alloc | apply pw_below_drewN | apply below_drew1 | refine below_set ?_ GE550.out) | exact HB.out)⟩
 ·rw [if_neg c3] at H
  have c3b0 : decide (1048576 < (a1.size : Int)) = false := decide_eq_false c3
  have c3b1 : decide (1048576 < a1.size) = false := decide_eq_false (by omega)
  clear c3
  replace H := Option.bind_eq_some_iff.mp H
  obtain ⟨t551, A50, H⟩ := H
  replace H : (if t551 < 0 then (some true) else ((laws_toRegex.f k a0_0 a0_1 l0_2).bind fun bt552 => ((spec_MatchRegex.f k bt552.1 bt552.2.1 bt552.2.2 a1).bind fun t557 => ((laws_toRegex.f k a0_0 a0_1 l0_2).bind fun bt558 => ((impl_MatchRegex.f k bt558.1 bt558.2.1 bt558.2.2 a1).bind fun t564 => (if (t564 != t557) = true then (some false) else ((laws_toRegex.f k a0_0 a0_1 l0_2).bind fun bt565 => ((laws_eqRegex.f k bt558.1 bt558.2.1 bt558.2.2 bt565.1 bt565.2.1 bt565.2.2).bind fun t570 => (if t570 = true then (some true) else (some false)))))))))) = some r := H
  have A5 := Aside0.mk A50
  clear A50
  by_cases c6 : t551 < 0
  ·rw [if_pos c6] at H
   have c6b0 : decide (t551 < 0) = true := decide_eq_true c6
   clear c6
   obtain rfl := Option.some.inj H
   simp only [Option.some.injEq, Prod.mk.injEq] at H
   obtain ⟨rfl⟩ := H
   go_enter Try.func7, Try.ntmps7
   go_wp2_with (first | ((with_reducible refine gate_dst (N := 2) rfl ?_); refine box_event ?hg (N := 2) ?hd (cs := #[.int .i64 a0_0, .string a0_1, .slice A0_2 l0_2.length c0_2]) (t := 24) ?hr ?_; (case hd => rfl); (case hg => rfl); (case hr => first | (go_simp; done) | (go_simp; rfl)); intro gb550 hg w7 hbox hb; have n0_ := Aside0.mk (below_step (by repeat (first | (with_reducible first | exact HB.out | apply below_alloc | apply pw_below_drewN | apply below_drew1) | exact HB.out)) hb); have n1_ := Aside0.mk (hbox); have n2_ := Aside0.mk ((by rw [hg]; exact (below_size (by repeat (first | (with_reducible first | exact HB.out | apply below_alloc | apply pw_below_drewN | apply below_drew1) | exact HB.out))) : w.heap.size ≤ gb550)); have n3_ := Aside0.mk ((by rw [hg]; exact (below_size (by repeat (first | (with_reducible first | exact HB.out | apply below_alloc | apply pw_below_drewN | apply below_drew1) | exact HB.out))) : w.heap.size ≤ gb550)); clear HB; have HB := n0_; have BK550 := n1_; have GW550 := n2_; have GE550 := n3_; clear n0_ n1_ n2_ n3_; clear hb hbox hg; have hcz8_0 : w7.cell? ⟨gb550, 0, none⟩ = some (.int .i64 a0_0) := (blk_cell BK550.out 0).trans rfl; have hcz8_1 : w7.cell? ⟨gb550, 1, none⟩ = some (.string a0_1) := (blk_cell BK550.out 1).trans rfl; have hcz8_2 : w7.cell? ⟨gb550, 2, none⟩ = some (.slice A0_2 l0_2.length c0_2) := (blk_cell BK550.out 2).trans rfl; have hfz8_0 := blk_frozen BK550.out 0; have hfz8_1 := blk_frozen BK550.out 1; have hfz8_2 := blk_frozen BK550.out 2) | ((with_reducible refine gate_callee (f := 12) rfl ?_); refine goesL_ (some 14) rfl rfl Try.func12 (by kernel_rfl) rfl #[.agg #[.int .i64 a0_0, .string a0_1, .slice A0_2 l0_2.length c0_2], .int .i64 1048576] rfl (by (try simp only [List.map_toArray, List.map_cons, List.map_nil]); first | done | rfl | (simp only [List.length_drop, List.length_take]; rfl)) ?_; (with_reducible refine (laws_szRegex.calls k a0_0 a0_1 _ _ l0_2 1048576 t551 _ ?side1 ?side2 A5.out).mono ?_); (case side1 => repeat (first | exact (Kd.C_below HR0_2.out HB.out) | (with_reducible refine Kd.C_alloc ?_ _) | (with_reducible refine Kd.C_drewN ?_ _) | (with_reducible refine Kd.C_drew ?_))); (case side2 => exact HC0_2.out); rintro e w9 ⟨rfl, hb⟩; refine ⟨_, rfl, ?_⟩; have n0_ := Aside0.mk (blk_below (g := gb550) (o := .cells #[.int .i64 a0_0, .string a0_1, .slice A0_2 l0_2.length c0_2] 24 (0, 0)) (by (with_reducible repeat (first | refine blk_drewN ?_ _ | refine blk_drew ?_ | refine blk_alloc ?_ _)); exact BK550.out) hb); have n1_ := Aside0.mk (below_step (by repeat (first | (with_reducible first | exact HB.out | apply below_alloc | apply pw_below_drewN | apply below_drew1 | refine below_set ?_ GE550.out) | exact HB.out)) hb); clear BK550; clear HB; have BK550 := n0_; have HB := n1_; clear n0_ n1_; (try clear hb); (try clear hb2); (try clear hk); (try clear hi)))
   go_ret
   exact ⟨by first | rfl | (simp [errW_none, errW_some] <;> rfl) | (simp [*, errW_none, errW_some] <;> rfl), by repeat (first | (with_reducible first | exact HB.out | apply below_alloc | apply pw_below_drewN | apply below_drew1 | refine below_set ?_ GE550.out) | exact HB.out)⟩
  ·rw [if_neg c6] at H
   have c6b0 : decide (t551 < 0) = false := decide_eq_false c6
   clear c6
   replace H := Option.bind_eq_some_iff.mp H
   obtain ⟨⟨t552, t553, t554⟩, A100, H⟩ := H
   replace H : ((spec_MatchRegex.f k t552 t553 t554 a1).bind fun t557 => ((laws_toRegex.f k a0_0 a0_1 l0_2).bind fun bt558 => ((impl_MatchRegex.f k bt558.1 bt558.2.1 bt558.2.2 a1).bind fun t564 => (if (t564 != t557) = true then (some false) else ((laws_toRegex.f k a0_0 a0_1 l0_2).bind fun bt565 => ((laws_eqRegex.f k bt558.1 bt558.2.1 bt558.2.2 bt565.1 bt565.2.1 bt565.2.2).bind fun t570 => (if t570 = true then (some true) else (some false)))))))) = some r := H
   have A10 := Aside0.mk A100
   clear A100
   replace H := Option.bind_eq_some_iff.mp H
   obtain ⟨t557, A110, H⟩ := H
   replace H : ((laws_toRegex.f k a0_0 a0_1 l0_2).bind fun bt558 => ((impl_MatchRegex.f k bt558.1 bt558.2.1 bt558.2.2 a1).bind fun t564 => (if (t564 != t557) = true then (some false) else ((laws_toRegex.f k a0_0 a0_1 l0_2).bind fun bt565 => ((laws_eqRegex.f k bt558.1 bt558.2.1 bt558.2.2 bt565.1 bt565.2.1 bt565.2.2).bind fun t570 => (if t570 = true then (some true) else (some false))))))) = some r := H
   have A11 := Aside0.mk A110
   clear A110
   replace H := Option.bind_eq_some_iff.mp H
   obtain ⟨⟨t558, t559, t560⟩, A120, H⟩ := H
   replace H : ((impl_MatchRegex.f k t558 t559 t560 a1).bind fun t564 => (if (t564 != t557) = true then (some false) else ((laws_toRegex.f k a0_0 a0_1 l0_2).bind fun bt565 => ((laws_eqRegex.f k t558 t559 t560 bt565.1 bt565.2.1 bt565.2.2).bind fun t570 => (if t570 = true then (some true) else (some false)))))) = some r := H
   have A12 := Aside0.mk A120
   clear A120
   replace H := Option.bind_eq_some_iff.mp H
   obtain ⟨t564, A130, H⟩ := H
   replace H : (if (t564 != t557) = true then (some false) else ((laws_toRegex.f k a0_0 a0_1 l0_2).bind fun bt565 => ((laws_eqRegex.f k t558 t559 t560 bt565.1 bt565.2.1 bt565.2.2).bind fun t570 => (if t570 = true then (some true) else (some false))))) = some r := H
   have A13 := Aside0.mk A130
   clear A130
   by_cases c14 : (t564 != t557) = true
   ·rw [if_pos c14] at H
    have c14b0 : (t564 != t557) = true := c14
    (try (have c14b1 : decide (t564 = t557) = false := by simpa using c14))
    (try (have c14b2 : (t564 == t557) = false := by simpa using c14))
    (try (have c14b3 : ¬ (t564 = t557) := by simpa using c14))
    clear c14
    obtain rfl := Option.some.inj H
    exact absurd hR (by decide)
   ·rw [if_neg c14] at H
    have c14b0 : (t564 != t557) = false := by simpa using c14
    (try (have c14b1 : decide (t564 = t557) = true := by simpa using c14))
    (try (have c14b2 : (t564 == t557) = true := by simpa using c14))
    clear c14
    replace H := Option.bind_eq_some_iff.mp H
    obtain ⟨⟨t565, t566, t567⟩, A150, H⟩ := H
    replace H : ((laws_eqRegex.f k t558 t559 t560 t565 t566 t567).bind fun t570 => (if t570 = true then (some true) else (some false))) = some r := H
    have A15 := Aside0.mk A150
    clear A150
    replace H := Option.bind_eq_some_iff.mp H
    obtain ⟨t570, A160, H⟩ := H
    replace H : (if t570 = true then (some true) else (some false)) = some r := H
    have A16 := Aside0.mk A160
    clear A160
    by_cases c17 : t570 = true
    ·subst c17
     have H1 : (some true) = some r := by rw [if_pos rfl] at H; exact H
     clear H
     have H := H1
     clear H1
     obtain rfl := Option.some.inj H
     simp only [Option.some.injEq, Prod.mk.injEq] at H
     obtain ⟨rfl⟩ := H
     go_enter Try.func7, Try.ntmps7
     try go_wp2_with (first | ((with_reducible refine gate_dst (N := 2) rfl ?_); refine box_event ?hg (N := 2) ?hd (cs := #[.int .i64 a0_0, .string a0_1, .slice A0_2 l0_2.length c0_2]) (t := 24) ?hr ?_; (case hd => rfl); (case hg => rfl); (case hr => first | (go_simp; done) | (go_simp; rfl)); intro gb550 hg w18 hbox hb; have n0_ := Aside0.mk (below_step (by repeat (first | (with_reducible first | exact HB.out | apply below_alloc | apply pw_below_drewN | apply below_drew1) | exact HB.out)) hb); have n1_ := Aside0.mk (hbox); have n2_ := Aside0.mk ((by rw [hg]; exact (below_size (by repeat (first | (with_reducible first | exact HB.out | apply below_alloc | apply pw_below_drewN | apply below_drew1) | exact HB.out))) : w.heap.size ≤ gb550)); have n3_ := Aside0.mk ((by rw [hg]; exact (below_size (by repeat (first | (with_reducible first | exact HB.out | apply below_alloc | apply pw_below_drewN | apply below_drew1) | exact HB.out))) : w.heap.size ≤ gb550)); clear HB; have HB := n0_; have BK550 := n1_; have GW550 := n2_; have GE550 := n3_; clear n0_ n1_ n2_ n3_; clear hb hbox hg; have hcz19_0 : w18.cell? ⟨gb550, 0, none⟩ = some (.int .i64 a0_0) := (blk_cell BK550.out 0).trans rfl; have hcz19_1 : w18.cell? ⟨gb550, 1, none⟩ = some (.string a0_1) := (blk_cell BK550.out 1).trans rfl; have hcz19_2 : w18.cell? ⟨gb550, 2, none⟩ = some (.slice A0_2 l0_2.length c0_2) := (blk_cell BK550.out 2).trans rfl; have hfz19_0 := blk_frozen BK550.out 0; have hfz19_1 := blk_frozen BK550.out 1; have hfz19_2 := blk_frozen BK550.out 2) | ((with_reducible refine gate_callee (f := 12) rfl ?_); refine goesL_ (some 14) rfl rfl Try.func12 (by kernel_rfl) rfl #[.agg #[.int .i64 a0_0, .string a0_1, .slice A0_2 l0_2.length c0_2], .int .i64 1048576] rfl (by (try simp only [List.map_toArray, List.map_cons, List.map_nil]); first | done | rfl | (simp only [List.length_drop, List.length_take]; rfl)) ?_; (with_reducible refine (laws_szRegex.calls k a0_0 a0_1 _ _ l0_2 1048576 t551 _ ?side1 ?side2 A5.out).mono ?_); (case side1 => repeat (first | exact (Kd.C_below HR0_2.out HB.out) | (with_reducible refine Kd.C_alloc ?_ _) | (with_reducible refine Kd.C_drewN ?_ _) | (with_reducible refine Kd.C_drew ?_))); (case side2 => exact HC0_2.out); rintro e w20 ⟨rfl, hb⟩; refine ⟨_, rfl, ?_⟩; have n0_ := Aside0.mk (blk_below (g := gb550) (o := .cells #[.int .i64 a0_0, .string a0_1, .slice A0_2 l0_2.length c0_2] 24 (0, 0)) (by (with_reducible repeat (first | refine blk_drewN ?_ _ | refine blk_drew ?_ | refine blk_alloc ?_ _)); exact BK550.out) hb); have n1_ := Aside0.mk (below_step (by repeat (first | (with_reducible first | exact HB.out | apply below_alloc | apply pw_below_drewN | apply below_drew1 | refine below_set ?_ GE550.out) | exact HB.out)) hb); clear BK550; clear HB; have BK550 := n0_; have HB := n1_; clear n0_ n1_; (try clear hb); (try clear hb2); (try clear hk); (try clear hi); have hcz21_0 : w20.cell? ⟨gb550, 0, none⟩ = some (.int .i64 a0_0) := (blk_cell BK550.out 0).trans rfl; have hcz21_1 : w20.cell? ⟨gb550, 1, none⟩ = some (.string a0_1) := (blk_cell BK550.out 1).trans rfl; have hcz21_2 : w20.cell? ⟨gb550, 2, none⟩ = some (.slice A0_2 l0_2.length c0_2) := (blk_cell BK550.out 2).trans rfl; have hfz21_0 := blk_frozen BK550.out 0; have hfz21_1 := blk_frozen BK550.out 1; have hfz21_2 := blk_frozen BK550.out 2) | ((with_reducible refine gate_callee (f := 14) rfl ?_); refine goesL_ (some 18) rfl rfl Try.func14 (by kernel_rfl) rfl #[.agg #[.int .i64 a0_0, .string a0_1, .slice A0_2 l0_2.length c0_2]] rfl (by (try simp only [List.map_toArray, List.map_cons, List.map_nil]); first | done | rfl | (simp only [List.length_drop, List.length_take]; rfl)) ?_; (with_reducible refine (laws_toRegex.calls k a0_0 a0_1 _ _ l0_2 t552 t553 t554 _ ?side1 ?side2 A10.out).mono ?_); (case side1 => repeat (first | exact (Kd.C_below HR0_2.out HB.out) | (with_reducible refine Kd.C_alloc ?_ _) | (with_reducible refine Kd.C_drewN ?_ _) | (with_reducible refine Kd.C_drew ?_))); (case side2 => exact HC0_2.out); rintro e w22 ⟨v555, rfl, ho0, hb⟩; refine ⟨_, rfl, ?_⟩; have n0_ := Aside0.mk (Kd.R_lower ho0 (below_size (by repeat (first | (with_reducible first | exact HB.out | apply below_alloc | apply pw_below_drewN | apply below_drew1 | refine below_set ?_ GE550.out) | exact HB.out)))); have n1_ := Aside0.mk (blk_below (g := gb550) (o := .cells #[.int .i64 a0_0, .string a0_1, .slice A0_2 l0_2.length c0_2] 24 (0, 0)) (by (with_reducible repeat (first | refine blk_drewN ?_ _ | refine blk_drew ?_ | refine blk_alloc ?_ _)); exact BK550.out) hb); have n2_ := Aside0.mk (below_step (by repeat (first | (with_reducible first | exact HB.out | apply below_alloc | apply pw_below_drewN | apply below_drew1 | refine below_set ?_ GE550.out) | exact HB.out)) hb); clear BK550; clear HB; have HO556 := n0_; have BK550 := n1_; have HB := n2_; clear n0_ n1_ n2_; (try clear hb); (try clear hb2); (try clear hk); (try clear hi); (try clear ho0); obtain ⟨Ao23, co23, eo23⟩ := Kd.R_slice HO556.out; subst eo23) | ((with_reducible refine gate_callee (f := 25) rfl ?_); refine goesL_ (some 20) rfl rfl Try.func25 (by kernel_rfl) rfl #[.agg #[.int .i64 t552, .string t553, .slice Ao23 t554.length co23], .string a1] rfl (by (try simp only [List.map_toArray, List.map_cons, List.map_nil]); first | done | rfl | (simp only [List.length_drop, List.length_take]; rfl)) ?_; (with_reducible refine (spec_MatchRegex.calls k t552 t553 _ _ t554 a1 t557 _ ?side1 ?side2 A11.out).mono ?_); (case side1 => repeat (first | exact (Kd.R_reads' HO556.out).2.2 | (with_reducible refine Kd.C_alloc ?_ _) | (with_reducible refine Kd.C_drewN ?_ _) | (with_reducible refine Kd.C_drew ?_))); (case side2 => exact (Kd.R_reads' HO556.out).2.1); rintro e w24 ⟨rfl, hb⟩; refine ⟨_, rfl, ?_⟩; have n0_ := Aside0.mk (Kd.R_below (by (with_reducible repeat (first | apply Kd.R_alloc | apply Kd.R_drewN | apply Kd.R_drew)); exact HO556.out) hb); have n1_ := Aside0.mk (blk_below (g := gb550) (o := .cells #[.int .i64 a0_0, .string a0_1, .slice A0_2 l0_2.length c0_2] 24 (0, 0)) (by (with_reducible repeat (first | refine blk_drewN ?_ _ | refine blk_drew ?_ | refine blk_alloc ?_ _)); exact BK550.out) hb); have n2_ := Aside0.mk (below_step (by repeat (first | (with_reducible first | exact HB.out | apply below_alloc | apply pw_below_drewN | apply below_drew1 | refine below_set ?_ GE550.out) | exact HB.out)) hb); clear HO556; clear BK550; clear HB; have HO556 := n0_; have BK550 := n1_; have HB := n2_; clear n0_ n1_ n2_; (try clear hb); (try clear hb2); (try clear hk); (try clear hi); have hcz25_0 : w24.cell? ⟨gb550, 0, none⟩ = some (.int .i64 a0_0) := (blk_cell BK550.out 0).trans rfl; have hcz25_1 : w24.cell? ⟨gb550, 1, none⟩ = some (.string a0_1) := (blk_cell BK550.out 1).trans rfl; have hcz25_2 : w24.cell? ⟨gb550, 2, none⟩ = some (.slice A0_2 l0_2.length c0_2) := (blk_cell BK550.out 2).trans rfl; have hfz25_0 := blk_frozen BK550.out 0; have hfz25_1 := blk_frozen BK550.out 1; have hfz25_2 := blk_frozen BK550.out 2) | ((with_reducible refine gate_callee (f := 14) rfl ?_); refine goesL_ (some 22) rfl rfl Try.func14 (by kernel_rfl) rfl #[.agg #[.int .i64 a0_0, .string a0_1, .slice A0_2 l0_2.length c0_2]] rfl (by (try simp only [List.map_toArray, List.map_cons, List.map_nil]); first | done | rfl | (simp only [List.length_drop, List.length_take]; rfl)) ?_; (with_reducible refine (laws_toRegex.calls k a0_0 a0_1 _ _ l0_2 t558 t559 t560 _ ?side1 ?side2 A12.out).mono ?_); (case side1 => repeat (first | exact (Kd.C_below HR0_2.out HB.out) | (with_reducible refine Kd.C_alloc ?_ _) | (with_reducible refine Kd.C_drewN ?_ _) | (with_reducible refine Kd.C_drew ?_))); (case side2 => exact HC0_2.out); rintro e w26 ⟨v561, rfl, ho0, hb⟩; refine ⟨_, rfl, ?_⟩; have n0_ := Aside0.mk (Kd.R_elder' (by (with_reducible repeat (first | apply Kd.R_alloc | apply Kd.R_drewN | apply Kd.R_drew)); exact HO556.out) (Kd.R_base ho0) hb); have n1_ := Aside0.mk (Kd.R_lower (Kd.R_new' ho0 (Kd.R_lt (by (with_reducible repeat (first | apply Kd.R_alloc | apply Kd.R_drewN | apply Kd.R_drew)); exact HO556.out))) (below_size (by repeat (first | (with_reducible first | exact HB.out | apply below_alloc | apply pw_below_drewN | apply below_drew1 | refine below_set ?_ GE550.out) | exact HB.out)))); have n2_ := Aside0.mk (blk_below (g := gb550) (o := .cells #[.int .i64 a0_0, .string a0_1, .slice A0_2 l0_2.length c0_2] 24 (0, 0)) (by (with_reducible repeat (first | refine blk_drewN ?_ _ | refine blk_drew ?_ | refine blk_alloc ?_ _)); exact BK550.out) hb); have n3_ := Aside0.mk (below_step (by repeat (first | (with_reducible first | exact HB.out | apply below_alloc | apply pw_below_drewN | apply below_drew1 | refine below_set ?_ GE550.out) | exact HB.out)) hb); clear HO556; clear BK550; clear HB; have HO556 := n0_; have HO562 := n1_; have BK550 := n2_; have HB := n3_; clear n0_ n1_ n2_ n3_; (try clear hb); (try clear hb2); (try clear hk); (try clear hi); (try clear ho0)) | ((with_reducible refine gate_dst (N := 7) rfl ?_); refine box_event ?hg (N := 7) ?hd (cs := #[.int .i64 0, .string (⟨#[]⟩ : ByteArray), .slice none 0 0]) (t := 29) ?hr ?_; (case hd => rfl); (case hg => rfl); (case hr => first | (go_simp; done) | (go_simp; rfl)); intro gb563 hg w27 hbox hb; have n0_ := Aside0.mk (Kd.R_below (Kd.R_elderB (by (with_reducible repeat (first | apply Kd.R_alloc | apply Kd.R_drewN | apply Kd.R_drew)); exact HO556.out) gb563 (Nat.le_of_eq hg.symm)) hb); have n1_ := Aside0.mk (Kd.R_below (Kd.R_elderB (by (with_reducible repeat (first | apply Kd.R_alloc | apply Kd.R_drewN | apply Kd.R_drew)); exact HO562.out) gb563 (Nat.le_of_eq hg.symm)) hb); have n2_ := Aside0.mk (blk_below (g := gb550) (o := .cells #[.int .i64 a0_0, .string a0_1, .slice A0_2 l0_2.length c0_2] 24 (0, 0)) (by (with_reducible repeat (first | refine blk_drewN ?_ _ | refine blk_drew ?_ | refine blk_alloc ?_ _)); exact BK550.out) hb); have n3_ := Aside0.mk (below_step (by repeat (first | (with_reducible first | exact HB.out | apply below_alloc | apply pw_below_drewN | apply below_drew1 | refine below_set ?_ GE550.out) | exact HB.out)) hb); have n4_ := Aside0.mk (hbox); have n5_ := Aside0.mk ((by rw [hg]; exact (below_size (by repeat (first | (with_reducible first | exact HB.out | apply below_alloc | apply pw_below_drewN | apply below_drew1 | refine below_set ?_ GE550.out) | exact HB.out))) : w.heap.size ≤ gb563)); have n6_ := Aside0.mk ((by rw [hg]; exact (below_size (by repeat (first | (with_reducible first | exact HB.out | apply below_alloc | apply pw_below_drewN | apply below_drew1 | refine below_set ?_ GE550.out) | exact HB.out))) : w.heap.size ≤ gb563)); have n7_ := Aside0.mk ((by rw [hg]; exact Nat.ne_of_lt (blk_lt (g := gb550) (o := .cells #[.int .i64 a0_0, .string a0_1, .slice A0_2 l0_2.length c0_2] 24 (0, 0)) (by (with_reducible repeat (first | refine blk_drewN ?_ _ | refine blk_drew ?_ | refine blk_alloc ?_ _)); exact BK550.out)) : gb550 ≠ gb563)); have n8_ := Aside0.mk ((by rw [hg]; exact Nat.ne_of_gt (blk_lt (g := gb550) (o := .cells #[.int .i64 a0_0, .string a0_1, .slice A0_2 l0_2.length c0_2] 24 (0, 0)) (by (with_reducible repeat (first | refine blk_drewN ?_ _ | refine blk_drew ?_ | refine blk_alloc ?_ _)); exact BK550.out)) : gb563 ≠ gb550)); clear HO556; clear HO562; clear BK550; clear HB; have HO556 := n0_; have HO562 := n1_; have BK550 := n2_; have HB := n3_; have BK563 := n4_; have GW563 := n5_; have GE563 := n6_; have NB550_563 := n7_; have NB563_550 := n8_; clear n0_ n1_ n2_ n3_ n4_ n5_ n6_ n7_ n8_; clear hb hbox hg; have hnb28 := NB563_550.out; have hnc28 := NB550_563.out; have hcz29_0 : w27.cell? ⟨gb563, 0, none⟩ = some (.int .i64 0) := (blk_cell BK563.out 0).trans rfl; have hcz29_1 : w27.cell? ⟨gb563, 1, none⟩ = some (.string (⟨#[]⟩ : ByteArray)) := (blk_cell BK563.out 1).trans rfl; have hcz29_2 : w27.cell? ⟨gb563, 2, none⟩ = some (.slice none 0 0) := (blk_cell BK563.out 2).trans rfl; have hfz29_0 := blk_frozen BK563.out 0; have hfz29_1 := blk_frozen BK563.out 1; have hfz29_2 := blk_frozen BK563.out 2; obtain ⟨Ao30, co30, eo30⟩ := Kd.R_slice HO562.out; subst eo30) | ((with_reducible refine gate_callee (f := 26) rfl ?_); refine goesL_ (some 25) rfl rfl Try.func26 (by kernel_rfl) rfl #[.agg #[.int .i64 t558, .string t559, .slice Ao30 t560.length co30], .string a1] rfl (by (try simp only [List.map_toArray, List.map_cons, List.map_nil]); first | done | rfl | (simp only [List.length_drop, List.length_take]; rfl)) ?_; (with_reducible refine (impl_MatchRegex.calls k t558 t559 _ _ t560 a1 t564 _ ?side1 ?side2 A13.out).mono ?_); (case side1 => refine (Kd.R_reads' (e := 29) (base := w.heap.size) (ok := fun k_ => ((True ∧ some k_ ≠ (.slice Ao23 t554.length co23 : Value).ownBlock) ∧ k_ ≠ gb563)) (n := t560.length) (c := co30) ?_).2.2; exact (by (with_reducible repeat (first | apply Kd.R_alloc | apply Kd.R_drewN | apply Kd.R_drew)); exact (Kd.R_mono (Kd.R_far (p := ⟨gb563, 2, none⟩) (Kd.R_far (p := ⟨gb563, 1, none⟩) (Kd.R_far (p := ⟨gb563, 0, none⟩) (Kd.R_mono HO562.out (fun k_ hk => (⟨hk, hk.2⟩ : _ ∧ k_ ≠ gb563))) (fun _ hk => hk.2) (.int .i64 t558)) (fun _ hk => hk.2) (.string t559)) (fun _ hk => hk.2) (.slice Ao30 t560.length co30)) (fun _ h_ => h_.1)))); (case side2 => exact (Kd.R_reads' HO562.out).2.1); rintro e w31 ⟨rfl, hb⟩; refine ⟨_, rfl, ?_⟩; have n0_ := Aside0.mk (Kd.R_below (by (with_reducible repeat (first | apply Kd.R_alloc | apply Kd.R_drewN | apply Kd.R_drew)); exact (Kd.R_mono (Kd.R_far (p := ⟨gb563, 2, none⟩) (Kd.R_far (p := ⟨gb563, 1, none⟩) (Kd.R_far (p := ⟨gb563, 0, none⟩) (Kd.R_mono HO556.out (fun k_ hk => (⟨hk, hk.2⟩ : _ ∧ k_ ≠ gb563))) (fun _ hk => hk.2) (.int .i64 t558)) (fun _ hk => hk.2) (.string t559)) (fun _ hk => hk.2) (.slice Ao30 t560.length co30)) (fun _ h_ => h_.1))) hb); have n1_ := Aside0.mk (Kd.R_below (by (with_reducible repeat (first | apply Kd.R_alloc | apply Kd.R_drewN | apply Kd.R_drew)); exact (Kd.R_mono (Kd.R_far (p := ⟨gb563, 2, none⟩) (Kd.R_far (p := ⟨gb563, 1, none⟩) (Kd.R_far (p := ⟨gb563, 0, none⟩) (Kd.R_mono HO562.out (fun k_ hk => (⟨hk, hk.2⟩ : _ ∧ k_ ≠ gb563))) (fun _ hk => hk.2) (.int .i64 t558)) (fun _ hk => hk.2) (.string t559)) (fun _ hk => hk.2) (.slice Ao30 t560.length co30)) (fun _ h_ => h_.1))) hb); have n2_ := Aside0.mk (blk_below (g := gb550) (o := .cells #[.int .i64 a0_0, .string a0_1, .slice A0_2 l0_2.length c0_2] 24 (0, 0)) (by (with_reducible repeat (first | refine blk_drewN ?_ _ | refine blk_drew ?_ | refine blk_alloc ?_ _)); refine blk_far ?_ NB550_563.out _; (with_reducible repeat (first | refine blk_drewN ?_ _ | refine blk_drew ?_ | refine blk_alloc ?_ _)); refine blk_far ?_ NB550_563.out _; (with_reducible repeat (first | refine blk_drewN ?_ _ | refine blk_drew ?_ | refine blk_alloc ?_ _)); refine blk_far ?_ NB550_563.out _; (with_reducible repeat (first | refine blk_drewN ?_ _ | refine blk_drew ?_ | refine blk_alloc ?_ _)); exact BK550.out) hb); have n3_ := Aside0.mk (blk_below (g := gb563) (o := .cells #[.int .i64 t558, .string t559, .slice Ao30 t560.length co30] 29 (0, 0)) (by (with_reducible repeat (first | refine blk_drewN ?_ _ | refine blk_drew ?_ | refine blk_alloc ?_ _)); refine blk_put (cs := #[.int .i64 t558, .string t559, .slice none 0 0]) ?_ 2 _ rfl; (with_reducible repeat (first | refine blk_drewN ?_ _ | refine blk_drew ?_ | refine blk_alloc ?_ _)); refine blk_put (cs := #[.int .i64 t558, .string (⟨#[]⟩ : ByteArray), .slice none 0 0]) ?_ 1 _ rfl; (with_reducible repeat (first | refine blk_drewN ?_ _ | refine blk_drew ?_ | refine blk_alloc ?_ _)); refine blk_put (cs := #[.int .i64 0, .string (⟨#[]⟩ : ByteArray), .slice none 0 0]) ?_ 0 _ rfl; (with_reducible repeat (first | refine blk_drewN ?_ _ | refine blk_drew ?_ | refine blk_alloc ?_ _)); exact BK563.out) hb); have n4_ := Aside0.mk (below_step (by repeat (first | (with_reducible first | exact HB.out | apply below_alloc | apply pw_below_drewN | apply below_drew1 | refine below_set ?_ GE550.out | refine below_set ?_ GE563.out) | exact HB.out)) hb); clear HO556; clear HO562; clear BK550; clear BK563; clear HB; have HO556 := n0_; have HO562 := n1_; have BK550 := n2_; have BK563 := n3_; have HB := n4_; clear n0_ n1_ n2_ n3_ n4_; (try clear hb); (try clear hb2); (try clear hk); (try clear hi)))
     have n0_ := Aside0.mk (Kd.R_drew HO556.out)
     have n1_ := Aside0.mk (Kd.R_drew HO562.out)
     have n2_ := Aside0.mk (blk_drew BK550.out)
     have n3_ := Aside0.mk (blk_drew BK563.out)
     have n4_ := Aside0.mk (below_drew1 HB.out)
     clear HO556 HO562 BK550 BK563 HB
     have HO556 := n0_; have HO562 := n1_; have BK550 := n2_; have BK563 := n3_; have HB := n4_
     clear n0_ n1_ n2_ n3_ n4_
     refine start_ (n := 5) (S := fun w' => w'.cell? ⟨gb563, 0, none⟩ = some (.int .i64 t558) ∧ w'.cell? ⟨gb563, 1, none⟩ = some (.string t559) ∧ w'.cell? ⟨gb563, 2, none⟩ = some (.slice Ao30 t560.length co30) ∧ w'.cell? ⟨gb550, 0, none⟩ = some (.int .i64 a0_0) ∧ w'.cell? ⟨gb550, 1, none⟩ = some (.string a0_1) ∧ w'.cell? ⟨gb550, 2, none⟩ = some (.slice A0_2 l0_2.length c0_2)) (ds := []) #[false, false, false, false, false] (by kernel_rfl) rfl rfl ⟨(blk_cell BK563.out 0).trans rfl, (blk_cell BK563.out 1).trans rfl, (blk_cell BK563.out 2).trans rfl, (blk_cell BK550.out 0).trans rfl, (blk_cell BK550.out 1).trans rfl, (blk_cell BK550.out 2).trans rfl⟩ (fun hHeld => ?_)
     generalize w31.drew = w32 at HO556 HO562 BK550 BK563 HB hHeld ⊢
     refine take_ (i := 0) (N := some 29) (v := ?_) (a' := ?_) #[true, false, false, false, false] rfl rfl (by kernel_rfl) (fun _ _ _ h => h) (Or.inl ⟨by rfl, ?_⟩) hHeld ?_ ?_
     rotate_left; (focus (rintro w' ⟨s0, s1, s2, s3, s4, s5⟩; go_simp; with_reducible rfl)); rotate_left; (focus (simp only [pn_, sz_, ss_, i64_w, i32_w]; rfl))
     refine take_ (i := 1) (N := some 30) (v := ?_) (a' := ?_) #[true, true, false, false, false] rfl rfl (by kernel_rfl) (fun _ _ _ h => h) (Or.inl ⟨by rfl, ?_⟩) hHeld ?_ ?_
     rotate_left; (focus (rintro w' ⟨s0, s1, s2, s3, s4, s5⟩; go_simp; with_reducible rfl)); rotate_left; (focus (simp only [pn_, sz_, ss_, i64_w, i32_w]; rfl))
     refine one_ (i := 2) (N := some 31) #[true, true, true, false, false] rfl rfl (by kernel_rfl) (by decide) (fun K hK => ?_)
     refine goes_ Try.func14 (by kernel_rfl) rfl #[.agg #[.int .i64 a0_0, .string a0_1, .slice A0_2 l0_2.length c0_2]] (by rfl) rfl rfl (by (try simp only [List.map_toArray, List.map_cons, List.map_nil]); first | done | rfl | (simp only [List.length_drop, List.length_take]; rfl)) ?_
     with_reducible refine (laws_toRegex.calls k a0_0 a0_1 _ _ l0_2 t565 t566 t567 _ ?side1 ?side2 A15.out).mono ?_
     (case side1 => repeat (first | exact (Kd.C_below HR0_2.out HB.out) | (with_reducible refine Kd.C_alloc ?_ _) | (with_reducible refine Kd.C_drewN ?_ _) | (with_reducible refine Kd.C_drew ?_)))
     (case side2 => exact HC0_2.out)
     rintro e w33 ⟨v568, rfl, ho0, hb⟩
     refine ⟨_, rfl, ?_⟩
     have n0_ := Aside0.mk (Kd.R_elder' (by (with_reducible repeat (first | apply Kd.R_alloc | apply Kd.R_drewN | apply Kd.R_drew)); exact HO556.out) (Kd.R_base ho0) hb)
     have n1_ := Aside0.mk (Kd.R_elder' (by (with_reducible repeat (first | apply Kd.R_alloc | apply Kd.R_drewN | apply Kd.R_drew)); exact HO562.out) (Kd.R_base ho0) hb)
     have n2_ := Aside0.mk (Kd.R_lower (Kd.R_newB (Kd.R_new' (Kd.R_new' ho0 (Kd.R_lt (by (with_reducible repeat (first | apply Kd.R_alloc | apply Kd.R_drewN | apply Kd.R_drew)); exact HO556.out))) (Kd.R_lt (by (with_reducible repeat (first | apply Kd.R_alloc | apply Kd.R_drewN | apply Kd.R_drew)); exact HO562.out))) (g := gb563) (o := .cells #[.int .i64 t558, .string t559, .slice Ao30 t560.length co30] 29 (0, 0)) (by (with_reducible repeat (first | refine blk_drewN ?_ _ | refine blk_drew ?_ | refine blk_alloc ?_ _)); exact BK563.out)) (below_size (by repeat (first | (with_reducible first | exact HB.out | apply below_alloc | apply pw_below_drewN | apply below_drew1 | refine below_set ?_ GE550.out | refine below_set ?_ GE563.out) | exact HB.out))))
     have n3_ := Aside0.mk (blk_below (g := gb550) (o := .cells #[.int .i64 a0_0, .string a0_1, .slice A0_2 l0_2.length c0_2] 24 (0, 0)) (by (with_reducible repeat (first | refine blk_drewN ?_ _ | refine blk_drew ?_ | refine blk_alloc ?_ _)); exact BK550.out) hb)
     have n4_ := Aside0.mk (blk_below (g := gb563) (o := .cells #[.int .i64 t558, .string t559, .slice Ao30 t560.length co30] 29 (0, 0)) (by (with_reducible repeat (first | refine blk_drewN ?_ _ | refine blk_drew ?_ | refine blk_alloc ?_ _)); exact BK563.out) hb)
     have n5_ := Aside0.mk (below_step (by repeat (first | (with_reducible first | exact HB.out | apply below_alloc | apply pw_below_drewN | apply below_drew1 | refine below_set ?_ GE550.out | refine below_set ?_ GE563.out) | exact HB.out)) hb)
     clear HO556 HO562 BK550 BK563 HB
     have HO556 := n0_; have HO562 := n1_; have HO569 := n2_; have BK550 := n3_; have BK563 := n4_; have HB := n5_
     clear n0_ n1_ n2_ n3_ n4_ n5_
     (try clear hb)
     (try clear hb2)
     (try clear hk)
     (try clear hi)
     (try clear ho0)
     obtain ⟨Ao34, co34, eo34⟩ := Kd.R_slice HO569.out
     (first | subst eo34 | (injection eo34 with f1_ f2_ f3_; have f4_ := f1_.symm; have f5_ := f3_.symm; clear f1_ f2_ f3_; subst f4_; subst f5_))
     refine hK.out _ _ ⟨(blk_cell BK563.out 0).trans rfl, (blk_cell BK563.out 1).trans rfl, (blk_cell BK563.out 2).trans rfl, (blk_cell BK550.out 0).trans rfl, (blk_cell BK550.out 1).trans rfl, (blk_cell BK550.out 2).trans rfl⟩ (fun hHeld => ?_)
     clear hK K
     refine norm_ (a' := ?_) ?_ ?_
     rotate_left
     ·show Act.put _ (some 31) _ = _
      simp only [pn_, sz_, ss_, i64_w, i32_w]
      rfl
     refine one_ (i := 3) (N := some 32) #[true, true, true, true, false] rfl rfl (by kernel_rfl) (by decide) (fun K hK => ?_)
     refine goes_ Try.func16 (by kernel_rfl) rfl #[.agg #[.int .i64 t558, .string t559, .slice Ao30 t560.length co30], .agg #[.int .i64 t565, .string t566, .slice Ao34 t567.length co34]] (by rfl) rfl rfl (by (try simp only [List.map_toArray, List.map_cons, List.map_nil]); first | done | rfl | (simp only [List.length_drop, List.length_take]; rfl)) ?_
     with_reducible refine (laws_eqRegex.calls k t558 t559 _ _ t560 t565 t566 _ _ t567 true _ ?side1 ?side2 ?side3 ?side4 A16.out).mono ?_
     (case side1 => repeat (first | exact (Kd.R_reads' HO562.out).2.2 | (with_reducible refine Kd.C_alloc ?_ _) | (with_reducible refine Kd.C_drewN ?_ _) | (with_reducible refine Kd.C_drew ?_)))
     (case side2 => exact (Kd.R_reads' HO562.out).2.1)
     (case side3 => repeat (first | exact (Kd.R_reads' HO569.out).2.2 | (with_reducible refine Kd.C_alloc ?_ _) | (with_reducible refine Kd.C_drewN ?_ _) | (with_reducible refine Kd.C_drew ?_)))
     (case side4 => exact (Kd.R_reads' HO569.out).2.1)
     rintro e w35 ⟨rfl, hb⟩
     refine ⟨_, rfl, ?_⟩
     have n0_ := Aside0.mk (Kd.R_below (by (with_reducible repeat (first | apply Kd.R_alloc | apply Kd.R_drewN | apply Kd.R_drew)); exact HO556.out) hb)
     have n1_ := Aside0.mk (Kd.R_below (by (with_reducible repeat (first | apply Kd.R_alloc | apply Kd.R_drewN | apply Kd.R_drew)); exact HO562.out) hb)
     have n2_ := Aside0.mk (Kd.R_below (by (with_reducible repeat (first | apply Kd.R_alloc | apply Kd.R_drewN | apply Kd.R_drew)); exact HO569.out) hb)
     have n3_ := Aside0.mk (blk_below (g := gb550) (o := .cells #[.int .i64 a0_0, .string a0_1, .slice A0_2 l0_2.length c0_2] 24 (0, 0)) (by (with_reducible repeat (first | refine blk_drewN ?_ _ | refine blk_drew ?_ | refine blk_alloc ?_ _)); exact BK550.out) hb)
     have n4_ := Aside0.mk (blk_below (g := gb563) (o := .cells #[.int .i64 t558, .string t559, .slice Ao30 t560.length co30] 29 (0, 0)) (by (with_reducible repeat (first | refine blk_drewN ?_ _ | refine blk_drew ?_ | refine blk_alloc ?_ _)); exact BK563.out) hb)
     have n5_ := Aside0.mk (below_step (by repeat (first | (with_reducible first | exact HB.out | apply below_alloc | apply pw_below_drewN | apply below_drew1 | refine below_set ?_ GE550.out | refine below_set ?_ GE563.out) | exact HB.out)) hb)
     clear HO556 HO562 HO569 BK550 BK563 HB
     have HO556 := n0_; have HO562 := n1_; have HO569 := n2_; have BK550 := n3_; have BK563 := n4_; have HB := n5_
     clear n0_ n1_ n2_ n3_ n4_ n5_
     (try clear hb)
     (try clear hb2)
     (try clear hk)
     (try clear hi)
     refine hK.out _ _ ⟨(blk_cell BK563.out 0).trans rfl, (blk_cell BK563.out 1).trans rfl, (blk_cell BK563.out 2).trans rfl, (blk_cell BK550.out 0).trans rfl, (blk_cell BK550.out 1).trans rfl, (blk_cell BK550.out 2).trans rfl⟩ (fun hHeld => ?_)
     clear hK K
     refine norm_ (a' := ?_) ?_ ?_
     rotate_left
     ·show Act.put _ (some 32) _ = _
      simp only [pn_, sz_, ss_, i64_w, i32_w]
      rfl
     refine pure_ (i := 4) (N := some 33) (v := ?_) (a' := ?_) #[true, true, true, true, true] rfl rfl (by kernel_rfl) (fun _ _ _ h => h) (Or.inl ⟨by rfl, ?_⟩) ?_ ?_
     rotate_left; (focus (intro w'; go_simp; with_reducible rfl)); rotate_left; (focus (simp only [pn_, sz_, ss_, i64_w, i32_w]; rfl))
     refine done_ (by kernel_rfl) ?_
     try go_wp2
     go_ret
     exact ⟨by first | rfl | (simp [errW_none, errW_some] <;> rfl) | (simp [*, errW_none, errW_some] <;> rfl), by repeat (first | (with_reducible first | exact HB.out | apply below_alloc | apply pw_below_drewN | apply below_drew1 | refine below_set ?_ GE550.out | refine below_set ?_ GE563.out) | exact HB.out)⟩
    ·replace c17 := Bool.eq_false_iff.mpr c17
     subst c17
     have H1 : (some false) = some r := by rw [if_neg (show ¬ (false = true) by decide)] at H; exact H
     clear H
     have H := H1
     clear H1
     obtain rfl := Option.some.inj H
     exact absurd hR (by decide)
end Go.Proofs.Ytldgkgdgcfllmaa.P
end
section
namespace Go.Proofs.Ytldgkgdgcfllmaa.Rk
open Go.RowKit Go.Deep Go.ChangeShapes Go.WideShapes Go.Proofs.YtldgkgdgcfllmaaW.PrintWords Go.Proofs.YtldgkgdgcfllmaaW.PrintLast Go.Proofs.YtldgkgdgcfllmaaW.PrintMore
set_option linter.unusedVariables false
set_option linter.unusedSimpArgs false
variable {H : Type} {enc : TypeId × Value → H} {P : Program} {w : World} {base : Nat} {spare : Nat → Bool} {held : Bool} {α : Type}
def Opens (enc : TypeId × Value → H) (P : Program) (w : World) (base : Nat) (spare : Nat → Bool) (held : Bool) (K : Kd α) (G : α → Prop) (t : TypeId) : Prop :=
  ∀ (fuel : Nat) (cs : List Value) (x : DataW H × List MemPlace), DataW.trod enc P w base spare held fuel t cs = some x → ∃ a, K.K w a cs ∧ G a
def wfI (k : IntKind) (n : Int) : Prop := (Lit.int k n).wf = true
def shortS (s : ByteArray) : Prop := s.size ≤ 9223372036854775807
def rowsOf (G : α → Prop) (xs : List α) : Prop := xs.length ≤ 9223372036854775807 ∧ ∀ x ∈ xs, G x
theorem opens_int {k : IntKind} {t : TypeId} (ht : P.underlying t = some (.int k)) : Opens enc P w base spare held (Kd.int k) (wfI k) t := by
  intro fuel cs x h
  obtain ⟨n, rfl, _, h2⟩ := DataW.trod_int ht h
  exact ⟨n, rfl, h2⟩
theorem opens_string {t : TypeId} (ht : P.underlying t = some .string) : Opens enc P w base spare held Kd.string shortS t := by
  intro fuel cs x h
  obtain ⟨s, rfl, _, h2⟩ := DataW.trod_string ht h
  exact ⟨s, rfl, h2⟩
theorem slice_of {K : Kd α} {q : Nat} {v : Value} {xs : List α} (h : (Kd.slice q K).K w xs [v]) : ∃ A c, v = .slice A xs.length c ∧ xs.length ≤ c ∧ K.C w A xs.length xs := by
  obtain ⟨A, c, e, h1, h2⟩ := h
  exact ⟨A, c, by simpa using e, h1, h2⟩
end Go.Proofs.Ytldgkgdgcfllmaa.Rk
end
section
namespace Go.Proofs.Ytldgkgdgcfllmaa.Rk
open Go.RowKit Go.Deep Go.ChangeShapes Go.WideShapes Go.Proofs.Ytldgkgdgcfllmaa.P Go.Proofs.YtldgkgdgcfllmaaW.PrintWords Go.Proofs.YtldgkgdgcfllmaaW.PrintLast Go.Proofs.YtldgkgdgcfllmaaW.PrintMore
set_option linter.unusedVariables false
set_option linter.unusedSimpArgs false
variable {H : Type} {enc : TypeId × Value → H} {w : World} {base : Nat} {spare : Nat → Bool} {held : Bool}
inductive OkT : S24 → Prop
  | mk (x : S24) (h0 : wfI .i64 x.f0) (h1 : shortS x.f1) (h2 : x.f2.length ≤ 9223372036854775807) (h3 : ∀ y ∈ x.f2, OkT y) : OkT x
theorem row_trees {a : Addr} {len cap : Nat} (hl : len ≤ cap) (hm : cap ≤ maxLen) (h : ∀ i, i < len → ∃ y : S24, (∃ cs', w.cells? base (a.add (i * 3)) 3 = some cs' ∧ k24.K w y cs') ∧ OkT y) :
    ∃ xs : List S24, xs.length = len ∧ Kd.C k24 w (some a) xs.length xs ∧ xs.length ≤ 9223372036854775807 ∧ ∀ y ∈ xs, OkT y := by
  haveI : Inhabited S24 := ⟨z24⟩
  obtain ⟨f, hf⟩ := choose_lt (n := len) (p := fun i y => (∃ cs', w.cells? base (a.add (i * 3)) 3 = some cs' ∧ k24.K w y cs') ∧ OkT y) h
  have hlen : ((List.range len).map f).length = len := by simp
  have hbig : len ≤ 9223372036854775807 := by unfold maxLen at hm; omega
  refine ⟨(List.range len).map f, hlen, ⟨rfl, by rw [hlen]; exact hbig, fun _ => ⟨a, rfl, fun j p hj => ?_⟩⟩, by rw [hlen]; exact hbig, fun y hy => ?_⟩
  · have hjl : j < len := by
      have := (List.getElem?_eq_some_iff.1 hj).1
      rwa [hlen] at this
    have hp : f j = p := by
      rw [List.getElem?_map, List.getElem?_range hjl] at hj
      simpa using hj
    subst hp
    obtain ⟨⟨cs', hc, hK⟩, _⟩ := hf j hjl
    obtain ⟨_, hcl, hat⟩ := World.cells?_some hc
    refine ⟨cs', hcl, hK, fun i u hu => ?_⟩
    have hi : i < 3 := by
      have := (List.getElem?_eq_some_iff.1 hu).1
      omega
    have e : k24.sz = 3 := rfl
    rw [e, ← Go.Deep.add_add, hat i hi]
    exact hu
  · obtain ⟨i, hi, rfl⟩ := List.mem_map.mp hy
    exact (hf i (List.mem_range.mp hi)).2
theorem slice_trees {fuel : Nat} (ih : ∀ n, n < fuel → ∀ cs (x : DataW H × List MemPlace), DataW.trod enc Try.prog w base spare held n 24 cs = some x → ∃ y, k24.K w y cs ∧ OkT y)
    {cs : List Value} {x : DataW H × List MemPlace} (h : DataW.trod enc Try.prog w base spare held fuel 22 cs = some x) : ∃ xs : List S24, (Kd.slice 24 k24).K w xs cs ∧ rowsOf OkT xs := by
  rcases DataW.trod_slice Try.underlying22 h with ⟨rfl, _⟩ | ⟨a, len, cap, elems, rest, n, rfl, rfl, _, hb, hl, hm, hlen, hel, _, _⟩
  · exact ⟨[], ⟨none, 0, rfl, Nat.le_refl _, rfl, by simp, fun h0 => absurd h0 (Nat.lt_irrefl _)⟩, by simp, fun x hx => by cases hx⟩
  · have hC : Try.prog.cellsOf 24 = 3 := by kernel_rfl
    obtain ⟨xs, h1, h2, h3, h4⟩ := row_trees (w := w) (base := base) (a := a) hl hm (fun i hi => by
      have := hel i hi
      rw [List.getElem?_eq_getElem (by omega), hC] at this
      obtain ⟨cs', hc, ht⟩ := Option.bind_eq_some_iff.1 this
      obtain ⟨y, hy, hok⟩ := ih n (by omega) cs' _ ht
      exact ⟨y, ⟨cs', hc, hy⟩, hok⟩)
    subst h1
    exact ⟨xs, ⟨some a, cap, rfl, hl, h2⟩, h3, h4⟩
set_option maxRecDepth 100000 in
theorem opens_tree : ∀ (fuel : Nat) (cs : List Value) (x : DataW H × List MemPlace), DataW.trod enc Try.prog w base spare held fuel 24 cs = some x → ∃ y, k24.K w y cs ∧ OkT y := by
  intro fuel
  induction fuel using Nat.strongRecOn with
  | _ fuel ih =>
  intro cs x h
  obtain ⟨xs, n, rfl, _, hcl, hlen, hg⟩ := DataW.trod_struct Try.underlying24 h
  have hC : Try.prog.cellsOf 24 = 3 := by kernel_rfl
  have c0 : Try.prog.cellsOf 3 = 1 := by kernel_rfl
  have c1 : Try.prog.cellsOf 9 = 1 := by kernel_rfl
  have c2 : Try.prog.cellsOf 22 = 1 := by kernel_rfl
  rw [hC] at hcl
  match cs, hcl, xs, hlen with
  | [u0, u1, u2], _, [y0, y1, y2], _ =>
    have g0 : DataW.trod enc Try.prog w base spare held n 3 (([u0, u1, u2].drop 0).take (Try.prog.cellsOf 3)) = some y0 := hg 0 _ rfl
    have g1 : DataW.trod enc Try.prog w base spare held n 9 (([u0, u1, u2].drop 1).take (Try.prog.cellsOf 9)) = some y1 := hg 1 _ rfl
    have g2 : DataW.trod enc Try.prog w base spare held n 22 (([u0, u1, u2].drop 2).take (Try.prog.cellsOf 22)) = some y2 := hg 2 _ rfl
    rw [c0] at g0
    rw [c1] at g1
    rw [c2] at g2
    obtain ⟨a, e0, _, w0⟩ := DataW.trod_int Try.underlying3 g0
    obtain ⟨s, e1, _, w1⟩ := DataW.trod_string Try.underlying9 g1
    obtain ⟨l, hK, hl, hok⟩ := slice_trees (fuel := n) (fun m hm => ih m (by omega)) g2
    obtain ⟨A, c, e2, hlc, hC2⟩ := hK
    have q0 : u0 = .int .i64 a := (List.cons.inj e0).1
    have q1 : u1 = .string s := (List.cons.inj e1).1
    have q2 : u2 = .slice A l.length c := (List.cons.inj e2).1
    subst q0
    subst q1
    subst q2
    exact ⟨⟨a, s, l⟩, k24_mk w ⟨a, s, l⟩ hlc hC2, OkT.mk _ w0 w1 hl hok⟩
theorem opens_trees : Opens enc Try.prog w base spare held (Kd.slice 24 k24) (rowsOf OkT) 22 :=
  fun fuel cs x h => slice_trees (fun n _ => opens_tree n) h
end Go.Proofs.Ytldgkgdgcfllmaa.Rk
end
section
namespace Go.Proofs.Ytldgkgdgcfllmaa.St
open Go.Proofs.Ytldgkgdgcfllmaa Go.Proofs.Ytldgkgdgcfllmaa.P Rk
def FnExactMatchRegex : Prop := ∀ (l0_0 : Int) (l0_1 : ByteArray) (l0_2 : List (S24)) (a1 : ByteArray), (wfI .i64) l0_0 → shortS l0_1 → (rowsOf OkT) l0_2 → a1.size ≤ 140737488351232 → ∃ k, P.laws_FnExactMatchRegex.f k l0_0 l0_1 l0_2 a1 = some true
end Go.Proofs.Ytldgkgdgcfllmaa.St
end
section
namespace Go.Proofs.Ytldgkgdgcfllmaa.Pl
open Go.RowKit Go.Proofs.Ytldgkgdgcfllmaa Go.Proofs.Ytldgkgdgcfllmaa.P Go.Proofs.Ytldgkgdgcfllmaa.Rk Go.Proofs.YtldgkgdgcfllmaaW.PrintWords Go.Proofs.YtldgkgdgcfllmaaW.PrintLast Go.Proofs.YtldgkgdgcfllmaaW.PrintMore
set_option linter.unusedVariables false
set_option linter.unusedSimpArgs false
abbrev TL := S24
abbrev TI := S29
mutual
theorem TI.ind {p : TI → Prop} (h : ∀ x : TI, (∀ y ∈ x.f2, p y) → p x) : ∀ x, p x
  | ⟨a, s, l⟩ => h _ (TI.inds h l)
theorem TI.inds {p : TI → Prop} (h : ∀ x : TI, (∀ y ∈ x.f2, p y) → p x) : ∀ (l : List TI), ∀ y ∈ l, p y
  | [], _, hy => by cases hy
  | x :: l, y, hy => by
    rcases List.mem_cons.mp hy with q | q
    · rw [q]; exact TI.ind h x
    · exact TI.inds h l y q
end
mutual
theorem TL.ind {p : TL → Prop} (h : ∀ x : TL, (∀ y ∈ x.f2, p y) → p x) : ∀ x, p x
  | ⟨a, s, l⟩ => h _ (TL.inds h l)
theorem TL.inds {p : TL → Prop} (h : ∀ x : TL, (∀ y ∈ x.f2, p y) → p x) : ∀ (l : List TL), ∀ y ∈ l, p y
  | [], _, hy => by cases hy
  | x :: l, y, hy => by
    rcases List.mem_cons.mp hy with q | q
    · rw [q]; exact TL.ind h x
    · exact TL.inds h l y q
end
mutual
def wt : TL → Nat
  | ⟨_, s, l⟩ => s.size + wts l
def wts : List TL → Nat
  | [] => 0
  | x :: l => 1 + wt x + wts l
end
mutual
def cv : TL → TI
  | ⟨a, s, l⟩ => ⟨a, s, cvs l⟩
def cvs : List TL → List TI
  | [] => []
  | x :: l => cv x :: cvs l
end
theorem cvs_map (l : List TL) : cvs l = l.map cv := by
  induction l with
  | nil => rfl
  | cons x l ih => rw [cvs, ih, List.map_cons]
theorem cv_eq (x : TL) : cv x = ⟨x.f0, x.f1, x.f2.map cv⟩ := by
  obtain ⟨a, s, l⟩ := x
  rw [cv, cvs_map]
theorem wt_eq (x : TL) : wt x = x.f1.size + wts x.f2 := by
  obtain ⟨a, s, l⟩ := x
  rw [wt]
theorem wts_drop (l : List TL) (i : Nat) (h : i < l.length) : wts (l.drop i) = 1 + wt l[i] + wts (l.drop (i + 1)) := by rw [List.drop_eq_getElem_cons h, wts]
theorem wts_len (l : List TL) : l.length ≤ wts l := by
  induction l with
  | nil => exact Nat.le_refl _
  | cons x l ih => rw [wts, List.length_cons]; omega
theorem rdTL (l : List TL) (i : Nat) (h : i < l.length) : rd_T24 l (i : Int) = l[i] := by
  unfold rd_T24
  rw [Int.toNat_natCast, List.getD_eq_getElem?_getD, List.getElem?_eq_getElem h]
  rfl
theorem rdTI (l : List TI) (i : Nat) (h : i < l.length) : rd_T29 l (i : Int) = l[i] := by
  unfold rd_T29
  rw [Int.toNat_natCast, List.getD_eq_getElem?_getD, List.getElem?_eq_getElem h]
  rfl
def lft (left n : Nat) : Int := if n ≤ left then ((left - n : Nat) : Int) else -1
theorem sz_loop {l : List TL} (hl : l.length ≤ 9223372036854775807) (ih : ∀ y ∈ l, ∀ left : Nat, left ≤ 1048576 → Ev (fun k => laws_szRegex.f k y.f0 y.f1 y.f2 (left : Int)) (lft left (wt y))) :
    ∀ (d i left : Nat), i + d = l.length → left ≤ 1048576 → Ev (fun k => laws_szRegexS.l0 k l (left : Int) (i : Int)) (lft left (wts (l.drop i) - (l.drop i).length)) := by
  intro d
  induction d with
  | zero =>
    intro i left h hle
    refine next ?_
    simp only [laws_szRegexS.l0, if_neg (show ¬ (i : Int) < (l.length : Int) by omega)]
    rw [List.drop_eq_nil_of_le (by omega)]
    exact ev_some (by simp [lft, wts])
  | succ d ihd =>
    intro i left h hle
    have hi : i < l.length := by omega
    refine next ?_
    simp only [laws_szRegexS.l0, if_pos (show (i : Int) < (l.length : Int) by omega), if_pos (show (0 : Int) ≤ (i : Int) by omega), rdTL l i hi]
    refine Ev.bind (ih _ (List.getElem_mem hi) left hle) ?_
    rw [wts_drop l i hi, show (l.drop i).length = (l.drop (i + 1)).length + 1 by simp only [List.length_drop]; omega]
    have hwl := wts_len (l.drop (i + 1))
    unfold lft
    by_cases hw : wt l[i] ≤ left
    · simp only [if_pos hw, if_neg (show ¬ ((left - wt l[i] : Nat) : Int) < 0 by omega), up1 (show i < 9223372036854775807 by omega)]
      refine ev_eq (ihd (i + 1) (left - wt l[i]) (by omega) (by omega)) ?_
      unfold lft
      by_cases h2 : wts (l.drop (i + 1)) - (l.drop (i + 1)).length ≤ left - wt l[i]
      · rw [if_pos h2, if_pos (by omega)]; omega
      · rw [if_neg h2, if_neg (by omega)]
    · simp only [if_neg hw, if_pos (show (-1 : Int) < 0 by omega)]
      exact ev_some (by rw [if_neg (by omega)])
theorem sz_tree : ∀ x : TL, OkT x → ∀ left : Nat, left ≤ 1048576 → Ev (fun k => laws_szRegex.f k x.f0 x.f1 x.f2 (left : Int)) (lft left (wt x)) := by
  refine TL.ind fun x ih hx left hle => ?_
  obtain ⟨_, h0, h1, h2, h3⟩ := hx
  have hs : x.f1.size ≤ 9223372036854775807 := h1
  refine next ?_
  rw [wt_eq]
  simp only [laws_szRegex.f, w64 (show -9223372036854775808 ≤ (left : Int) - (x.f1.size : Int) by omega) (by omega)]
  have hwl := wts_len x.f2
  unfold lft
  by_cases ha : (left : Int) - (x.f1.size : Int) < 0
  · simp only [if_pos ha]
    exact ev_some (by rw [if_neg (by omega)])
  · simp only [if_neg ha]
    have e1 : (left : Int) - (x.f1.size : Int) = ((left - x.f1.size : Nat) : Int) := by omega
    rw [e1]
    have hS : Ev (fun k => laws_szRegexS.f k x.f2 ((left - x.f1.size : Nat) : Int)) (lft (left - x.f1.size) (wts x.f2)) := by
      refine next ?_
      simp only [laws_szRegexS.f, w64 (show -9223372036854775808 ≤ ((left - x.f1.size : Nat) : Int) - (x.f2.length : Int) by omega) (by omega)]
      unfold lft
      by_cases hb : ((left - x.f1.size : Nat) : Int) - (x.f2.length : Int) < 0
      · simp only [if_pos hb]
        exact ev_some (by rw [if_neg (by omega)])
      · simp only [if_neg hb]
        have e2 : ((left - x.f1.size : Nat) : Int) - (x.f2.length : Int) = ((left - x.f1.size - x.f2.length : Nat) : Int) := by omega
        rw [e2]
        refine ev_eq (sz_loop h2 (fun y hy left hl => ih y hy (h3 y hy) left hl) x.f2.length 0 (left - x.f1.size - x.f2.length) (by omega) (by omega)) ?_
        rw [List.drop_zero]
        unfold lft
        by_cases hc : wts x.f2 ≤ left - x.f1.size
        · rw [if_pos hc, if_pos (by omega)]; omega
        · rw [if_neg hc, if_neg (by omega)]
    refine Ev.bind hS ?_
    unfold lft
    by_cases hc : wts x.f2 ≤ left - x.f1.size
    · simp only [if_pos hc, if_neg (show ¬ ((left - x.f1.size - wts x.f2 : Nat) : Int) < 0 by omega)]
      exact ev_some (by rw [if_pos (by omega)]; omega)
    · simp only [if_neg hc, if_pos (show (-1 : Int) < 0 by omega)]
      exact ev_some (by rw [if_neg (by omega)])
theorem set_mid {α : Type} (A : List α) (z y : α) (B : List α) : (A ++ z :: B).set A.length y = A ++ [y] ++ B := by
  induction A with
  | nil => rfl
  | cons a A ih => simp
theorem to_loop {l : List TL} (hl : l.length ≤ 1048576) (ih : ∀ y ∈ l, Ev (fun k => laws_toRegex.f k y.f0 y.f1 y.f2) ((cv y).f0, (cv y).f1, (cv y).f2)) :
    ∀ (d i : Nat), i + d = l.length → Ev (fun k => laws_toRegexS.l0 k l ((l.take i).map cv ++ List.replicate (l.length - i) z29) (i : Int)) (l.map cv) := by
  intro d
  induction d with
  | zero =>
    intro i h
    obtain rfl : i = l.length := by omega
    refine next ?_
    simp only [laws_toRegexS.l0, if_neg (show ¬ (l.length : Int) < (l.length : Int) by omega)]
    exact ev_some (by simp)
  | succ d ihd =>
    intro i h
    have hi : i < l.length := by omega
    refine next ?_
    simp only [laws_toRegexS.l0, if_pos (show (i : Int) < (l.length : Int) by omega), if_pos (show (0 : Int) ≤ (i : Int) by omega), rdTL l i hi]
    refine Ev.bind (ih _ (List.getElem_mem hi)) ?_
    have hlen : ((l.take i).map cv ++ List.replicate (l.length - i) z29).length = l.length := by simp; omega
    have hset : ((l.take i).map cv ++ List.replicate (l.length - i) z29).set (i : Int).toNat (⟨(cv l[i]).f0, (cv l[i]).f1, (cv l[i]).f2⟩ : TI) = (l.take (i + 1)).map cv ++ List.replicate (l.length - (i + 1)) z29 := by
      have e0 : l.length - i = (l.length - (i + 1)) + 1 := by omega
      have e1 : ((l.take i).map cv).length = i := by simp; omega
      have e2 := set_mid ((l.take i).map cv) z29 (⟨(cv l[i]).f0, (cv l[i]).f1, (cv l[i]).f2⟩ : TI) (List.replicate (l.length - (i + 1)) z29)
      rw [e1] at e2
      rw [Int.toNat_natCast, e0, List.replicate_succ, e2, List.take_succ_eq_append_getElem hi, List.map_append, List.map_singleton]
      have e3 : (⟨(cv l[i]).f0, (cv l[i]).f1, (cv l[i]).f2⟩ : TI) = cv l[i] := by cases cv l[i]; rfl
      rw [e3]
    simp only [if_pos (show (i : Int) < (((l.take i).map cv ++ List.replicate (l.length - i) z29).length : Int) by omega), hset, up1 (show i < 9223372036854775807 by omega)]
    exact ihd (i + 1) (by omega)
theorem to_tree : ∀ x : TL, wt x ≤ 1048576 → Ev (fun k => laws_toRegex.f k x.f0 x.f1 x.f2) ((cv x).f0, (cv x).f1, (cv x).f2) := by
  refine TL.ind fun x ih hx => ?_
  rw [wt_eq] at hx
  have hwl := wts_len x.f2
  refine next ?_
  simp only [laws_toRegex.f]
  have hS : Ev (fun k => laws_toRegexS.f k x.f2) (x.f2.map cv) := by
    refine next ?_
    simp only [laws_toRegexS.f, if_pos (show (0 : Int) ≤ (x.f2.length : Int) by omega), if_pos (show ((x.f2.length : Int)).toNat ≤ 5864062014805 by omega)]
    have := to_loop (l := x.f2) (by omega) (fun y hy => ih y hy (by
      obtain ⟨i, hi, rfl⟩ := List.mem_iff_getElem.mp hy
      have h1 : ∀ (m : List TL), (∀ z ∈ m, wt z ≤ wts m) := by
        intro m
        induction m with
        | nil => intro z hz; cases hz
        | cons a m ihm =>
          intro z hz
          rw [wts]
          rcases List.mem_cons.mp hz with q | q
          · subst q; omega
          · have := ihm z q; omega
      have := h1 _ _ (List.getElem_mem hi)
      omega)) x.f2.length 0 (by omega)
    simpa using this
  refine Ev.bind hS ?_
  rw [cv_eq]
  exact Ev.now _
theorem eq_loop {l : List TI} (hl : l.length ≤ 9223372036854775807) (ih : ∀ y ∈ l, Ev (fun k => laws_eqRegex.f k y.f0 y.f1 y.f2 y.f0 y.f1 y.f2) true) :
    ∀ (d i : Nat), i + d = l.length → Ev (fun k => laws_eqRegexS.l0 k l l (i : Int)) true := by
  intro d
  induction d with
  | zero =>
    intro i h
    refine next ?_
    simp only [laws_eqRegexS.l0, if_neg (show ¬ (i : Int) < (l.length : Int) by omega)]
    exact Ev.now _
  | succ d ihd =>
    intro i h
    have hi : i < l.length := by omega
    refine next ?_
    simp only [laws_eqRegexS.l0, if_pos (show (i : Int) < (l.length : Int) by omega), if_pos (show (0 : Int) ≤ (i : Int) by omega), rdTI l i hi]
    refine Ev.bind (ih _ (List.getElem_mem hi)) ?_
    simp only [if_true, up1 (show i < 9223372036854775807 by omega)]
    exact ihd (i + 1) (by omega)
inductive Thin : TI → Prop
  | mk (x : TI) (h : x.f2.length ≤ 1048576) (hs : x.f1.size ≤ 1048576) (hc : ∀ y ∈ x.f2, Thin y) : Thin x
theorem thin_cv : ∀ x : TL, wt x ≤ 1048576 → Thin (cv x) := by
  refine TL.ind fun x ih hx => ?_
  have hw := hx
  rw [wt_eq] at hw
  have hwl := wts_len x.f2
  refine Thin.mk _ (by rw [cv_eq]; show (x.f2.map cv).length ≤ _; rw [List.length_map]; omega) (by rw [cv_eq]; show x.f1.size ≤ _; omega) ?_
  rw [cv_eq]
  intro y hy
  obtain ⟨z, hz, rfl⟩ := List.mem_map.mp hy
  refine ih z hz ?_
  have h1 : ∀ (m : List TL), (∀ z ∈ m, wt z ≤ wts m) := by
    intro m
    induction m with
    | nil => intro z hz; cases hz
    | cons a m ihm =>
      intro z hz
      rw [wts]
      rcases List.mem_cons.mp hz with q | q
      · subst q; omega
      · have := ihm z q; omega
  have := h1 _ _ hz
  omega
theorem eq_tree : ∀ x : TI, Thin x → Ev (fun k => laws_eqRegex.f k x.f0 x.f1 x.f2 x.f0 x.f1 x.f2) true := by
  refine TI.ind fun x ih hx => ?_
  obtain ⟨_, h1, _, h2⟩ := hx
  refine next ?_
  simp only [laws_eqRegex.f, if_true]
  have hS : Ev (fun k => laws_eqRegexS.f k x.f2 x.f2) true := by
    refine next ?_
    simp only [laws_eqRegexS.f, if_true]
    exact eq_loop (by omega) (fun y hy => ih y hy (h2 y hy)) x.f2.length 0 (by omega)
  refine Ev.bind hS ?_
  simp only [if_true]
  exact Ev.now _
end Go.Proofs.Ytldgkgdgcfllmaa.Pl
end
section
namespace Go.Proofs.Ytldgkgdgcfllmaa.Pl
open Go.RowKit Go.Proofs.Ytldgkgdgcfllmaa.P Go.Proofs.YtldgkgdgcfllmaaW.PrintWords Go.Proofs.YtldgkgdgcfllmaaW.PrintLast Go.Proofs.YtldgkgdgcfllmaaW.PrintMore
set_option linter.unusedVariables false
set_option linter.unusedSimpArgs false
def letIdx (b : Int) : Int := if b = 97 then 0 else if b = 98 then 1 else if b = 99 then 2 else -1
theorem spec_letter (b : Int) : Ev (fun k => spec_LetterIndex.f k b) (letIdx b) := by
  simp only [spec_LetterIndex.f]
  have e0 : bt (⟨#[97, 98, 99]⟩ : ByteArray) 0 = 97 := rfl
  have e1 : bt (⟨#[97, 98, 99]⟩ : ByteArray) 1 = 98 := rfl
  have e2 : bt (⟨#[97, 98, 99]⟩ : ByteArray) 2 = 99 := rfl
  have w0 : wrap64 ((0 : Int) + 1) = 1 := by unfold wrap64; omega
  have w1 : wrap64 ((1 : Int) + 1) = 2 := by unfold wrap64; omega
  have w2 : wrap64 ((2 : Int) + 1) = 3 := by unfold wrap64; omega
  refine next ?_
  simp only [spec_LetterIndex.l0, if_pos (show (0 : Int) < 3 by omega), if_pos (show (0 : Int) ≤ 0 by omega), e0, w0, letIdx]
  by_cases h : b = 97
  · simp only [h, if_true]
    exact Ev.now _
  · simp only [if_neg h, if_neg (fun e => h (Eq.symm e))]
    refine next ?_
    simp only [spec_LetterIndex.l0, if_pos (show (1 : Int) < 3 by omega), if_pos (show (0 : Int) ≤ 1 by omega), e1, w1]
    by_cases h : b = 98
    · simp only [h, if_true]
      exact Ev.now _
    · simp only [if_neg h, if_neg (fun e => h (Eq.symm e))]
      refine next ?_
      simp only [spec_LetterIndex.l0, if_pos (show (2 : Int) < 3 by omega), if_pos (show (0 : Int) ≤ 2 by omega), e2, w2]
      by_cases h : b = 99
      · simp only [h, if_true]
        exact Ev.now _
      · simp only [if_neg h, if_neg (fun e => h (Eq.symm e))]
        refine next ?_
        simp only [spec_LetterIndex.l0, if_neg (show ¬ (3 : Int) < 3 by omega)]
        exact Ev.now _
theorem u8_eq {b : Int} (h0 : 0 ≤ b) (h1 : b ≤ 255) (c : Nat) (hc : c < 256) : (b.toNat.toUInt8 = UInt8.ofNat c) ↔ b = c := by
  constructor
  · intro h
    have := congrArg UInt8.toNat h
    simp at this
    omega
  · rintro rfl
    simp
theorem impl_letter {b : Int} (h0 : 0 ≤ b) (h1 : b ≤ 255) : impl_LetterIndex.f b = some (letIdx b) := by
  simp only [impl_LetterIndex.f, strings_IndexByte.f, Option.bind_some, letIdx]
  have e97 := u8_eq h0 h1 97 (by omega)
  have e98 := u8_eq h0 h1 98 (by omega)
  have e99 := u8_eq h0 h1 99 (by omega)
  congr 1
  by_cases h : b = 97
  · rw [h]; rfl
  · by_cases h2 : b = 98
    · rw [h2]; rfl
    · by_cases h3 : b = 99
      · rw [h3]; rfl
      · have n97 : ¬ b.toNat.toUInt8 = 97 := fun e => h (e97.mp e)
        have n98 : ¬ b.toNat.toUInt8 = 98 := fun e => h2 (e98.mp e)
        have n99 : ¬ b.toNat.toUInt8 = 99 := fun e => h3 (e99.mp e)
        rw [if_neg h, if_neg h2, if_neg h3]
        have q1 : ¬ (97 : UInt8) = b.toNat.toUInt8 := fun e => n97 e.symm
        have q2 : ¬ (98 : UInt8) = b.toNat.toUInt8 := fun e => n98 e.symm
        have q3 : ¬ (99 : UInt8) = b.toNat.toUInt8 := fun e => n99 e.symm
        simp only [Lib.indexByte, beq_iff_eq, n97, n98, n99, q1, q2, q3, if_false]
        rfl
def lets (l : List Int) : Bool := l.all fun b => decide (0 ≤ letIdx b)
def word (s : ByteArray) : Bool := lets (bytesOf s) && decide (s.size ≤ 30)
theorem spec_word_l0 (s : ByteArray) (hs : s.size ≤ 140737488351232) : ∀ d i : Nat, i + d = s.size → Ev (fun k => spec_IsWord.l0 k s i) (lets ((bytesOf s).drop i) && decide ((s.size : Int) ≤ 30)) := by
  intro d
  induction d with
  | zero =>
    intro i h
    refine next ?_
    simp only [spec_IsWord.l0, if_neg (show ¬ (i : Int) < (s.size : Int) by omega), drop_end s i (by omega)]
    exact ev_some (by simp [lets])
  | succ d ih =>
    intro i h
    refine next ?_
    simp only [spec_IsWord.l0, if_pos (show (i : Int) < (s.size : Int) by omega), if_pos (show (0 : Int) ≤ i by omega)]
    refine Ev.bind (spec_letter _) ?_
    rw [drop_cons s i (by omega)]
    by_cases hl : letIdx (bt s i) < 0
    · simp only [if_pos hl]
      exact ev_some (by simp [lets, show ¬ 0 ≤ letIdx (bt s i) by omega])
    · simp only [if_neg hl, up1 (show i < 9223372036854775807 by omega)]
      exact ev_eq (ih (i + 1) (by omega)) (by simp [lets, show 0 ≤ letIdx (bt s i) by omega])
theorem spec_word (s : ByteArray) (hs : s.size ≤ 140737488351232) : Ev (fun k => spec_IsWord.f k s) (word s) :=
  ev_eq (spec_word_l0 s hs s.size 0 (by omega)) (by
    have e : decide ((s.size : Int) ≤ 30) = decide (s.size ≤ 30) := decide_eq_decide.mpr (by omega)
    simp only [word, e, List.drop_zero])
theorem impl_lets_l0 (s : ByteArray) (hs : s.size ≤ 140737488351232) : ∀ d i : Nat, i + d = s.size → Ev (fun k => impl_isLetters.l0 k s i) (lets ((bytesOf s).drop i)) := by
  intro d
  induction d with
  | zero =>
    intro i h
    refine next ?_
    simp only [impl_isLetters.l0, if_neg (show ¬ (i : Int) < (s.size : Int) by omega), drop_end s i (by omega)]
    exact ev_some (by simp [lets])
  | succ d ih =>
    intro i h
    refine next ?_
    simp only [impl_isLetters.l0, if_pos (show (i : Int) < (s.size : Int) by omega), if_pos (show (0 : Int) ≤ i by omega), impl_letter (bt_range s i).1 (bt_range s i).2, Option.bind_some]
    rw [drop_cons s i (by omega)]
    by_cases hl : letIdx (bt s i) < 0
    · simp only [if_pos hl]
      exact ev_some (by simp [lets, show ¬ 0 ≤ letIdx (bt s i) by omega])
    · simp only [if_neg hl, up1 (show i < 9223372036854775807 by omega)]
      exact ev_eq (ih (i + 1) (by omega)) (by simp [lets, show 0 ≤ letIdx (bt s i) by omega])
theorem impl_word (s : ByteArray) (hs : s.size ≤ 140737488351232) : Ev (fun k => impl_IsWord.f k s) (word s) := by
  simp only [impl_IsWord.f]
  by_cases h : s.size ≤ 30
  · simp only [if_pos (show (s.size : Int) ≤ 30 by omega)]
    refine Ev.bind (impl_lets_l0 s hs s.size 0 (by omega)) ?_
    exact ev_some (by simp [word, h])
  · simp only [if_neg (show ¬ (s.size : Int) ≤ 30 by omega)]
    exact ev_some (by simp [word, h])
end Go.Proofs.Ytldgkgdgcfllmaa.Pl
end
section
namespace Go.Proofs.Ytldgkgdgcfllmaa.Pl
open Go.RowKit Go.Proofs.Ytldgkgdgcfllmaa Go.Proofs.Ytldgkgdgcfllmaa.P Go.Proofs.Ytldgkgdgcfllmaa.Rk Go.Proofs.YtldgkgdgcfllmaaW.PrintWords Go.Proofs.YtldgkgdgcfllmaaW.PrintLast Go.Proofs.YtldgkgdgcfllmaaW.PrintMore
set_option linter.unusedVariables false
set_option linter.unusedSimpArgs false
theorem empty_list : (⟨#[]⟩ : ByteArray).toList = ([] : List UInt8) := by rw [ByteArray.toList_eq]
def argsN (a : Int) : Int := if 1 ≤ a ∧ a ≤ 4 then 0 else if a = 8 ∨ a = 9 then 1 else if 5 ≤ a ∧ a ≤ 7 then 2 else -1
def shp (x : TI) : Bool := decide ((x.f2.length : Int) = argsN x.f0) && (if x.f0 = 3 then decide (x.f1.size = 1) && word x.f1 else decide (x.f1 = (⟨#[]⟩ : ByteArray)))
mutual
def nd : TI → Nat
  | ⟨_, _, l⟩ => 1 + nds l
def nds : List TI → Nat
  | [] => 0
  | x :: l => nd x + nds l
end
mutual
def dp : TI → Nat
  | ⟨_, _, l⟩ => dps l + 1
def dps : List TI → Nat
  | [] => 0
  | x :: l => max (dp x) (dps l)
end
mutual
def al : TI → Bool
  | ⟨a, s, l⟩ => als l && shp ⟨a, s, l⟩
def als : List TI → Bool
  | [] => true
  | x :: l => al x && als l
end
theorem nd_eq (x : TI) : nd x = 1 + nds x.f2 := by obtain ⟨a, s, l⟩ := x; rw [nd]
theorem dp_eq (x : TI) : dp x = dps x.f2 + 1 := by obtain ⟨a, s, l⟩ := x; rw [dp]
theorem al_eq (x : TI) : al x = (als x.f2 && shp x) := by obtain ⟨a, s, l⟩ := x; rw [al]
theorem nds_drop (l : List TI) (i : Nat) (h : i < l.length) : nds (l.drop i) = nd l[i] + nds (l.drop (i + 1)) := by rw [List.drop_eq_getElem_cons h, nds]
theorem dps_drop (l : List TI) (i : Nat) (h : i < l.length) : dps (l.drop i) = max (dp l[i]) (dps (l.drop (i + 1))) := by rw [List.drop_eq_getElem_cons h, dps]
theorem als_drop (l : List TI) (i : Nat) (h : i < l.length) : als (l.drop i) = (al l[i] && als (l.drop (i + 1))) := by rw [List.drop_eq_getElem_cons h, als]
theorem nd_pos (x : TI) : 1 ≤ nd x := by rw [nd_eq]; omega
theorem dp_pos (x : TI) : 1 ≤ dp x := by rw [dp_eq]; omega
theorem nd_mem {l : List TI} {x : TI} (h : x ∈ l) : nd x ≤ nds l := by
  induction l with
  | nil => cases h
  | cons a l ih =>
    rw [nds]
    rcases List.mem_cons.mp h with q | q
    · subst q; omega
    · have := ih q; omega
mutual
theorem dp_nd : ∀ x : TI, dp x ≤ nd x
  | ⟨a, s, l⟩ => by rw [dp, nd]; have := dps_nds l; omega
theorem dps_nds : ∀ l : List TI, dps l ≤ nds l
  | [] => Nat.le_refl _
  | x :: l => by rw [dps, nds]; have := dp_nd x; have := dps_nds l; omega
end
theorem nd_cv : ∀ x : TL, nd (cv x) ≤ 1 + wt x := by
  refine TL.ind fun x ih => ?_
  rw [cv_eq, nd_eq, wt_eq]
  have h : ∀ m : List TL, (∀ y ∈ m, nd (cv y) ≤ 1 + wt y) → nds (m.map cv) ≤ wts m := by
    intro m
    induction m with
    | nil => intro _; exact Nat.le_refl _
    | cons a m ihm =>
      intro hm
      rw [List.map_cons, nds, wts]
      have h1 := hm a List.mem_cons_self
      have h2 := ihm (fun y hy => hm y (List.mem_cons_of_mem _ hy))
      omega
  have := h x.f2 ih
  show 1 + nds (x.f2.map cv) ≤ _
  omega
theorem argsN_spec (a : Int) : Ev (fun k => spec_l3Args.f k a) (if 5 ≤ a ∧ a ≤ 7 then 2 else if a = 8 ∨ a = 9 then 1 else 0) := by
  simp only [spec_l3Args.f]
  by_cases h5 : a = 5
  · subst h5; refine next ?_; exact ev_some rfl
  · by_cases h6 : a = 6
    · subst h6; refine next ?_; exact ev_some rfl
    · by_cases h7 : a = 7
      · subst h7; refine next ?_; exact ev_some rfl
      · simp only [if_neg h5, if_neg h6, show (a == 7) = false from by simpa using h7]
        refine next ?_
        simp only [spec_l3Args.j0, Bool.false_eq_true, if_false]
        by_cases h8 : a = 8
        · subst h8; exact ev_some rfl
        · by_cases h9 : a = 9
          · subst h9; exact ev_some rfl
          · simp only [if_neg h8, if_neg h9]
            exact ev_some (by rw [if_neg (by omega), if_neg (by omega)])
theorem argsN_impl (a : Int) : Ev (fun k => impl_argsOf.f k a) (argsN a) := by
  simp only [impl_argsOf.f]
  have rest : (¬ (a == 4) = true ∧ ¬ (1 ≤ a ∧ a ≤ 4)) → Ev (fun k => impl_argsOf.j0 k a (a == 4)) (argsN a) := fun ⟨hb, hn⟩ => by
    refine next ?_
    simp only [impl_argsOf.j0, if_neg hb]
    by_cases h8 : a = 8
    · subst h8; refine next ?_; exact ev_some rfl
    · simp only [if_neg h8]
      refine next ?_
      by_cases h9 : a = 9
      · subst h9; exact ev_some rfl
      · simp only [impl_argsOf.j1, show (a == 9) = false from by simpa using h9, Bool.false_eq_true, if_false]
        unfold argsN
        by_cases h5 : a = 5
        · subst h5; exact ev_some rfl
        · by_cases h6 : a = 6
          · subst h6; exact ev_some rfl
          · by_cases h7 : a = 7
            · subst h7; exact ev_some rfl
            · simp only [if_neg h5, if_neg h6, if_neg h7]
              exact ev_some (by rw [if_neg hn, if_neg (by omega), if_neg (by omega)])
  by_cases h1 : a = 1
  · subst h1; refine next ?_; exact ev_some rfl
  · by_cases h2 : a = 2
    · subst h2; refine next ?_; exact ev_some rfl
    · by_cases h3 : a = 3
      · subst h3; refine next ?_; exact ev_some rfl
      · simp only [if_neg h1, if_neg h2, if_neg h3]
        by_cases h4 : a = 4
        · subst h4; refine next ?_; exact ev_some rfl
        · exact rest ⟨by simpa using h4, by omega⟩
def aft (cur : Int) (n : Nat) : Int := if 0 ≤ cur ∧ (n : Int) ≤ cur then cur - n else -1
theorem left_loop (a : Int) (s : ByteArray) {l : List TI} (hl : l.length ≤ 1048576) (ih : ∀ y ∈ l, ∀ left : Int, 0 ≤ left → left ≤ 16 → Ev (fun k => spec_l3Left.f k y.f0 y.f1 y.f2 left) (aft left (nd y))) :
    ∀ (d i : Nat) (cur : Int), i + d = l.length → -1 ≤ cur → cur ≤ 16 → Ev (fun k => spec_l3Left.l0 k cur (i : Int) a s l) (aft cur (nds (l.drop i))) := by
  intro d
  induction d with
  | zero =>
    intro i cur h h1 h2
    refine next ?_
    simp only [spec_l3Left.l0, if_neg (show ¬ (i : Int) < (l.length : Int) by omega)]
    rw [List.drop_eq_nil_of_le (by omega)]
    exact ev_some (by unfold aft; rw [nds]; split <;> omega)
  | succ d ihd =>
    intro i cur h h1 h2
    have hi : i < l.length := by omega
    refine next ?_
    rw [nds_drop l i hi]
    have hp := nd_pos l[i]
    by_cases hc : cur ≥ 0
    · simp only [spec_l3Left.l0, if_pos (show (i : Int) < (l.length : Int) by omega), if_pos hc, if_pos (show (0 : Int) ≤ (i : Int) by omega), rdTI l i hi]
      refine Ev.bind (ih _ (List.getElem_mem hi) cur hc h2) ?_
      simp only [up1 (show i < 9223372036854775807 by omega)]
      refine ev_eq (ihd (i + 1) _ (by omega) (by unfold aft; split <;> omega) (by unfold aft; split <;> omega)) ?_
      unfold aft
      repeat' split
      all_goals omega
    · simp only [spec_l3Left.l0, if_pos (show (i : Int) < (l.length : Int) by omega), if_neg hc]
      exact ev_some (by unfold aft; rw [if_neg (by omega)]; omega)
theorem left_tree : ∀ x : TI, Thin x → ∀ left : Int, 0 ≤ left → left ≤ 16 → Ev (fun k => spec_l3Left.f k x.f0 x.f1 x.f2 left) (aft left (nd x)) := by
  refine TI.ind fun x ih hx left h0 h1 => ?_
  obtain ⟨_, hl, _, hc⟩ := hx
  refine next ?_
  simp only [spec_l3Left.f, w64 (show -9223372036854775808 ≤ left - 1 by omega) (by omega)]
  refine ev_eq (left_loop x.f0 x.f1 hl (fun y hy => ih y hy (hc y hy)) x.f2.length 0 (left - 1) (by omega) (by omega) (by omega)) ?_
  rw [List.drop_zero, nd_eq]
  unfold aft
  repeat' split
  all_goals omega
theorem depth_loop (a : Int) (s : ByteArray) {l : List TI} (hl : l.length ≤ 1048576) (hn : nds l ≤ 2000000) (ih : ∀ y ∈ l, Ev (fun k => spec_l3Depth.f k y.f0 y.f1 y.f2) (dp y : Int)) :
    ∀ (d i cur : Nat), i + d = l.length → cur ≤ 2000000 → Ev (fun k => spec_l3Depth.l0 k (cur : Int) (i : Int) a s l) ((max cur (dps (l.drop i)) + 1 : Nat) : Int) := by
  intro d
  induction d with
  | zero =>
    intro i cur h h1
    refine next ?_
    simp only [spec_l3Depth.l0, if_neg (show ¬ (i : Int) < (l.length : Int) by omega)]
    rw [List.drop_eq_nil_of_le (by omega), dps, w64 (by omega) (by omega)]
    exact ev_some (by omega)
  | succ d ihd =>
    intro i cur h h1
    have hi : i < l.length := by omega
    refine next ?_
    rw [dps_drop l i hi]
    simp only [spec_l3Depth.l0, if_pos (show (i : Int) < (l.length : Int) by omega), if_pos (show (0 : Int) ≤ (i : Int) by omega), rdTI l i hi]
    refine Ev.bind (ih _ (List.getElem_mem hi)) ?_
    have hd : dp l[i] ≤ 2000000 := by have := dp_nd l[i]; have := nd_mem (List.getElem_mem hi); omega
    have hm : spec_l1Max.f (cur : Int) (dp l[i] : Int) = some ((max cur (dp l[i]) : Nat) : Int) := by
      unfold spec_l1Max.f
      split
      · congr 1; omega
      · congr 1; omega
    simp only [hm, Option.bind_some, up1 (show i < 9223372036854775807 by omega)]
    refine ev_eq (ihd (i + 1) _ (by omega) (by omega)) ?_
    rw [Nat.max_assoc]
theorem depth_tree : ∀ x : TI, Thin x → nd x ≤ 2000000 → Ev (fun k => spec_l3Depth.f k x.f0 x.f1 x.f2) (dp x : Int) := by
  refine TI.ind fun x ih hx hn => ?_
  obtain ⟨_, hl, _, hc⟩ := hx
  rw [nd_eq] at hn
  refine next ?_
  simp only [spec_l3Depth.f]
  refine ev_eq (depth_loop x.f0 x.f1 hl (by omega) (fun y hy => ih y hy (hc y hy) (by have := nd_mem hy; omega)) x.f2.length 0 0 (by omega) (by omega)) ?_
  rw [List.drop_zero, dp_eq]
  omega
theorem all_loop (x : TI) (hs : x.f1.size ≤ 1048576) (hl : x.f2.length ≤ 1048576) (ih : ∀ y ∈ x.f2, Ev (fun k => spec_l3All.f k y.f0 y.f1 y.f2) (al y)) :
    ∀ (d i : Nat), i + d = x.f2.length → Ev (fun k => spec_l3All.l0 k (i : Int) x.f0 x.f1 x.f2) (als (x.f2.drop i) && shp x) := by
  intro d
  induction d with
  | zero =>
    intro i h
    refine next ?_
    simp only [spec_l3All.l0, if_neg (show ¬ (i : Int) < (x.f2.length : Int) by omega)]
    rw [List.drop_eq_nil_of_le (by omega), als, Bool.true_and]
    unfold shp
    by_cases h3 : x.f0 = 3
    · simp only [if_pos h3]
      have ea : argsN x.f0 = 0 := by rw [h3]; rfl
      rw [ea]
      by_cases h1 : (x.f1.size : Int) = 1
      · simp only [if_pos h1]
        refine Ev.bind (spec_word x.f1 (by omega)) ?_
        have h1' : x.f1.size = 1 := by omega
        cases word x.f1 with
        | false => simp only [Bool.false_eq_true, if_false]; exact ev_some (by simp)
        | true =>
          simp only [if_true]
          refine ev_some ?_
          rw [decide_eq_true h1', Bool.and_true, Bool.and_true]
          rfl
      · simp only [if_neg h1]
        exact ev_some (by rw [decide_eq_false (show ¬ x.f1.size = 1 by omega)]; simp)
    · simp only [if_neg h3, spec_l1In.f]
      by_cases h1 : 1 ≤ x.f0 ∧ x.f0 ≤ 9
      · have ein : Ev (fun k => spec_l1In.f x.f0 1 9) true := by
          simp only [spec_l1In.f]
          first
            | (rw [if_pos h1.1]; exact ev_some (by simp; omega))
            | (simp only [if_pos (show x.f0 ≥ 1 from h1.1)]; exact ev_some (by simp; omega))
        refine Ev.bind ein ?_
        simp only [if_true]
        by_cases he : x.f1.toList = ([] : List UInt8)
        · simp only [if_pos he]
          refine Ev.bind (argsN_spec x.f0) ?_
          refine ev_some ?_
          have he' : x.f1 = (⟨#[]⟩ : ByteArray) := toList_iff.mp (he.trans empty_list.symm)
          rw [decide_eq_true he', Bool.and_true]
          have : argsN x.f0 = (if 5 ≤ x.f0 ∧ x.f0 ≤ 7 then 2 else if x.f0 = 8 ∨ x.f0 = 9 then 1 else 0) := by
            unfold argsN
            repeat' split
            all_goals omega
          rw [this]
          rfl
        · simp only [if_neg he]
          refine ev_some ?_
          rw [decide_eq_false (show ¬ x.f1 = (⟨#[]⟩ : ByteArray) from fun e => he (by rw [e]; exact empty_list)), Bool.and_false]
      · have ein : Ev (fun k => spec_l1In.f x.f0 1 9) false := by
          simp only [spec_l1In.f]
          by_cases hb : x.f0 ≥ 1
          · simp only [if_pos hb]; exact ev_some (by simp; omega)
          · simp only [if_neg hb]; exact ev_some rfl
        refine Ev.bind ein ?_
        simp only [Bool.false_eq_true, if_false]
        refine ev_some ?_
        have : argsN x.f0 = -1 := by
          unfold argsN
          rw [if_neg (by omega), if_neg (by omega), if_neg (by omega)]
        rw [this, decide_eq_false (by omega)]
        rfl
  | succ d ihd =>
    intro i h
    have hi : i < x.f2.length := by omega
    refine next ?_
    rw [als_drop x.f2 i hi]
    simp only [spec_l3All.l0, if_pos (show (i : Int) < (x.f2.length : Int) by omega), if_pos (show (0 : Int) ≤ (i : Int) by omega), rdTI x.f2 i hi]
    refine Ev.bind (ih _ (List.getElem_mem hi)) ?_
    cases al x.f2[i] with
    | false => simp only [Bool.false_eq_true, if_false]; exact ev_some (by simp)
    | true =>
      simp only [if_true, up1 (show i < 9223372036854775807 by omega), Bool.true_and]
      exact ihd (i + 1) (by omega)
theorem all_tree : ∀ x : TI, Thin x → Ev (fun k => spec_l3All.f k x.f0 x.f1 x.f2) (al x) := by
  refine TI.ind fun x ih hx => ?_
  obtain ⟨_, hl, hs, hc⟩ := hx
  refine next ?_
  simp only [spec_l3All.f]
  refine ev_eq (all_loop x hs hl (fun y hy => ih y hy (hc y hy)) x.f2.length 0 (by omega)) ?_
  rw [List.drop_zero, al_eq]
def validR (x : TI) : Bool := decide (nd x ≤ 16) && decide (dp x ≤ 6) && al x
theorem spec_validR (x : TI) (hx : Thin x) (hn : nd x ≤ 2000000) : Ev (fun k => spec_IsValidRegex.f k x.f0 x.f1 x.f2) (validR x) := by
  simp only [spec_IsValidRegex.f]
  refine Ev.bind (left_tree x hx 16 (by omega) (by omega)) ?_
  unfold validR aft
  by_cases h1 : nd x ≤ 16
  · simp only [if_pos (show (0 : Int) ≤ 16 ∧ (nd x : Int) ≤ 16 by omega), if_pos (show (16 : Int) - (nd x : Int) ≥ 0 by omega)]
    refine Ev.bind (depth_tree x hx hn) ?_
    rw [decide_eq_true h1, Bool.true_and]
    by_cases h2 : dp x ≤ 6
    · simp only [if_pos (show (dp x : Int) ≤ 6 by omega)]
      refine Ev.bind (all_tree x hx) ?_
      exact ev_some (by rw [decide_eq_true h2, Bool.true_and])
    · simp only [if_neg (show ¬ (dp x : Int) ≤ 6 by omega)]
      exact ev_some (by rw [decide_eq_false h2, Bool.false_and])
  · simp only [if_neg (show ¬ ((0 : Int) ≤ 16 ∧ (nd x : Int) ≤ 16) by omega), if_neg (show ¬ (-1 : Int) ≥ 0 by omega)]
    exact ev_some (by rw [decide_eq_false h1]; rfl)
def nv (d : Int) (x : TI) : Int := if al x = true ∧ (dp x : Int) ≤ d then (if nd x ≤ 17 then (nd x : Int) else 17) else 17
def nvs (d : Int) : List TI → Int
  | [] => 0
  | x :: l => nv d x + nvs d l
theorem nv_bound (d : Int) (x : TI) : 1 ≤ nv d x ∧ nv d x ≤ 17 := by
  have := nd_pos x
  unfold nv
  repeat' split
  all_goals omega
theorem nvs_bound (d : Int) (l : List TI) : (l.length : Int) ≤ nvs d l ∧ nvs d l ≤ 17 * l.length := by
  induction l with
  | nil => exact ⟨Int.le_refl _, Int.le_refl _⟩
  | cons x l ih =>
    have := nv_bound d x
    rw [nvs, List.length_cons]
    omega
theorem nvs_good (d : Int) (hd : 0 ≤ d) (l : List TI) : (als l = true ∧ (dps l : Int) ≤ d → ∀ s : Int, 1 ≤ s → mn (s + nvs d l) 17 = mn (s + nds l) 17) ∧ (¬ (als l = true ∧ (dps l : Int) ≤ d) → 17 ≤ nvs d l) := by
  induction l with
  | nil => exact ⟨fun _ s _ => rfl, fun h => absurd ⟨rfl, by rw [dps]; exact hd⟩ h⟩
  | cons x l ih =>
    have hb := nv_bound d x
    have hbs := nvs_bound d l
    have hp := nd_pos x
    have hx : nv d x = if al x = true ∧ (dp x : Int) ≤ d then (if nd x ≤ 17 then (nd x : Int) else 17) else 17 := rfl
    rw [nvs, nds, als, dps]
    constructor
    · rintro ⟨h1, h2⟩ s hs
      rw [Bool.and_eq_true] at h1
      have i1 := ih.1 ⟨h1.2, by omega⟩ (s + nv d x) (by omega)
      rw [if_pos ⟨h1.1, by omega⟩] at hx
      rw [← Int.add_assoc, i1]
      unfold mn
      rw [hx]
      repeat' split
      all_goals omega
    · intro h
      by_cases hg : al x = true ∧ (dp x : Int) ≤ d
      · have := ih.2 (fun hc => h ⟨by rw [hg.1, hc.1]; rfl, by omega⟩)
        omega
      · rw [if_neg hg] at hx
        omega
theorem nvs_sum (d : Int) (hd : 0 ≤ d) (l : List TI) : mn (1 + nvs d l) 17 = if als l = true ∧ (dps l : Int) ≤ d then (if 1 + nds l ≤ 17 then ((1 + nds l : Nat) : Int) else 17) else 17 := by
  obtain ⟨h1, h2⟩ := nvs_good d hd l
  by_cases hg : als l = true ∧ (dps l : Int) ≤ d
  · rw [if_pos hg, h1 hg 1 (by omega)]
    unfold mn
    repeat' split
    all_goals omega
  · rw [if_neg hg]
    have := h2 hg
    unfold mn
    split <;> omega
theorem nodes_loop (d : Int) (hd : 1 ≤ d) (hd6 : d ≤ 6) {l : List TI} (hl : l.length ≤ 2) (ih : ∀ y ∈ l, Ev (fun k => impl_nodesOf.f k y.f0 y.f1 y.f2 (d - 1)) (nv (d - 1) y)) :
    ∀ (e i : Nat) (s : Int), i + e = l.length → 0 ≤ s → s ≤ 1 + 17 * (i : Int) → Ev (fun k => impl_nodesOf.l0 k d s l (l.length : Int) (i : Int)) (mn (s + nvs (d - 1) (l.drop i)) 17) := by
  intro e
  induction e with
  | zero =>
    intro i s h h0 h1
    refine next ?_
    simp only [impl_nodesOf.l0, if_neg (show ¬ (i : Int) < (l.length : Int) by omega)]
    rw [List.drop_eq_nil_of_le (by omega), nvs, Int.add_zero]
    exact Ev.now _
  | succ e ihe =>
    intro i s h h0 h1
    have hi : i < l.length := by omega
    refine next ?_
    have hb := nv_bound (d - 1) l[i]
    simp only [impl_nodesOf.l0, if_pos (show (i : Int) < (l.length : Int) by omega), if_pos (show (0 : Int) ≤ (i : Int) by omega), rdTI l i hi, w64 (show -9223372036854775808 ≤ d - 1 by omega) (by omega)]
    refine Ev.bind (ih _ (List.getElem_mem hi)) ?_
    simp only [up1 (show i < 9223372036854775807 by omega), w64 (show -9223372036854775808 ≤ s + nv (d - 1) l[i] by omega) (by omega)]
    refine ev_eq (ihe (i + 1) _ (by omega) (by omega) (by omega)) ?_
    rw [List.drop_eq_getElem_cons hi, nvs, Int.add_assoc]
theorem nodes_tree : ∀ x : TI, Thin x → ∀ d : Int, 0 ≤ d → d ≤ 6 → Ev (fun k => impl_nodesOf.f k x.f0 x.f1 x.f2 d) (nv d x) := by
  refine TI.ind fun x ih hx d h0 h1 => ?_
  obtain ⟨_, hl, hs, hc⟩ := hx
  have hdp := dp_pos x
  refine next ?_
  by_cases hd0 : d = 0
  · subst hd0
    simp only [impl_nodesOf.f, if_true]
    refine next ?_
    simp only [impl_nodesOf.j0, if_true]
    exact ev_some (by unfold nv; rw [if_neg (by omega)])
  · simp only [impl_nodesOf.f, if_neg hd0]
    refine Ev.bind (argsN_impl x.f0) ?_
    refine next ?_
    have hbad : shp x = false → (17 : Int) = nv d x := fun hb => by
      unfold nv
      rw [if_neg]
      rintro ⟨ha, _⟩
      rw [al_eq, hb, Bool.and_false] at ha
      cases ha
    by_cases hlen : (x.f2.length : Int) = argsN x.f0
    · have hl2 : x.f2.length ≤ 2 := by
        have : argsN x.f0 ≤ 2 := by unfold argsN; repeat' split <;> omega
        omega
      have hj1 : shp x = true → Ev (fun k => impl_nodesOf.j1 k d x.f0 x.f1 x.f2) (nv d x) := fun hsh => by
        refine next ?_
        simp only [impl_nodesOf.j1]
        refine ev_eq (nodes_loop d (by omega) h1 hl2 (fun y hy => ih y hy (hc y hy) (d - 1) (by omega) (by omega)) x.f2.length 0 1 (by omega) (by omega) (by omega)) ?_
        rw [List.drop_zero, nvs_sum (d - 1) (by omega)]
        unfold nv
        rw [al_eq, hsh, Bool.and_true, nd_eq]
        have : (dps x.f2 : Int) ≤ d - 1 ↔ (dp x : Int) ≤ d := by rw [dp_eq]; omega
        simp only [this]
      simp only [impl_nodesOf.j0, show ((x.f2.length : Int) != argsN x.f0) = false from by rw [bne_eq_false_iff_eq]; exact hlen, Bool.false_eq_true, if_false]
      by_cases h3 : x.f0 = 3
      · simp only [if_pos h3]
        by_cases hz : (x.f1.size : Int) = 1
        · simp only [if_pos hz]
          refine Ev.bind (impl_word x.f1 (by omega)) ?_
          cases hw : word x.f1 with
          | false =>
            simp only [Bool.false_eq_true, if_false]
            exact ev_some (hbad (by unfold shp; rw [if_pos h3, hw]; simp))
          | true =>
            simp only [if_true]
            exact hj1 (by unfold shp; rw [if_pos h3, hw, decide_eq_true hlen, decide_eq_true (show x.f1.size = 1 by omega)]; rfl)
        · simp only [if_neg hz]
          exact ev_some (hbad (by unfold shp; rw [if_pos h3, decide_eq_false (show ¬ x.f1.size = 1 by omega)]; simp))
      · simp only [if_neg h3]
        by_cases he : x.f1.toList = ([] : List UInt8)
        · simp only [if_pos he]
          exact hj1 (by unfold shp; rw [if_neg h3, decide_eq_true hlen, decide_eq_true (show x.f1 = (⟨#[]⟩ : ByteArray) from toList_iff.mp (he.trans empty_list.symm))]; rfl)
        · simp only [if_neg he]
          exact ev_some (hbad (by unfold shp; rw [if_neg h3, decide_eq_false (show ¬ x.f1 = (⟨#[]⟩ : ByteArray) from fun e => he (by rw [e]; exact empty_list))]; simp))
    · simp only [impl_nodesOf.j0, show ((x.f2.length : Int) != argsN x.f0) = true from by rw [bne_iff_ne]; exact hlen, if_true]
      exact ev_some (hbad (by unfold shp; rw [decide_eq_false hlen]; rfl))
theorem impl_validR (x : TI) (hx : Thin x) : Ev (fun k => impl_IsValidRegex.f k x.f0 x.f1 x.f2) (validR x) := by
  simp only [impl_IsValidRegex.f]
  refine Ev.bind (nodes_tree x hx 6 (by omega) (by omega)) ?_
  refine ev_some ?_
  unfold validR nv
  have e6 : ((dp x : Int) ≤ 6) ↔ dp x ≤ 6 := by omega
  by_cases ha : al x = true
  · by_cases hd : dp x ≤ 6
    · rw [if_pos ⟨ha, by omega⟩, ha, decide_eq_true hd, Bool.and_true, Bool.and_true]
      by_cases hn : nd x ≤ 16
      · rw [decide_eq_true hn]
        simp only [decide_eq_true_eq]
        split <;> omega
      · rw [decide_eq_false hn]
        simp only [decide_eq_false_iff_not]
        split <;> omega
    · rw [if_neg (by omega), decide_eq_false hd, Bool.and_false, Bool.false_and]
      rfl
  · simp only [Bool.not_eq_true] at ha
    rw [if_neg (by rw [ha]; simp), ha, Bool.and_false]
    rfl
end Go.Proofs.Ytldgkgdgcfllmaa.Pl
end
section
namespace Go.Proofs.Ytldgkgdgcfllmaa.Pl
open Go.RowKit Go.Proofs.Ytldgkgdgcfllmaa Go.Proofs.Ytldgkgdgcfllmaa.P Go.Proofs.YtldgkgdgcfllmaaW.PrintWords Go.Proofs.YtldgkgdgcfllmaaW.PrintLast Go.Proofs.YtldgkgdgcfllmaaW.PrintMore Rk
set_option linter.unusedVariables false
set_option linter.unusedSimpArgs false
theorem al_ax : ∀ (n : Nat) (x : TI), nd x < n → al x = true → ∃ y, Rg.Ax x y ∧ Rg.sz y = nd x := by
  intro n
  induction n with
  | zero => intro x h; omega
  | succ n ih =>
    intro x hn hal
    obtain ⟨k, l, xs⟩ := x
    rw [al_eq, Bool.and_eq_true] at hal
    obtain ⟨hals, hs⟩ := hal
    simp only [shp, Bool.and_eq_true, decide_eq_true_eq] at hs
    obtain ⟨hs, _⟩ := hs
    unfold argsN at hs
    match xs, hn, hals, hs with
    | [], hn, hals, hs =>
      have hk : 1 ≤ k ∧ k ≤ 4 := by
        simp only [List.length_nil] at hs
        split at hs
        · assumption
        · split at hs
          · omega
          · split at hs <;> omega
      have e1 : nd ⟨k, l, []⟩ = 1 := by rw [nd_eq, nds]
      rw [e1]
      rcases (show k = 1 ∨ k = 2 ∨ k = 3 ∨ k = 4 by omega) with rfl | rfl | rfl | rfl
      · exact ⟨_, Rg.Ax.none l, rfl⟩
      · exact ⟨_, Rg.Ax.empty l, rfl⟩
      · exact ⟨_, Rg.Ax.letter l, rfl⟩
      · exact ⟨_, Rg.Ax.any l, rfl⟩
    | [a], hn, hals, hs =>
      have hk : k = 8 ∨ k = 9 := by
        simp only [List.length_cons, List.length_nil] at hs
        split at hs
        · omega
        · split at hs
          · assumption
          · split at hs <;> omega
      have e1 : nd ⟨k, l, [a]⟩ = 1 + nd a := by rw [nd_eq]; simp only [nds]; omega
      simp only [als, Bool.and_true] at hals
      obtain ⟨y, hy, hz⟩ := ih a (by omega) hals
      rw [e1, ← hz]
      rcases hk with rfl | rfl
      · exact ⟨_, Rg.Ax.star l hy, rfl⟩
      · exact ⟨_, Rg.Ax.not l hy, rfl⟩
    | [a, b], hn, hals, hs =>
      have hk : 5 ≤ k ∧ k ≤ 7 := by
        simp only [List.length_cons, List.length_nil] at hs
        split at hs
        · omega
        · split at hs
          · omega
          · split at hs
            · assumption
            · omega
      have e1 : nd ⟨k, l, [a, b]⟩ = 1 + nd a + nd b := by rw [nd_eq]; simp only [nds]; omega
      simp only [als, Bool.and_true, Bool.and_eq_true] at hals
      obtain ⟨y, hy, hz⟩ := ih a (by omega) hals.1
      obtain ⟨z, hy2, hz2⟩ := ih b (by omega) hals.2
      rw [e1, ← hz, ← hz2]
      rcases (show k = 5 ∨ k = 6 ∨ k = 7 by omega) with rfl | rfl | rfl
      · exact ⟨_, Rg.Ax.cat l hy hy2, rfl⟩
      · exact ⟨_, Rg.Ax.or l hy hy2, rfl⟩
      · exact ⟨_, Rg.Ax.and l hy hy2, rfl⟩
    | _ :: _ :: _ :: t, hn, hals, hs =>
      simp only [List.length_cons] at hs
      exfalso
      split at hs
      · omega
      · split at hs
        · omega
        · split at hs <;> omega
theorem validR_ax {x : TI} (h : validR x = true) : ∃ y, Rg.Ax x y ∧ Rg.sz y ≤ 16 := by
  simp only [validR, Bool.and_eq_true, decide_eq_true_eq] at h
  obtain ⟨y, h1, h2⟩ := al_ax (nd x + 1) x (by omega) h.2
  exact ⟨y, h1, by omega⟩
theorem match_both (x : TI) (hx : Thin x) (hn : nd x ≤ 2000000) (s : ByteArray) (hs : s.size ≤ 140737488351232) : ∃ b, Ev (fun k => spec_MatchRegex.f k x.f0 x.f1 x.f2 s) b ∧ Ev (fun k => impl_MatchRegex.f k x.f0 x.f1 x.f2 s) b := by
  simp only [spec_MatchRegex.f, impl_MatchRegex.f]
  by_cases hv : validR x = true
  · by_cases hw : word s = true
    · obtain ⟨y, hy, hz⟩ := validR_ax hv
      have h30 : s.size ≤ 30 := by
        simp only [word, Bool.and_eq_true, decide_eq_true_eq] at hw
        exact hw.2
      have hm : Rg.matchF ⟨x.f0, x.f1, x.f2⟩ s = some (Rg.lan y (bytesOf s)) := Rg.matchF_ax (r := x) hy (by omega) (by omega)
      refine ⟨Rg.lan y (bytesOf s), Ev.bind (spec_validR x hx hn) ?_, Ev.bind (impl_validR x hx) ?_⟩
      · simp only [hv, if_true]
        refine Ev.bind (spec_word s hs) ?_
        simp only [hw, if_true]
        simp only [spec_l4Match.f, hm, Option.bind_some]
        exact Ev.now _
      · simp only [hv, if_true]
        refine Ev.bind (impl_word s hs) ?_
        simp only [hw, if_true]
        simp only [impl_matches.f, hm, Option.bind_some]
        exact Ev.now _
    · have hw : word s = false := by simpa using hw
      refine ⟨false, Ev.bind (spec_validR x hx hn) ?_, Ev.bind (impl_validR x hx) ?_⟩
      · simp only [hv, if_true]
        refine Ev.bind (spec_word s hs) ?_
        simp only [hw, Bool.false_eq_true, if_false]
        exact Ev.now _
      · simp only [hv, if_true]
        refine Ev.bind (impl_word s hs) ?_
        simp only [hw, Bool.false_eq_true, if_false]
        exact Ev.now _
  · have hv : validR x = false := by simpa using hv
    refine ⟨false, Ev.bind (spec_validR x hx hn) ?_, Ev.bind (impl_validR x hx) ?_⟩ <;> simp only [hv, Bool.false_eq_true, if_false] <;> exact Ev.now _
end Go.Proofs.Ytldgkgdgcfllmaa.Pl
end
section
namespace Go.Proofs.Ytldgkgdgcfllmaa.Pl
open Go.RowKit Go.Proofs.Ytldgkgdgcfllmaa Go.Proofs.Ytldgkgdgcfllmaa.P Go.Proofs.YtldgkgdgcfllmaaW.PrintWords Go.Proofs.YtldgkgdgcfllmaaW.PrintLast Go.Proofs.YtldgkgdgcfllmaaW.PrintMore Rk
set_option linter.unusedVariables false
set_option linter.unusedSimpArgs false
theorem pureFnExactMatchRegex : St.FnExactMatchRegex := by
  intro a s l m wa ws wl wm
  have hx : OkT ⟨a, s, l⟩ := OkT.mk _ wa ws wl.1 wl.2
  refine Ev.rounds ?_
  simp only [laws_FnExactMatchRegex.f]
  by_cases h0 : (m.size : Int) > 1048576
  · simp only [if_pos h0]
    exact Ev.now _
  simp only [if_neg h0]
  refine Ev.bind (sz_tree ⟨a, s, l⟩ hx 1048576 (by omega)) ?_
  unfold lft
  by_cases h : wt ⟨a, s, l⟩ ≤ 1048576
  · simp only [if_pos h, if_neg (show ¬ ((1048576 - wt ⟨a, s, l⟩ : Nat) : Int) < 0 by omega)]
    have ht := thin_cv _ h
    have hn := nd_cv ⟨a, s, l⟩
    have T := to_tree ⟨a, s, l⟩ h
    obtain ⟨b, hb1, hb2⟩ := match_both _ ht (by omega) m wm
    refine Ev.bind T (Ev.bind hb1 (Ev.bind T (Ev.bind hb2 ?_)))
    simp only [bne_self_eq_false, Bool.false_eq_true, if_false]
    refine Ev.bind T (Ev.bind (eq_tree _ ht) ?_)
    simp only [if_true]
    exact Ev.now _
  · simp only [if_neg h, if_pos (show (-1 : Int) < 0 by omega)]
    exact Ev.now _
end Go.Proofs.Ytldgkgdgcfllmaa.Pl
end
section
namespace Go.Proofs.Ytldgkgdgcfllmaa.Pure
theorem FnExactMatchRegex : St.FnExactMatchRegex := Pl.pureFnExactMatchRegex
end Go.Proofs.Ytldgkgdgcfllmaa.Pure
end
section
namespace Go.Proofs.Ytldgkgdgcfllmaa.fnExactMatchRegex
open Go.ChangeShapes Go.WideShapes Go.ChangeAt Go.RowKit Go.Proofs.Ytldgkgdgcfllmaa.Rk Go.Proofs.YtldgkgdgcfllmaaW.PrintWords
open Go.ChangeMaps (open_string shut_string)
set_option linter.unusedVariables false
theorem own : ownKnob Try.prog.godebug = none := by kernel_rfl
theorem laidOut : laidOutB Try.prog = true := by kernel_rfl
set_option maxRecDepth 100000 in
theorem lifted (os : Os) (started : os.Started) (H : Type) (enc : TypeId × Value → H) :
    ReturnsInHanded {} Try.checked os 7 .any (Rows.fnExactMatchRegexSpec.pre6 enc Try.prog Try.f7 Rows.fnExactMatchRegexRow.domain false) (Rows.fnExactMatchRegexSpec.post enc Try.prog Try.f7 false true false false) := by
  refine returnsInHanded_of_change_sized (C := Try.checked) own started (by kernel_rfl) Try.func7
    (ChangeSpec.witness6 (enc := enc) (C := Try.checked) false ⟨#[], #[.agg #[.int .i64 0, .string ByteArray.empty, .slice none 0 0], .string ByteArray.empty], []⟩ 8 (by kernel_rfl) (by kernel_rfl) (by kernel_rfl) (by kernel_rfl)) ?_
  intro W base args ds gs before hval0 hW hcnd hsz0 _
  have hsz : (DataW.weightsEach Try.prog (Try.f7.params.toList ++ Rows.fnExactMatchRegexSpec.plain.varTypes Try.prog) (ds ++ gs)).all (· ≤ reachBytes) = true := hsz0
  have hval : ∀ (j : Nat) t v, Try.f7.params[j]? = some t → args[j]? = some v → Value.okWide Try.prog W .any base t v := hval0
  have hW' := hW
  obtain ⟨p, q, hA0, hV, rfl, hfz, hnd⟩ := hW
  have hA : DataW.TrodAll enc Try.prog W 0 (fun _ => true) true Try.f7.params.toList args.toList ds p := hA0
  rw [Try.params7] at hA hval hsz
  obtain ⟨v0, vs0, d0, ds0, p0, q0, hargs, rfl, rfl, h0, r0⟩ := trodAll_cons hA
  obtain ⟨v1, vs1, d1, ds1, p1, q1, rfl, rfl, rfl, h1, r1⟩ := trodAll_cons r0
  obtain ⟨rfl, rfl, rfl⟩ := trodAll_nil r1
  obtain rfl : args = #[v0, v1] := by cases args; simp_all
  obtain ⟨rfl, rfl⟩ := trodVars_none hV
  have k0 := h0
  have lt0 : ∀ x ∈ p0, x.block < W.heap.size := by obtain ⟨m, hm⟩ := k0; exact DataW.trod_lt m _ _ _ hm
  obtain ⟨u0_0, u0_1, u0_2, y0_0, y0_1, y0_2, n0, rfl, rfl, _, g0_0, g0_1, g0_2⟩ := Go.Joins.open_agg3 Try.underlying24 (by kernel_rfl) (by kernel_rfl) (hval 0 24 v0 rfl rfl) h0
  obtain ⟨l0_0, hx0_0, w0_0⟩ := (opens_int Try.underlying3) _ _ _ g0_0
  obtain rfl := (List.cons.inj (show [u0_0] = [Value.int .i64 l0_0] from hx0_0)).1
  obtain ⟨l0_1, hx0_1, w0_1⟩ := (opens_string Try.underlying9) _ _ _ g0_1
  obtain rfl := (List.cons.inj (show [u0_1] = [Value.string l0_1] from hx0_1)).1
  obtain ⟨l0_2, hx0_2, w0_2⟩ := opens_trees _ _ _ g0_2
  obtain ⟨A0_2, c0_2, rfl, hc0_2, hr0_2⟩ := slice_of hx0_2
  obtain ⟨a1, rfl, rfl, rfl, y1⟩ := open_string Try.underlying9 (hval 1 9 v1 rfl rfl) h1
  have w1 : a1.size ≤ 140737488351232 := by
    have z := sized_string hsz (j := 1) (t := 9) rfl rfl
    rw [Array.length_toList] at z
    exact z
  clear hA0 hval0 hsz0 hsz
  obtain ⟨k, hk⟩ := Pure.FnExactMatchRegex l0_0 l0_1 l0_2 a1 w0_0 w0_1 w0_2 w1
  refine (P.laws_FnExactMatchRegex.calls k l0_0 l0_1 A0_2 c0_2 l0_2 a1 true W hr0_2 hc0_2 hk rfl).mono fun e W' hh => ?_
  obtain ⟨he, bel0⟩ := hh
  have bel : Below W.heap.size W W' := bel0
  subst he
  exact ⟨_, rfl, _, _, _, [], _, [], hW', trodAll_mk1 (shut_bool Try.underlying4 _), (trodAll_cons_mk (Below.trod laidOut (by kernel_rfl) (of_decide_eq_true (by kernel_rfl)) k0 bel lt0) (trodAll_cons_mk (shut_string Try.underlying9 y1) trodAll_mk0)), rfl, bel.frame _, fun h => by cases h⟩
theorem over : Rows.fnExactMatchRegexRow.holds Try.pinned (OpenSpec.ofChange Rows.fnExactMatchRegexSpec) :=
  OpenClaim.holds_of_wide 7 Try.f7 rfl rfl rfl rfl rfl rfl rfl ⟨rfl, rfl, rfl, rfl, rfl⟩ rfl rfl rfl rfl rfl (by kernel_rfl) Try.func7 (by kernel_rfl)
    (of_decide_eq_true (by kernel_rfl)) (by unfold Func.isWrapper; first | (rw [if_pos (by decide +kernel)]; kernel_rfl) | (rw [if_neg (by decide +kernel)]; exact ⟨rfl, rfl⟩))
    (fun os started H enc _ => lifted os started H enc)
theorem proved : Rows.FnExactMatchRegexSaid := over
#print axioms proved
end Go.Proofs.Ytldgkgdgcfllmaa.fnExactMatchRegex
namespace Go.Proofs.Ytldgkgdgcfllmaa
theorem fnExactMatchRegex_holds : Rows.FnExactMatchRegexSaid := fnExactMatchRegex.proved
end Go.Proofs.Ytldgkgdgcfllmaa
end
