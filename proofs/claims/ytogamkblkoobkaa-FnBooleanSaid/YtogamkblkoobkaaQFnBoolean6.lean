/- Texts of the proof of FnBoolean, put together. No condition. -/
import Derived.Test.YtogamkblkoobkaaQFnBoolean2
import Derived.Test.YtogamkblkoobkaaQFnBoolean5
import Derived.Test.YtogamkblkoobkaaQFnBoolean4
import Derived.Test.YtogamkblkoobkaaQFnBoolean3
import Derived.Shelf.Abstract
import Derived.Lib.Walk
import Derived.DeepKeys4
import Derived.WideKeyPair
section
namespace Go.Proofs.Ytogamkblkoobkaa.P
open Go.RowKit Go.Proofs.YtogamkblkoobkaaW.PrintWords Go.Proofs.YtogamkblkoobkaaW.PrintLast Go.Proofs.YtogamkblkoobkaaW.PrintMore
attribute [local go_sem] max2_int min2_int max_two min_two max_three min_three max_four min_four
set_option linter.unusedVariables false
set_option linter.unusedSimpArgs false
def impl_minimized.f (l0_0 : List Bool) (l0_1 : List (List Int)) (a1 : Int) : Option (List Bool × List (List Int)) := if l0_1.length = l0_0.length ∧ l0_0.length ≤ 1100000 ∧ (∀ r ∈ l0_1, r.length = 3 ∧ ∀ q ∈ r, 0 ≤ q ∧ q < (l0_0.length : Int)) ∧ 0 ≤ a1 ∧ a1 < (l0_0.length : Int) then some (Mn.minD l0_0 l0_1 a1) else none
theorem impl_minimized.calls (A0_0 : Option Addr) (c0_0 : Nat) (l0_0 : List Bool) (A0_1 : Option Addr) (c0_1 : Nat) (l0_1 : List (List Int)) (a1 : Int) (r1 : List Bool) (r2 : List (List Int)) (w : World) (hr0_0 : Kd.C Kd.bool w A0_0 l0_0.length l0_0) (hc0_0 : l0_0.length ≤ c0_0) (hr0_1 : Kd.C (Kd.slice 3 (Kd.int .i64)) w A0_1 l0_1.length l0_1) (hc0_1 : l0_1.length ≤ c0_1) (h : impl_minimized.f l0_0 l0_1 a1 = some (r1, r2)) :
    Calls Try.prog 56 #[.agg #[.slice A0_0 l0_0.length c0_0, .slice A0_1 l0_1.length c0_1], .int .i64 a1] w fun e w' => ∃ v0_ v1_ : Value, e = .returned (.agg #[v0_, v1_]) ∧ Kd.R Kd.bool 4 w' w.heap.size (fun _ => True) v0_ r1 ∧ Kd.S (Kd.slice 3 (Kd.int .i64)) 67 w' w.heap.size (fun _ => True) v1_ r2 ∧ Below w.heap.size w w' := by
  unfold impl_minimized.f at h
  split at h
  · rename_i hp
    obtain ⟨h1, h2, h3, h4, h5⟩ := hp
    have h := Option.some.inj h
    have e1 : (Mn.minD l0_0 l0_1 a1).1 = r1 := by rw [h]
    have e2 : (Mn.minD l0_0 l0_1 a1).2 = r2 := by rw [h]
    rw [← e1, ← e2]
    exact Wk.minCalls A0_0 c0_0 l0_0 A0_1 c0_1 l0_1 a1 w hr0_0 hr0_1 h1 h2 h3 ⟨h4, h5⟩
  · cases h
end Go.Proofs.Ytogamkblkoobkaa.P
end
section
namespace Go.Proofs.Ytogamkblkoobkaa.P
open Go.RowKit Go.Proofs.YtogamkblkoobkaaW.PrintWords Go.Proofs.YtogamkblkoobkaaW.PrintLast Go.Proofs.YtogamkblkoobkaaW.PrintMore
attribute [local go_sem] max2_int min2_int max_two min_two max_three min_three max_four min_four
set_option linter.unusedVariables false
set_option linter.unusedSimpArgs false
def impl_IsValidDfa.f (l0_0 : List Bool) (l0_1 : List (List Int)) : Option (Bool) := some (Wk.validD l0_0 l0_1)
theorem impl_IsValidDfa.calls (A0_0 : Option Addr) (c0_0 : Nat) (l0_0 : List Bool) (A0_1 : Option Addr) (c0_1 : Nat) (l0_1 : List (List Int)) (r : Bool) (w : World) (hr0_0 : Kd.C Kd.bool w A0_0 l0_0.length l0_0) (hc0_0 : l0_0.length ≤ c0_0) (hr0_1 : Kd.C (Kd.slice 3 (Kd.int .i64)) w A0_1 l0_1.length l0_1) (hc0_1 : l0_1.length ≤ c0_1) (h : impl_IsValidDfa.f l0_0 l0_1 = some r) :
    Calls Try.prog 39 #[.agg #[.slice A0_0 l0_0.length c0_0, .slice A0_1 l0_1.length c0_1]] w fun e w' => e = .returned (.bool r) ∧ Below w.heap.size w w' := by
  obtain rfl := Option.some.inj h
  exact Wk.validCalls A0_0 c0_0 l0_0 A0_1 c0_1 l0_1 w hr0_0 hr0_1
end Go.Proofs.Ytogamkblkoobkaa.P
end
section
namespace Go.Proofs.Ytogamkblkoobkaa.P
open Go.RowKit Go.Proofs.YtogamkblkoobkaaW.PrintWords Go.Proofs.YtogamkblkoobkaaW.PrintLast Go.Proofs.YtogamkblkoobkaaW.PrintMore
attribute [local go_sem] max2_int min2_int max_two min_two max_three min_three max_four min_four
set_option linter.unusedVariables false
set_option linter.unusedSimpArgs false
end Go.Proofs.Ytogamkblkoobkaa.P
end
section
namespace Go.Proofs.Ytogamkblkoobkaa.P
open Go.RowKit Go.Proofs.YtogamkblkoobkaaW.PrintWords Go.Proofs.YtogamkblkoobkaaW.PrintLast Go.Proofs.YtogamkblkoobkaaW.PrintMore
attribute [local go_sem] max2_int min2_int max_two min_two max_three min_three max_four min_four
set_option linter.unusedVariables false
set_option linter.unusedSimpArgs false
def spec_MinimizeDfa.f (k : Nat) (l0_0 : List Bool) (l0_1 : List (List Int)) : Option (List Bool × (List (List Int))) := (spec_IsValidDfa.f k l0_0 l0_1).bind fun ak => (if ak = true then ((spec_l5Minimal.f k l0_0 l0_1).bind fun bt182 => (some (bt182.1, bt182.2))) else (some (([] : List Bool), ([] : List (List Int)))))
theorem spec_MinimizeDfa.mono : ∀ a0 a1 k, LeO (spec_MinimizeDfa.f k a0 a1) (spec_MinimizeDfa.f (k + 1) a0 a1) := by
 intro a0 a1 k
 unfold spec_MinimizeDfa.f
 repeat' first
   | (with_reducible exact spec_IsValidDfa.mono _ _ _)
   | (with_reducible exact spec_l5Minimal.mono _ _ _)
   | (with_reducible exact LeO.refl _)
   | (with_reducible exact LeO.none _)
   | (with_reducible refine LeO.ite ?_ ?_)
   | (with_reducible refine LeO.bind ?_ (fun _ => ?_))
   | exact spec_IsValidDfa.mono _ _ _
   | exact spec_l5Minimal.mono _ _ _
   | exact LeO.none _
   | refine LeO.ite ?_ ?_
   | refine LeO.bind ?_ (fun _ => ?_)
set_option maxHeartbeats 8000000 in
set_option maxRecDepth 100000 in
theorem spec_MinimizeDfa.calls (k : Nat) (A0_0 : Option Addr) (c0_0 : Nat) (l0_0 : List Bool) (A0_1 : Option Addr) (c0_1 : Nat) (l0_1 : List (List Int)) (r1 : List Bool) (r2 : List (List Int)) (w : World) (hr0_0 : Kd.C Kd.bool w A0_0 l0_0.length l0_0) (hc0_0 : l0_0.length ≤ c0_0) (hr0_1 : Kd.C (Kd.slice 3 (Kd.int .i64)) w A0_1 l0_1.length l0_1) (hc0_1 : l0_1.length ≤ c0_1) (h : spec_MinimizeDfa.f k l0_0 l0_1 = some (r1, r2)) :
  Calls Try.prog 33 #[.agg #[.slice A0_0 l0_0.length c0_0, .slice A0_1 l0_1.length c0_1]] w fun e w' => ∃ v0_ v1_ : Value, e = .returned (.agg #[v0_, v1_]) ∧ Kd.R Kd.bool 4 w' w.heap.size (fun _ => True) v0_ r1 ∧ Kd.S (Kd.slice 3 (Kd.int .i64)) 67 w' w.heap.size (fun _ => True) v1_ r2 ∧ Below w.heap.size w w' := by
 have hu27 := Try.underlying27
 have am := am_ hr0_0
 have an := am_ hc0_0
 clear hr0_0 hc0_0
 have ao := am_ hr0_1
 have ap := am_ hc0_1
 clear hr0_1 hc0_1
 have HB := am_ (Below.refl w.heap.size w)
 have H : ((spec_IsValidDfa.f k l0_0 l0_1).bind fun ak => (if ak = true then ((spec_l5Minimal.f k l0_0 l0_1).bind fun bt182 => (some (bt182.1, bt182.2))) else (some (([] : List Bool), ([] : List (List Int)))))) = some (r1, r2) := h
 clear h
 replace H := Option.bind_eq_some_iff.mp H
 obtain ⟨ak, A20, H⟩ := H
 have A2 := am_ A20
 clear A20
 by_cases c3 : ak = true
 ·subst c3
  have H1 : ((spec_l5Minimal.f k l0_0 l0_1).bind fun bt182 => (some (bt182.1, bt182.2))) = some (r1, r2) := by rw [if_pos rfl] at H; exact H
  clear H
  have H := H1
  clear H1
  replace H := Option.bind_eq_some_iff.mp H
  obtain ⟨⟨aj, al⟩, A40, H⟩ := H
  replace H : (some (aj, al)) = some (r1, r2) := H
  have A4 := am_ A40
  clear A40
  simp only [Option.some.injEq, Prod.mk.injEq] at H
  obtain ⟨rfl, rfl⟩ := H
  go_enter Try.func33, Try.ntmps33
  go_wp2_with (first | ((with_reducible refine gate_dst (N := 1) rfl ?_); refine box_event ?hg (N := 1) ?hd (cs := #[.slice A0_0 l0_0.length c0_0, .slice A0_1 l0_1.length c0_1]) (t := 27) ?hr ?_; (case hd => rfl); (case hg => rfl); (case hr => first | (go_simp; done) | (go_simp; rfl)); intro af hg w5 hbox hb; replace aa := am_ (hbox); replace ay := am_ ((by rw [hg]; exact (below_size (b0_ HB.out)) : w.heap.size ≤ af)); replace ae := am_ ((by rw [hg]; exact (below_size (b0_ HB.out)) : w.heap.size ≤ af)); replace HB := am_ (below_step (b0_ HB.out) hb); clear hb hbox hg) | ((with_reducible refine gate_dst (N := 2) rfl ?_); refine box_event ?hg (N := 2) ?hd (cs := #[.slice none 0 0, .slice none 0 0]) (t := 27) ?hr ?_; (case hd => rfl); (case hg => rfl); (case hr => first | (go_simp; done) | (go_simp; rfl)); intro ad hg w6 hbox hb; have n0_ := am_ (blk_below (rb_ aa.out) hb); have n1_ := am_ (below_step (b1_ HB.out ae.out) hb); have n2_ := am_ (hbox); have n3_ := am_ ((by rw [hg]; exact (below_size (b1_ HB.out ae.out)) : w.heap.size ≤ ad)); have n4_ := am_ ((by rw [hg]; exact (below_size (b1_ HB.out ae.out)) : w.heap.size ≤ ad)); have n5_ := am_ ((by rw [hg]; exact Nat.ne_of_lt (blk_lt (rb_ aa.out)) : af ≠ ad)); have n6_ := am_ ((by rw [hg]; exact Nat.ne_of_gt (blk_lt (rb_ aa.out)) : ad ≠ af)); clear aa; clear HB; have aa := n0_; have HB := n1_; have ab := n2_; have az := n3_; have ag := n4_; have ah := n5_; have ai := n6_; clear n0_ n1_ n2_ n3_ n4_ n5_ n6_; clear hb hbox hg; have aY := ah.out; have aZ := ai.out; have aS := ck_ (v := (.slice A0_0 l0_0.length c0_0)) aa 0 rfl; have aT := ck_ (v := (.slice A0_1 l0_1.length c0_1)) aa 1 rfl; have aU := blk_frozen aa.out 0; have aV := blk_frozen aa.out 1) | ((with_reducible refine gate_callee (f := 35) rfl ?_); refine gL_ (some 4) Try.func35 #[.agg #[.slice A0_0 l0_0.length c0_0, .slice A0_1 l0_1.length c0_1]] ?_; (with_reducible refine (spec_IsValidDfa.calls k _ _ l0_0 _ _ l0_1 true _ ?side1 ?side2 ?side3 ?side4 A2.out).mono ?_); (case side1 => exact rc_ (Kd.C_below am.out HB.out)); (case side2 => exact an.out); (case side3 => exact rc_ (Kd.C_below ao.out HB.out)); (case side4 => exact ap.out); rintro e w9 ⟨rfl, hb⟩; refine ⟨_, rfl, ?_⟩; have n0_ := am_ (blk_below (rb_ aa.out) hb); have n1_ := am_ (blk_below (rb_ ab.out) hb); have n2_ := am_ (below_step (b2_ HB.out ae.out ag.out) hb); clear aa; clear ab; clear HB; have aa := n0_; have ab := n1_; have HB := n2_; clear n0_ n1_ n2_; (try clear hb); (try clear hb2); (try clear hk); (try clear hi); have aC := ck_ (v := (.slice A0_0 l0_0.length c0_0)) aa 0 rfl; have aD := ck_ (v := (.slice A0_1 l0_1.length c0_1)) aa 1 rfl; have aE := blk_frozen aa.out 0; have aF := blk_frozen aa.out 1) | ((with_reducible refine gate_callee (f := 94) rfl ?_); refine gL_ (some 8) Try.func94 #[.agg #[.slice A0_0 l0_0.length c0_0, .slice A0_1 l0_1.length c0_1]] ?_; (with_reducible refine (spec_l5Minimal.calls k _ _ l0_0 _ _ l0_1 aj al _ ?side1 ?side2 ?side3 ?side4 A4.out).mono ?_); (case side1 => exact rc_ (Kd.C_below am.out HB.out)); (case side2 => exact an.out); (case side3 => exact rc_ (Kd.C_below ao.out HB.out)); (case side4 => exact ap.out); rintro e w11 ⟨ba, bb, rfl, ho0, ho1, hb⟩; refine ⟨_, rfl, ?_⟩; have n0_ := am_ (Kd.R_lower ho0 (below_size (b2_ HB.out ae.out ag.out))); have n1_ := am_ (Kd.S_lower ho1 (below_size (b2_ HB.out ae.out ag.out))); have n2_ := am_ (blk_below (rb_ aa.out) hb); have n3_ := am_ (blk_below (rb_ ab.out) hb); have n4_ := am_ (below_step (b2_ HB.out ae.out ag.out) hb); clear aa; clear ab; clear HB; have aw := n0_; have ax := n1_; have aa := n2_; have ab := n3_; have HB := n4_; clear n0_ n1_ n2_ n3_ n4_; (try clear hb); (try clear hb2); (try clear hk); (try clear hi); (try clear ho0); (try clear ho1); obtain ⟨aq, ar, aA⟩ := Kd.R_slice aw.out; subst aA; have aG := ck_ (v := (.slice none 0 0)) ab 0 rfl; have aH := ck_ (v := (.slice none 0 0)) ab 1 rfl; have aI := blk_frozen ab.out 0; have aJ := blk_frozen ab.out 1; obtain ⟨au, av, aB⟩ := Kd.S_slice ax.out; subst aB))
  refine bodyPost_ret (results_cell_row rfl _ _ ad 27 #[.slice aq aj.length ar, .slice au al.length av] (0, 0) _ rfl (by refine rb_ ?_; refine blk_put (cs := #[.slice aq aj.length ar, .slice none 0 0]) ?_ 1 _ rfl; refine rb_ ?_; refine blk_put (cs := #[.slice none 0 0, .slice none 0 0]) ?_ 0 _ rfl; refine rb_ ?_; exact ab.out) Try.underlying27 rfl (by kernel_rfl)) rfl ?_
  exact ⟨_, _, by first | rfl | (simp [errW_none, errW_some] <;> rfl) | (simp [*, errW_none, errW_some] <;> rfl), by refine rr_ ?_; exact Kd.R_mono (Kd.R_far (p := ⟨ad, 1, none⟩) (Kd.R_far (p := ⟨ad, 0, none⟩) (Kd.R_types aw.out ab.out (by decide)) (fun _ hk => hk.2) (.slice aq aj.length ar)) (fun _ hk => hk.2) (.slice au al.length av)) (fun _ hk => trivial), by refine rs_ ?_; exact Kd.S_mono (Kd.S_far (p := ⟨ad, 1, none⟩) (Kd.S_far (p := ⟨ad, 0, none⟩) (Kd.S_types ax.out ab.out (by decide)) (fun _ hk => hk.2) (.slice aq aj.length ar)) (fun _ hk => hk.2) (.slice au al.length av)) (fun _ hk => trivial), by repeat (first | (with_reducible first | exact HB.out | apply below_alloc | apply pw_below_drewN | apply below_drew1 | refine below_set ?_ ae.out | refine below_set ?_ ag.out) | exact HB.out)⟩
 ·replace c3 := Bool.eq_false_iff.mpr c3
  subst c3
  have H1 : (some (([] : List Bool), ([] : List (List Int)))) = some (r1, r2) := by rw [if_neg (show ¬ (false = true) by decide)] at H; exact H
  clear H
  have H := H1
  clear H1
  simp only [Option.some.injEq, Prod.mk.injEq] at H
  obtain ⟨rfl, rfl⟩ := H
  go_enter Try.func33, Try.ntmps33
  go_wp2_with (first | ((with_reducible refine gate_dst (N := 1) rfl ?_); refine box_event ?hg (N := 1) ?hd (cs := #[.slice A0_0 l0_0.length c0_0, .slice A0_1 l0_1.length c0_1]) (t := 27) ?hr ?_; (case hd => rfl); (case hg => rfl); (case hr => first | (go_simp; done) | (go_simp; rfl)); intro af hg w15 hbox hb; replace aa := am_ (hbox); replace ay := am_ ((by rw [hg]; exact (below_size (b0_ HB.out)) : w.heap.size ≤ af)); replace ae := am_ ((by rw [hg]; exact (below_size (b0_ HB.out)) : w.heap.size ≤ af)); replace HB := am_ (below_step (b0_ HB.out) hb); clear hb hbox hg) | ((with_reducible refine gate_dst (N := 2) rfl ?_); refine box_event ?hg (N := 2) ?hd (cs := #[.slice none 0 0, .slice none 0 0]) (t := 27) ?hr ?_; (case hd => rfl); (case hg => rfl); (case hr => first | (go_simp; done) | (go_simp; rfl)); intro ad hg w16 hbox hb; have n0_ := am_ (blk_below (rb_ aa.out) hb); have n1_ := am_ (below_step (b1_ HB.out ae.out) hb); have n2_ := am_ (hbox); have n3_ := am_ ((by rw [hg]; exact (below_size (b1_ HB.out ae.out)) : w.heap.size ≤ ad)); have n4_ := am_ ((by rw [hg]; exact (below_size (b1_ HB.out ae.out)) : w.heap.size ≤ ad)); have n5_ := am_ ((by rw [hg]; exact Nat.ne_of_lt (blk_lt (rb_ aa.out)) : af ≠ ad)); have n6_ := am_ ((by rw [hg]; exact Nat.ne_of_gt (blk_lt (rb_ aa.out)) : ad ≠ af)); clear aa; clear HB; have aa := n0_; have HB := n1_; have ab := n2_; have az := n3_; have ag := n4_; have ah := n5_; have ai := n6_; clear n0_ n1_ n2_ n3_ n4_ n5_ n6_; clear hb hbox hg; have aW := ah.out; have aX := ai.out; have aK := ck_ (v := (.slice A0_0 l0_0.length c0_0)) aa 0 rfl; have aL := ck_ (v := (.slice A0_1 l0_1.length c0_1)) aa 1 rfl; have aM := blk_frozen aa.out 0; have aN := blk_frozen aa.out 1) | ((with_reducible refine gate_callee (f := 35) rfl ?_); refine gL_ (some 4) Try.func35 #[.agg #[.slice A0_0 l0_0.length c0_0, .slice A0_1 l0_1.length c0_1]] ?_; (with_reducible refine (spec_IsValidDfa.calls k _ _ l0_0 _ _ l0_1 false _ ?side1 ?side2 ?side3 ?side4 A2.out).mono ?_); (case side1 => exact rc_ (Kd.C_below am.out HB.out)); (case side2 => exact an.out); (case side3 => exact rc_ (Kd.C_below ao.out HB.out)); (case side4 => exact ap.out); rintro e w19 ⟨rfl, hb⟩; refine ⟨_, rfl, ?_⟩; have n0_ := am_ (blk_below (rb_ aa.out) hb); have n1_ := am_ (blk_below (rb_ ab.out) hb); have n2_ := am_ (below_step (b2_ HB.out ae.out ag.out) hb); clear aa; clear ab; clear HB; have aa := n0_; have ab := n1_; have HB := n2_; clear n0_ n1_ n2_; (try clear hb); (try clear hb2); (try clear hk); (try clear hi); have aO := ck_ (v := (.slice none 0 0)) ab 0 rfl; have aP := ck_ (v := (.slice none 0 0)) ab 1 rfl; have aQ := blk_frozen ab.out 0; have aR := blk_frozen ab.out 1))
  refine bodyPost_ret (results_cell_row rfl _ _ ad 27 #[.slice none 0 0, .slice none 0 0] (0, 0) _ rfl (by refine rb_ ?_; refine blk_put (cs := #[.slice none 0 0, .slice none 0 0]) ?_ 1 _ rfl; refine rb_ ?_; refine blk_put (cs := #[.slice none 0 0, .slice none 0 0]) ?_ 0 _ rfl; refine rb_ ?_; exact ab.out) Try.underlying27 rfl (by kernel_rfl)) rfl ?_
  exact ⟨_, _, by first | rfl | (simp [errW_none, errW_some] <;> rfl) | (simp [*, errW_none, errW_some] <;> rfl), by first | exact Kd.R_nil _ _ _ _ _ | exact Kd.N_nil _ _ _ _ _ | exact Kd.V_nil _ _ _ _ _ | exact Kd.Q_nil _ _ _ _ _ | exact Kd.S_nil _ _ _ _ _, by first | exact Kd.S_nil _ _ _ _ _ | exact Kd.N_nil _ _ _ _ _ | exact Kd.V_nil _ _ _ _ _ | exact Kd.Q_nil _ _ _ _ _ | exact Kd.R_nil _ _ _ _ _, by repeat (first | (with_reducible first | exact HB.out | apply below_alloc | apply pw_below_drewN | apply below_drew1 | refine below_set ?_ ae.out | refine below_set ?_ ag.out) | exact HB.out)⟩
end Go.Proofs.Ytogamkblkoobkaa.P
end
section
namespace Go.Proofs.Ytogamkblkoobkaa.Can
open Go.RowKit Go.Proofs.Ytogamkblkoobkaa Go.Proofs.Ytogamkblkoobkaa.P Go.Proofs.Ytogamkblkoobkaa.Wk Go.Proofs.Ytogamkblkoobkaa.Lg Go.Proofs.Ytogamkblkoobkaa.Pl Go.Proofs.Ytogamkblkoobkaa.Mp Go.Proofs.Ytogamkblkoobkaa.Bf Go.Proofs.Ytogamkblkoobkaa.Mn Go.Proofs.YtogamkblkoobkaaW.PrintWords Go.Proofs.YtogamkblkoobkaaW.PrintLast Go.Proofs.YtogamkblkoobkaaW.PrintMore
set_option linter.unusedVariables false
set_option linter.unusedSimpArgs false
set_option linter.unusedSectionVars false
theorem ldF_len : ∀ (m : List Int) (i : Nat) (ns ls : List Int), (ldF m i ns ls).2.length ≤ ls.length + m.length
  | [], i, ns, ls => by simp [ldF]
  | c :: m, i, ns, ls => by
    rw [ldF]
    split
    · have := ldF_len m (i + 1) ns ls
      simp only [List.length_cons]
      omega
    · have := ldF_len m (i + 1) (ns ++ [c]) (ls ++ [(i : Int)])
      simp only [List.length_append, List.length_cons, List.length_nil] at this ⊢
      omega
theorem refF_len (l1 : List (List Int)) (os : List Int) : ∀ (d : Nat) (cl : List Int) (c : Nat), cl.length = os.length → (refF l1 os d cl c).length = os.length
  | 0, cl, c, h => h
  | d + 1, cl, c, h => by
    rw [refF]
    have gl : (nmF (keys l1 os cl) [] []).2.length = os.length := by rw [nm_snd]; simp [keys]
    split
    · exact gl
    · exact refF_len l1 os d _ _ gl
theorem minD_len {acc : List Bool} {l1 : List (List Int)} (hf : Fits acc l1) {st : Int} (hst : 0 ≤ st ∧ st < (acc.length : Int)) : (minD acc l1 st).1.length ≤ acc.length ∧ (minD acc l1 st).2.length = (minD acc l1 st).1.length ∧ ∀ r ∈ (minD acc l1 st).2, r.length = 3 := by
  have h0 : ∀ x ∈ [st], 0 ≤ x ∧ x < (acc.length : Int) := fun x hx => by rw [List.mem_singleton] at hx; subst hx; exact hst
  have hR := ord_runs hf (acc.length + 2) [st] 0 (by simp) h0 (by omega)
  obtain ⟨R, hRR, hout⟩ := min_can hf hst
  have hlen : (minD acc l1 st).1.length ≤ acc.length := by
    unfold minD minT
    generalize ordF l1 (acc.length + 2) [st] 0 = os at hR
    have hn : os.Nodup := hR.nodup (by simp)
    have hdom := hR.all (p := fun x => 0 ≤ x ∧ x < (acc.length : Int)) (fun x hx y hy => (hf.row x hx).2 y hy) h0
    have h1 := refF_len l1 os (os.length + 2) (os.map (cls0 acc)) 0 (by simp)
    have h2 := card_n acc.length os hn hdom
    unfold outD
    simp only [List.length_map]
    have := ldF_len (refF l1 os (os.length + 2) (os.map (cls0 acc)) 0) 0 [] []
    simp only [List.length_nil] at this
    omega
  refine ⟨hlen, ?_, ?_⟩
  · rw [hout]
    simp [outL]
  · rw [hout]
    intro r hr
    unfold outL at hr
    obtain ⟨X, _, rfl⟩ := List.mem_map.mp hr
    simp [lsucc]
def minOf (acc : List Bool) (nx : List (List Int)) : List Bool × List (List Int) := if validD acc nx = true then minD acc nx 0 else ([], [])
theorem fits_valid {a : List Bool} {n : List (List Int)} (hv : validD a n = true) : Fits a n := by
  obtain ⟨h1, h2, h3, h4⟩ := validD_facts hv
  refine ⟨h3, fun q hq => ?_⟩
  have hlt : q.toNat < n.length := by omega
  unfold rowOf
  rw [List.getD_eq_getElem?_getD, List.getElem?_eq_getElem hlt]
  exact h4 _ (List.getElem_mem hlt)
theorem spec_minimize (a : List Bool) (n : List (List Int)) (ha : a.length ≤ 1048576) (hn : n.length ≤ 1048576) : Ev (fun k => spec_MinimizeDfa.f k a n) (minOf a n) := by
  simp only [spec_MinimizeDfa.f]
  refine Ev.bind (spec_valid a n ha hn) ?_
  unfold minOf
  by_cases hv : validD a n = true
  · simp only [hv, if_true]
    obtain ⟨h1, h2, h3, h4⟩ := validD_facts hv
    exact Ev.bind (min_same (fits_valid hv) h1 (by omega)) (Ev.now _)
  · simp only [if_neg hv]
    exact Ev.now _
theorem minOf_len (a : List Bool) (n : List (List Int)) : (minOf a n).1.length ≤ 40 ∧ (minOf a n).2.length ≤ 40 ∧ ∀ r ∈ (minOf a n).2, r.length = 3 := by
  unfold minOf
  by_cases hv : validD a n = true
  · rw [if_pos hv]
    obtain ⟨h1, h2, h3, h4⟩ := validD_facts hv
    obtain ⟨l1, l2, l3⟩ := minD_len (fits_valid hv) (st := 0) (by omega)
    exact ⟨by omega, by omega, l3⟩
  · rw [if_neg hv]
    simp
end Go.Proofs.Ytogamkblkoobkaa.Can
end
section
namespace Go.Proofs.Ytogamkblkoobkaa.P
open Go.RowKit Go.Proofs.YtogamkblkoobkaaW.PrintWords Go.Proofs.YtogamkblkoobkaaW.PrintLast Go.Proofs.YtogamkblkoobkaaW.PrintMore
attribute [local go_sem] max2_int min2_int max_two min_two max_three min_three max_four min_four
set_option linter.unusedVariables false
set_option linter.unusedSimpArgs false
def impl_after.l0 : Nat → Int → ByteArray → Int → List Bool → List (List Int) → Option (Int)
  | 0, _, _, _, _, _ => none
  | k + 1, x1, x2, x7, aI, av => if x7 < (x2.size : Int) then (if 0 ≤ x1 then (if x1 < (av.length : Int) then (if 0 ≤ x7 then ((impl_LetterIndex.f (bt x2 x7)).bind fun ae => (if 0 ≤ ae then (if ae < ((rd_L1 av x1).length : Int) then (impl_after.l0 k (rd (rd_L1 av x1) ae) x2 (wrap64 (x7 + 1)) aI av) else (none)) else (none))) else (none)) else (none)) else (none)) else (some x1)
def impl_after.f (k : Nat) (l0_0 : List Bool) (l0_1 : List (List Int)) (a1 : Int) (a2 : ByteArray) : Option (Int) := impl_after.l0 k a1 a2 0 l0_0 l0_1
theorem impl_after.mono_l : ∀ k, (∀ y0 y1 y2 y3 y4, LeO (impl_after.l0 k y0 y1 y2 y3 y4) (impl_after.l0 (k + 1) y0 y1 y2 y3 y4))
  | 0 => fun _ _ _ _ _ r h => by simp [impl_after.l0] at h
  | k + 1 => by
    have ih0 := impl_after.mono_l k
    · intro y0 y1 y2 y3 y4
      unfold impl_after.l0
      repeat' first
      | (with_reducible exact ih0 _ _ _ _ _)
      | (with_reducible exact LeO.refl _)
      | (with_reducible exact LeO.none _)
      | (with_reducible refine LeO.ite ?_ ?_)
      | (with_reducible refine LeO.bind ?_ (fun _ => ?_))
      | exact ih0 _ _ _ _ _
      | exact LeO.none _
      | refine LeO.ite ?_ ?_
      | refine LeO.bind ?_ (fun _ => ?_)
theorem impl_after.mono : ∀ a0 a1 a2 a3 k, LeO (impl_after.f k a0 a1 a2 a3) (impl_after.f (k + 1) a0 a1 a2 a3) := by
  intro a0 a1 a2 a3 k
  have ih0 := impl_after.mono_l k
  unfold impl_after.f
  repeat' first
      | (with_reducible exact ih0 _ _ _ _ _)
      | (with_reducible exact LeO.refl _)
      | (with_reducible exact LeO.none _)
      | (with_reducible refine LeO.ite ?_ ?_)
      | (with_reducible refine LeO.bind ?_ (fun _ => ?_))
      | exact ih0 _ _ _ _ _
      | exact LeO.none _
      | refine LeO.ite ?_ ?_
      | refine LeO.bind ?_ (fun _ => ?_)
theorem zp44_0_ {p q g1 : Prop} (h : p) (h1 : g1) (c : p → g1 → q := by intro h_ h1_; repeat (first | (with_reducible first | exact h_ | apply below_alloc | apply pw_below_drewN | apply below_drew1 | refine below_set ?_ h1_) | exact h_)) : q := c h h1
set_option maxHeartbeats 8000000 in
set_option maxRecDepth 100000 in
theorem impl_after.calls (k : Nat) (A0_0 : Option Addr) (c0_0 : Nat) (l0_0 : List Bool) (A0_1 : Option Addr) (c0_1 : Nat) (l0_1 : List (List Int)) (a1 : Int) (a2 : ByteArray) (r : Int) (w : World) (hr0_0 : Kd.C Kd.bool w A0_0 l0_0.length l0_0) (hc0_0 : l0_0.length ≤ c0_0) (hr0_1 : Kd.C (Kd.slice 3 (Kd.int .i64)) w A0_1 l0_1.length l0_1) (hc0_1 : l0_1.length ≤ c0_1) (h : impl_after.f k l0_0 l0_1 a1 a2 = some r) :
    Calls Try.prog 109 #[.agg #[.slice A0_0 l0_0.length c0_0, .slice A0_1 l0_1.length c0_1], .int .i64 a1, .string a2] w fun e w' => e = .returned (.int .i64 r) ∧ Below w.heap.size w w' := by
  have hu27 := Try.underlying27
  have ak := am_ hr0_0
  have ao := am_ hc0_0
  clear hr0_0 hc0_0
  have al := am_ hr0_1
  have ap := am_ hc0_1
  clear hr0_1 hc0_1
  have HB := am_ (Below.refl w.heap.size w)
  have H : (impl_after.l0 k a1 a2 0 l0_0 l0_1) = some r := h
  clear h
  have H' := am_ H
  clear H
  go_enter Try.func109, Try.ntmps109
  go_wp2_with (first | ((with_reducible refine gate_dst (N := 3) rfl ?_); refine box_event ?hg (N := 3) ?hd (cs := #[.slice A0_0 l0_0.length c0_0, .slice A0_1 l0_1.length c0_1]) (t := 27) ?hr ?_; (case hd => rfl); (case hg => rfl); (case hr => first | (go_simp; done) | (go_simp; rfl)); intro aq hg w4 hbox hb; replace ar := am_ (hbox); replace aG := am_ ((by rw [hg]; exact (below_size (b0_ HB.out)) : w.heap.size ≤ aq)); replace ax := am_ ((by rw [hg]; exact (below_size (b0_ HB.out)) : w.heap.size ≤ aq)); replace HB := am_ (below_step (b0_ HB.out) hb); clear hb hbox hg))
  repeat (go_quiet (first | ((with_reducible refine gate_dst (N := 3) rfl ?_); refine box_event ?hg (N := 3) ?hd (cs := #[.slice A0_0 l0_0.length c0_0, .slice A0_1 l0_1.length c0_1]) (t := 27) ?hr ?_; (case hd => rfl); (case hg => rfl); (case hr => first | (go_simp; done) | (go_simp; rfl)); intro aq hg w4 hbox hb; replace ar := am_ (hbox); replace aG := am_ ((by rw [hg]; exact (below_size (b0_ HB.out)) : w.heap.size ≤ aq)); replace ax := am_ ((by rw [hg]; exact (below_size (b0_ HB.out)) : w.heap.size ≤ aq)); replace HB := am_ (below_step (b0_ HB.out) hb); clear hb hbox hg)); try go_wp2_with (first | ((with_reducible refine gate_dst (N := 3) rfl ?_); refine box_event ?hg (N := 3) ?hd (cs := #[.slice A0_0 l0_0.length c0_0, .slice A0_1 l0_1.length c0_1]) (t := 27) ?hr ?_; (case hd => rfl); (case hg => rfl); (case hr => first | (go_simp; done) | (go_simp; rfl)); intro aq hg w4 hbox hb; replace ar := am_ (hbox); replace aG := am_ ((by rw [hg]; exact (below_size (b0_ HB.out)) : w.heap.size ≤ aq)); replace ax := am_ ((by rw [hg]; exact (below_size (b0_ HB.out)) : w.heap.size ≤ aq)); replace HB := am_ (below_step (b0_ HB.out) hb); clear hb hbox hg)))
  go_loopg [1, 7] k (fun kq v1 v7 w' => ∃ (ah : Int) (ai : Int), v1 = .int .i64 ah ∧ v7 = .int .i64 ai ∧ Aside0 (impl_after.l0 kq ah a2 ai l0_0 l0_1 = some r) ∧ Aside0 (kq ≤ k) ∧ Aside0 (w'.heap[aq]? = some (.cells #[(.slice A0_0 l0_0.length c0_0), (.slice A0_1 l0_1.length c0_1)] 27 (0, 0))) ∧ Aside0 (Below w.heap.size w w'))
  case atStart => exact ⟨(a1), (0), (by first | rfl | (simp; done) | (simp [*]; done)), (by first | rfl | (simp; done) | (simp [*]; done)), H', ⟨Nat.le_refl _⟩, ⟨by refine rb_ ?_; exact ar.out⟩, ⟨by exact zp44_0_ HB.out ax.out⟩⟩
  case round =>
    clear H'
    try clear c1
    try clear p2
    obtain ⟨ah, ai, rfl, rfl, HA, HK1, ar, HB⟩ := hrel
    cases gk with
    | zero => exact absurd HA.out (by simp [impl_after.l0])
    | succ k1 =>
      have H := HA.out
      clear HA
      simp only [impl_after.l0] at H
      by_cases c5 : ai < (a2.size : Int)
      · rw [if_pos c5] at H
        have c5b0 : decide (ai < (a2.size : Int)) = true := decide_eq_true c5
        clear c5
        by_cases c6 : 0 ≤ ah
        · rw [if_pos c6] at H
          have c6b0 : decide (0 ≤ ah) = true := decide_eq_true c6
          clear c6
          by_cases c7 : ah < (l0_1.length : Int)
          · rw [if_pos c7] at H
            have c7b0 : decide (ah < (l0_1.length : Int)) = true := decide_eq_true c7
            clear c7
            by_cases c8 : 0 ≤ ai
            · rw [if_pos c8] at H
              have c8b0 : decide (0 ≤ ai) = true := decide_eq_true c8
              clear c8
              replace H := Option.bind_eq_some_iff.mp H
              obtain ⟨ae, aD, H⟩ := H
              have A10 := am_ aD
              clear aD
              by_cases c11 : 0 ≤ ae
              · rw [if_pos c11] at H
                have c11b0 : decide (0 ≤ ae) = true := decide_eq_true c11
                clear c11
                by_cases c12 : ae < ((rd_L1 l0_1 ah).length : Int)
                · rw [if_pos c12] at H
                  have c12b0 : decide (ae < ((rd_L1 l0_1 ah).length : Int)) = true := decide_eq_true c12
                  clear c12
                  have H' := am_ H
                  clear H
                  have aT := ck_ (v := (.slice A0_0 l0_0.length c0_0)) ar 0 rfl
                  have aU := ck_ (v := (.slice A0_1 l0_1.length c0_1)) ar 1 rfl
                  have aV := blk_frozen ar.out 0
                  have aW := blk_frozen ar.out 1
                  have p733 : 0 ≤ (ah : Int) := of_decide_eq_true ah_
                  have q733 : ah < (l0_1.length : Int) := of_decide_eq_true ah_
                  obtain ⟨bG, A733_0, c733_0, e733, aA, hl733_0, hi733_0⟩ := at_L1 al.out ah p733 q733
                  cases e733
                  replace aA := (HB.out.cell (World.block_lt_of_cell? w _ aA)).trans aA
                  have aB := am_ hi733_0
                  have aX := am_ hl733_0
                  clear hi733_0 hl733_0
                  replace p733 := eq_true p733
                  replace q733 := eq_true q733
                  have p9 : 0 ≤ (ai : Int) := of_decide_eq_true ah_
                  have q9 : ai < (a2.size : Int) := of_decide_eq_true ah_
                  have hx9 := bt_at a2 ai
                  replace p9 := eq_true p9
                  replace q9 := eq_true q9
                  go_wp2_with (first | (go_at_call 72; (with_reducible refine (impl_LetterIndex.calls (bt a2 ai) ae _ A10.out).mono ?_); rintro e w' ⟨rfl, ⟨nd, rfl⟩⟩; (try first | exact ⟨rfl, _, World.drewN_drewN _ _ _⟩ | exact ⟨rfl, _, Eq.trans (World.drewN_drewN _ _ _) (congrArg (World.drewN _) (Nat.add_assoc _ _ _))⟩); have p735 : 0 ≤ (ae : Int) := of_decide_eq_true ah_; have q735 : ae < ((rd_L1 l0_1 ah).length : Int) := of_decide_eq_true ah_; obtain ⟨aH, e735, af⟩ := Kd.at_int aB.out ae p735 q735; cases e735; replace af := (HB.out.cell (World.block_lt_of_cell? w _ af)).trans af; replace p735 := eq_true p735; replace q735 := eq_true q735))
                  repeat (go_quiet (first | (go_at_call 72; (with_reducible refine (impl_LetterIndex.calls (bt a2 ai) ae _ A10.out).mono ?_); rintro e w' ⟨rfl, ⟨nd, rfl⟩⟩; (try first | exact ⟨rfl, _, World.drewN_drewN _ _ _⟩ | exact ⟨rfl, _, Eq.trans (World.drewN_drewN _ _ _) (congrArg (World.drewN _) (Nat.add_assoc _ _ _))⟩); have p735 : 0 ≤ (ae : Int) := of_decide_eq_true ah_; have q735 : ae < ((rd_L1 l0_1 ah).length : Int) := of_decide_eq_true ah_; obtain ⟨aH, e735, af⟩ := Kd.at_int aB.out ae p735 q735; cases e735; replace af := (HB.out.cell (World.block_lt_of_cell? w _ af)).trans af; replace p735 := eq_true p735; replace q735 := eq_true q735)); try go_wp2_with (first | (go_at_call 72; (with_reducible refine (impl_LetterIndex.calls (bt a2 ai) ae _ A10.out).mono ?_); rintro e w' ⟨rfl, ⟨nd, rfl⟩⟩; (try first | exact ⟨rfl, _, World.drewN_drewN _ _ _⟩ | exact ⟨rfl, _, Eq.trans (World.drewN_drewN _ _ _) (congrArg (World.drewN _) (Nat.add_assoc _ _ _))⟩); have p735 : 0 ≤ (ae : Int) := of_decide_eq_true ah_; have q735 : ae < ((rd_L1 l0_1 ah).length : Int) := of_decide_eq_true ah_; obtain ⟨aH, e735, af⟩ := Kd.at_int aB.out ae p735 q735; cases e735; replace af := (HB.out.cell (World.block_lt_of_cell? w _ af)).trans af; replace p735 := eq_true p735; replace q735 := eq_true q735)))
                  go_roundg k1
                  case measure => have := HK1.out; omega
                  case rel => exact ⟨(rd (rd_L1 l0_1 ah) ae), (wrap64 (ai + 1)), (by first | rfl | (simp; done) | (simp [*]; done)), (by first | rfl | (simp; done) | (simp [*]; done)), H', ⟨by have := HK1.out; omega⟩, ⟨by refine rb_ ?_; exact ar.out⟩, ⟨by exact zp44_0_ HB.out ax.out⟩⟩
                · rw [if_neg c12] at H
                  exact absurd H (by simp)
              · rw [if_neg c11] at H
                exact absurd H (by simp)
            · rw [if_neg c8] at H
              exact absurd H (by simp)
          · rw [if_neg c7] at H
            exact absurd H (by simp)
        · rw [if_neg c6] at H
          exact absurd H (by simp)
      · rw [if_neg c5] at H
        have c5b0 : decide (ai < (a2.size : Int)) = false := decide_eq_false c5
        clear c5
        obtain rfl := Option.some.inj H
        simp only [Option.some.injEq, Prod.mk.injEq] at H
        obtain ⟨rfl⟩ := H
        go_wp2
        repeat (go_quiet (fail); try go_wp2)
        go_ret
        exact ⟨by first | rfl | (simp [errW_none, errW_some] <;> rfl) | (simp [*, errW_none, errW_some] <;> rfl), by exact zp44_0_ HB.out ax.out⟩
def impl_RunDfa.f (k : Nat) (l0_0 : List Bool) (l0_1 : List (List Int)) (a1 : Int) (a2 : ByteArray) : Option (Int × Bool) := (impl_IsValidDfa.f l0_0 l0_1).bind fun aE => (if aE = true then ((impl_within.f a1 0 (wrap64 ((l0_0.length : Int) - 1))).bind fun aw => (if aw = true then ((impl_IsWord.f k a2).bind fun au => (if au = true then ((impl_after.f k l0_0 l0_1 a1 a2).bind fun am => (some (am, true))) else (some (0, false)))) else (some (0, false)))) else (some (0, false)))
theorem impl_RunDfa.mono : ∀ a0 a1 a2 a3 k, LeO (impl_RunDfa.f k a0 a1 a2 a3) (impl_RunDfa.f (k + 1) a0 a1 a2 a3) := by
 intro a0 a1 a2 a3 k
 unfold impl_RunDfa.f
 repeat' first
   | (with_reducible exact impl_IsWord.mono _ _)
   | (with_reducible exact impl_after.mono _ _ _ _ _)
   | (with_reducible exact LeO.refl _)
   | (with_reducible exact LeO.none _)
   | (with_reducible refine LeO.ite ?_ ?_)
   | (with_reducible refine LeO.bind ?_ (fun _ => ?_))
   | exact impl_IsWord.mono _ _
   | exact impl_after.mono _ _ _ _ _
   | exact LeO.none _
   | refine LeO.ite ?_ ?_
   | refine LeO.bind ?_ (fun _ => ?_)
set_option maxHeartbeats 8000000 in
set_option maxRecDepth 100000 in
theorem impl_RunDfa.calls (k : Nat) (A0_0 : Option Addr) (c0_0 : Nat) (l0_0 : List Bool) (A0_1 : Option Addr) (c0_1 : Nat) (l0_1 : List (List Int)) (a1 : Int) (a2 : ByteArray) (r1 : Int) (r2 : Bool) (w : World) (hr0_0 : Kd.C Kd.bool w A0_0 l0_0.length l0_0) (hc0_0 : l0_0.length ≤ c0_0) (hr0_1 : Kd.C (Kd.slice 3 (Kd.int .i64)) w A0_1 l0_1.length l0_1) (hc0_1 : l0_1.length ≤ c0_1) (h : impl_RunDfa.f k l0_0 l0_1 a1 a2 = some (r1, r2)) :
  Calls Try.prog 42 #[.agg #[.slice A0_0 l0_0.length c0_0, .slice A0_1 l0_1.length c0_1], .int .i64 a1, .string a2] w fun e w' => e = .returned (.tuple #[.int .i64 r1, .bool r2]) ∧ Below w.heap.size w w' := by
 have hu27 := Try.underlying27
 have ak := am_ hr0_0
 have ao := am_ hc0_0
 clear hr0_0 hc0_0
 have al := am_ hr0_1
 have ap := am_ hc0_1
 clear hr0_1 hc0_1
 have HB := am_ (Below.refl w.heap.size w)
 have H : ((impl_IsValidDfa.f l0_0 l0_1).bind fun aE => (if aE = true then ((impl_within.f a1 0 (wrap64 ((l0_0.length : Int) - 1))).bind fun aw => (if aw = true then ((impl_IsWord.f k a2).bind fun au => (if au = true then ((impl_after.f k l0_0 l0_1 a1 a2).bind fun am => (some (am, true))) else (some (0, false)))) else (some (0, false)))) else (some (0, false)))) = some (r1, r2) := h
 clear h
 replace H := Option.bind_eq_some_iff.mp H
 obtain ⟨aE, A40, H⟩ := H
 have A4 := am_ A40
 clear A40
 by_cases c5 : aE = true
 ·subst c5
  have H1 : ((impl_within.f a1 0 (wrap64 ((l0_0.length : Int) - 1))).bind fun aw => (if aw = true then ((impl_IsWord.f k a2).bind fun au => (if au = true then ((impl_after.f k l0_0 l0_1 a1 a2).bind fun am => (some (am, true))) else (some (0, false)))) else (some (0, false)))) = some (r1, r2) := by rw [if_pos rfl] at H; exact H
  clear H
  have H := H1
  clear H1
  replace H := Option.bind_eq_some_iff.mp H
  obtain ⟨aw, A60, H⟩ := H
  have A6 := am_ A60
  clear A60
  by_cases c7 : aw = true
  ·subst c7
   have H1 : ((impl_IsWord.f k a2).bind fun au => (if au = true then ((impl_after.f k l0_0 l0_1 a1 a2).bind fun am => (some (am, true))) else (some (0, false)))) = some (r1, r2) := by rw [if_pos rfl] at H; exact H
   clear H
   have H := H1
   clear H1
   replace H := Option.bind_eq_some_iff.mp H
   obtain ⟨au, A80, H⟩ := H
   have A8 := am_ A80
   clear A80
   by_cases c9 : au = true
   ·subst c9
    have H1 : ((impl_after.f k l0_0 l0_1 a1 a2).bind fun am => (some (am, true))) = some (r1, r2) := by rw [if_pos rfl] at H; exact H
    clear H
    have H := H1
    clear H1
    replace H := Option.bind_eq_some_iff.mp H
    obtain ⟨am, aD, H⟩ := H
    replace H : (some (am, true)) = some (r1, r2) := H
    have A10 := am_ aD
    clear aD
    simp only [Option.some.injEq, Prod.mk.injEq] at H
    obtain ⟨rfl, rfl⟩ := H
    go_enter Try.func42, Try.ntmps42
    go_wp2_with (first | ((with_reducible refine gate_dst (N := 3) rfl ?_); (try (refine gate_guard (by rfl) ?_; dsimp only)); refine box_event ?hg (N := 3) ?hd (cs := #[.slice A0_0 l0_0.length c0_0, .slice A0_1 l0_1.length c0_1]) (t := 27) ?hr ?_; (case hd => rfl); (case hg => rfl); (case hr => first | (go_simp; done) | (go_simp; rfl)); intro aj hg w11 hbox hb; replace aa := am_ (hbox); replace aF := am_ ((by rw [hg]; exact (below_size (b0_ HB.out)) : w.heap.size ≤ aj)); replace ag := am_ ((by rw [hg]; exact (below_size (b0_ HB.out)) : w.heap.size ≤ aj)); replace HB := am_ (below_step (b0_ HB.out) hb); clear hb hbox hg; have aJ := ck_ (v := (.slice A0_0 l0_0.length c0_0)) aa 0 rfl; have aK := ck_ (v := (.slice A0_1 l0_1.length c0_1)) aa 1 rfl; have aL := blk_frozen aa.out 0; have aM := blk_frozen aa.out 1) | ((with_reducible refine gate_callee (f := 39) rfl ?_); refine gL_ (some 9) Try.func39 #[.agg #[.slice A0_0 l0_0.length c0_0, .slice A0_1 l0_1.length c0_1]] ?_; (with_reducible refine (impl_IsValidDfa.calls _ _ l0_0 _ _ l0_1 true _ ?side1 ?side2 ?side3 ?side4 A4.out).mono ?_); (case side1 => exact rc_ (Kd.C_below ak.out HB.out)); (case side2 => exact ao.out); (case side3 => exact rc_ (Kd.C_below al.out HB.out)); (case side4 => exact ap.out); rintro e w13 ⟨rfl, hb⟩; refine ⟨_, rfl, ?_⟩; have n0_ := am_ (blk_below (rb_ aa.out) hb); have n1_ := am_ (below_step (b1_ HB.out ag.out) hb); clear aa; clear HB; have aa := n0_; have HB := n1_; clear n0_ n1_; (try clear hb); (try clear hb2); (try clear hk); (try clear hi); have aY := ck_ (v := (.slice A0_0 l0_0.length c0_0)) aa 0 rfl; have aZ := ck_ (v := (.slice A0_1 l0_1.length c0_1)) aa 1 rfl; have ba := blk_frozen aa.out 0; have bb := blk_frozen aa.out 1) | (go_at_call 101; (with_reducible refine (impl_within.calls a1 0 (wrap64 ((l0_0.length : Int) - 1)) true _ A6.out).mono ?_); rintro e w' ⟨rfl, ⟨nd, rfl⟩⟩) | (go_at_call 71; (with_reducible refine (impl_IsWord.calls k a2 true _ A8.out).mono ?_); rintro e w' ⟨rfl, ⟨nd, rfl⟩⟩) | ((with_reducible refine gate_callee (f := 109) rfl ?_); refine gL_ (some 28) Try.func109 #[.agg #[.slice A0_0 l0_0.length c0_0, .slice A0_1 l0_1.length c0_1], .int .i64 a1, .string a2] ?_; (with_reducible refine (impl_after.calls k _ _ l0_0 _ _ l0_1 a1 a2 am _ ?side1 ?side2 ?side3 ?side4 A10.out).mono ?_); (case side1 => exact rc_ (Kd.C_below ak.out (b1_ HB.out ag.out))); (case side2 => exact ao.out); (case side3 => exact rc_ (Kd.C_below al.out (b1_ HB.out ag.out))); (case side4 => exact ap.out); rintro e w15 ⟨rfl, hb⟩; refine ⟨_, rfl, ?_⟩; have n0_ := am_ (blk_below (rb_ aa.out) hb); have n1_ := am_ (below_step (b1_ HB.out ag.out) hb); clear aa; clear HB; have aa := n0_; have HB := n1_; clear n0_ n1_; (try clear hb); (try clear hb2); (try clear hk); (try clear hi)))
    go_ret2
    exact ⟨by first | rfl | (simp [errW_none, errW_some] <;> rfl) | (simp [*, errW_none, errW_some] <;> rfl), by exact zp44_0_ HB.out ag.out⟩
   ·replace c9 := Bool.eq_false_iff.mpr c9
    subst c9
    have H1 : (some (0, false)) = some (r1, r2) := by rw [if_neg (show ¬ (false = true) by decide)] at H; exact H
    clear H
    have H := H1
    clear H1
    simp only [Option.some.injEq, Prod.mk.injEq] at H
    obtain ⟨rfl, rfl⟩ := H
    go_enter Try.func42, Try.ntmps42
    go_wp2_with (first | ((with_reducible refine gate_dst (N := 3) rfl ?_); (try (refine gate_guard (by rfl) ?_; dsimp only)); refine box_event ?hg (N := 3) ?hd (cs := #[.slice A0_0 l0_0.length c0_0, .slice A0_1 l0_1.length c0_1]) (t := 27) ?hr ?_; (case hd => rfl); (case hg => rfl); (case hr => first | (go_simp; done) | (go_simp; rfl)); intro aj hg w16 hbox hb; replace aa := am_ (hbox); replace aF := am_ ((by rw [hg]; exact (below_size (b0_ HB.out)) : w.heap.size ≤ aj)); replace ag := am_ ((by rw [hg]; exact (below_size (b0_ HB.out)) : w.heap.size ≤ aj)); replace HB := am_ (below_step (b0_ HB.out) hb); clear hb hbox hg; have bc := ck_ (v := (.slice A0_0 l0_0.length c0_0)) aa 0 rfl; have bd := ck_ (v := (.slice A0_1 l0_1.length c0_1)) aa 1 rfl; have be := blk_frozen aa.out 0; have bf := blk_frozen aa.out 1) | ((with_reducible refine gate_callee (f := 39) rfl ?_); refine gL_ (some 9) Try.func39 #[.agg #[.slice A0_0 l0_0.length c0_0, .slice A0_1 l0_1.length c0_1]] ?_; (with_reducible refine (impl_IsValidDfa.calls _ _ l0_0 _ _ l0_1 true _ ?side1 ?side2 ?side3 ?side4 A4.out).mono ?_); (case side1 => exact rc_ (Kd.C_below ak.out HB.out)); (case side2 => exact ao.out); (case side3 => exact rc_ (Kd.C_below al.out HB.out)); (case side4 => exact ap.out); rintro e w18 ⟨rfl, hb⟩; refine ⟨_, rfl, ?_⟩; have n0_ := am_ (blk_below (rb_ aa.out) hb); have n1_ := am_ (below_step (b1_ HB.out ag.out) hb); clear aa; clear HB; have aa := n0_; have HB := n1_; clear n0_ n1_; (try clear hb); (try clear hb2); (try clear hk); (try clear hi); have bg := ck_ (v := (.slice A0_0 l0_0.length c0_0)) aa 0 rfl; have bh := ck_ (v := (.slice A0_1 l0_1.length c0_1)) aa 1 rfl; have bi := blk_frozen aa.out 0; have bj := blk_frozen aa.out 1) | (go_at_call 101; (with_reducible refine (impl_within.calls a1 0 (wrap64 ((l0_0.length : Int) - 1)) true _ A6.out).mono ?_); rintro e w' ⟨rfl, ⟨nd, rfl⟩⟩) | (go_at_call 71; (with_reducible refine (impl_IsWord.calls k a2 false _ A8.out).mono ?_); rintro e w' ⟨rfl, ⟨nd, rfl⟩⟩))
    go_ret2
    exact ⟨by first | rfl | (simp [errW_none, errW_some] <;> rfl) | (simp [*, errW_none, errW_some] <;> rfl), by exact zp44_0_ HB.out ag.out⟩
  ·replace c7 := Bool.eq_false_iff.mpr c7
   subst c7
   have H1 : (some (0, false)) = some (r1, r2) := by rw [if_neg (show ¬ (false = true) by decide)] at H; exact H
   clear H
   have H := H1
   clear H1
   simp only [Option.some.injEq, Prod.mk.injEq] at H
   obtain ⟨rfl, rfl⟩ := H
   go_enter Try.func42, Try.ntmps42
   go_wp2_with (first | ((with_reducible refine gate_dst (N := 3) rfl ?_); (try (refine gate_guard (by rfl) ?_; dsimp only)); refine box_event ?hg (N := 3) ?hd (cs := #[.slice A0_0 l0_0.length c0_0, .slice A0_1 l0_1.length c0_1]) (t := 27) ?hr ?_; (case hd => rfl); (case hg => rfl); (case hr => first | (go_simp; done) | (go_simp; rfl)); intro aj hg w20 hbox hb; replace aa := am_ (hbox); replace aF := am_ ((by rw [hg]; exact (below_size (b0_ HB.out)) : w.heap.size ≤ aj)); replace ag := am_ ((by rw [hg]; exact (below_size (b0_ HB.out)) : w.heap.size ≤ aj)); replace HB := am_ (below_step (b0_ HB.out) hb); clear hb hbox hg; have bk := ck_ (v := (.slice A0_0 l0_0.length c0_0)) aa 0 rfl; have bl := ck_ (v := (.slice A0_1 l0_1.length c0_1)) aa 1 rfl; have bm := blk_frozen aa.out 0; have bn := blk_frozen aa.out 1) | ((with_reducible refine gate_callee (f := 39) rfl ?_); refine gL_ (some 9) Try.func39 #[.agg #[.slice A0_0 l0_0.length c0_0, .slice A0_1 l0_1.length c0_1]] ?_; (with_reducible refine (impl_IsValidDfa.calls _ _ l0_0 _ _ l0_1 true _ ?side1 ?side2 ?side3 ?side4 A4.out).mono ?_); (case side1 => exact rc_ (Kd.C_below ak.out HB.out)); (case side2 => exact ao.out); (case side3 => exact rc_ (Kd.C_below al.out HB.out)); (case side4 => exact ap.out); rintro e w22 ⟨rfl, hb⟩; refine ⟨_, rfl, ?_⟩; have n0_ := am_ (blk_below (rb_ aa.out) hb); have n1_ := am_ (below_step (b1_ HB.out ag.out) hb); clear aa; clear HB; have aa := n0_; have HB := n1_; clear n0_ n1_; (try clear hb); (try clear hb2); (try clear hk); (try clear hi); have bo := ck_ (v := (.slice A0_0 l0_0.length c0_0)) aa 0 rfl; have bp := ck_ (v := (.slice A0_1 l0_1.length c0_1)) aa 1 rfl; have bq := blk_frozen aa.out 0; have br := blk_frozen aa.out 1) | (go_at_call 101; (with_reducible refine (impl_within.calls a1 0 (wrap64 ((l0_0.length : Int) - 1)) false _ A6.out).mono ?_); rintro e w' ⟨rfl, ⟨nd, rfl⟩⟩))
   go_ret2
   exact ⟨by first | rfl | (simp [errW_none, errW_some] <;> rfl) | (simp [*, errW_none, errW_some] <;> rfl), by exact zp44_0_ HB.out ag.out⟩
 ·replace c5 := Bool.eq_false_iff.mpr c5
  subst c5
  have H1 : (some (0, false)) = some (r1, r2) := by rw [if_neg (show ¬ (false = true) by decide)] at H; exact H
  clear H
  have H := H1
  clear H1
  simp only [Option.some.injEq, Prod.mk.injEq] at H
  obtain ⟨rfl, rfl⟩ := H
  go_enter Try.func42, Try.ntmps42
  go_wp2_with (first | ((with_reducible refine gate_dst (N := 3) rfl ?_); (try (refine gate_guard (by rfl) ?_; dsimp only)); refine box_event ?hg (N := 3) ?hd (cs := #[.slice A0_0 l0_0.length c0_0, .slice A0_1 l0_1.length c0_1]) (t := 27) ?hr ?_; (case hd => rfl); (case hg => rfl); (case hr => first | (go_simp; done) | (go_simp; rfl)); intro aj hg w24 hbox hb; replace aa := am_ (hbox); replace aF := am_ ((by rw [hg]; exact (below_size (b0_ HB.out)) : w.heap.size ≤ aj)); replace ag := am_ ((by rw [hg]; exact (below_size (b0_ HB.out)) : w.heap.size ≤ aj)); replace HB := am_ (below_step (b0_ HB.out) hb); clear hb hbox hg; have bs := ck_ (v := (.slice A0_0 l0_0.length c0_0)) aa 0 rfl; have bu := ck_ (v := (.slice A0_1 l0_1.length c0_1)) aa 1 rfl; have bv := blk_frozen aa.out 0; have bw := blk_frozen aa.out 1) | ((with_reducible refine gate_callee (f := 39) rfl ?_); refine gL_ (some 9) Try.func39 #[.agg #[.slice A0_0 l0_0.length c0_0, .slice A0_1 l0_1.length c0_1]] ?_; (with_reducible refine (impl_IsValidDfa.calls _ _ l0_0 _ _ l0_1 false _ ?side1 ?side2 ?side3 ?side4 A4.out).mono ?_); (case side1 => exact rc_ (Kd.C_below ak.out HB.out)); (case side2 => exact ao.out); (case side3 => exact rc_ (Kd.C_below al.out HB.out)); (case side4 => exact ap.out); rintro e w26 ⟨rfl, hb⟩; refine ⟨_, rfl, ?_⟩; have n0_ := am_ (blk_below (rb_ aa.out) hb); have n1_ := am_ (below_step (b1_ HB.out ag.out) hb); clear aa; clear HB; have aa := n0_; have HB := n1_; clear n0_ n1_; (try clear hb); (try clear hb2); (try clear hk); (try clear hi)))
  go_ret2
  exact ⟨by first | rfl | (simp [errW_none, errW_some] <;> rfl) | (simp [*, errW_none, errW_some] <;> rfl), by exact zp44_0_ HB.out ag.out⟩
def impl_AcceptsWord.f (k : Nat) (l0_0 : List Bool) (l0_1 : List (List Int)) (a1 : ByteArray) : Option (Bool) := (impl_RunDfa.f k l0_0 l0_1 0 a1).bind fun bt742 => (if bt742.2 = true then (if 0 ≤ bt742.1 then (if bt742.1 < (l0_0.length : Int) then (some (rdOf false l0_0 bt742.1)) else (none)) else (none)) else (some false))
theorem impl_AcceptsWord.mono : ∀ a0 a1 a2 k, LeO (impl_AcceptsWord.f k a0 a1 a2) (impl_AcceptsWord.f (k + 1) a0 a1 a2) := by
  intro a0 a1 a2 k
  unfold impl_AcceptsWord.f
  repeat' first
      | (with_reducible exact impl_RunDfa.mono _ _ _ _ _)
      | (with_reducible exact LeO.refl _)
      | (with_reducible exact LeO.none _)
      | (with_reducible refine LeO.ite ?_ ?_)
      | (with_reducible refine LeO.bind ?_ (fun _ => ?_))
      | exact impl_RunDfa.mono _ _ _ _ _
      | exact LeO.none _
      | refine LeO.ite ?_ ?_
      | refine LeO.bind ?_ (fun _ => ?_)
set_option maxHeartbeats 8000000 in
set_option maxRecDepth 100000 in
theorem impl_AcceptsWord.calls (k : Nat) (A0_0 : Option Addr) (c0_0 : Nat) (l0_0 : List Bool) (A0_1 : Option Addr) (c0_1 : Nat) (l0_1 : List (List Int)) (a1 : ByteArray) (r : Bool) (w : World) (hr0_0 : Kd.C Kd.bool w A0_0 l0_0.length l0_0) (hc0_0 : l0_0.length ≤ c0_0) (hr0_1 : Kd.C (Kd.slice 3 (Kd.int .i64)) w A0_1 l0_1.length l0_1) (hc0_1 : l0_1.length ≤ c0_1) (h : impl_AcceptsWord.f k l0_0 l0_1 a1 = some r) :
    Calls Try.prog 34 #[.agg #[.slice A0_0 l0_0.length c0_0, .slice A0_1 l0_1.length c0_1], .string a1] w fun e w' => e = .returned (.bool r) ∧ Below w.heap.size w w' := by
  have hu27 := Try.underlying27
  have ak := am_ hr0_0
  have ao := am_ hc0_0
  clear hr0_0 hc0_0
  have al := am_ hr0_1
  have ap := am_ hc0_1
  clear hr0_1 hc0_1
  have HB := am_ (Below.refl w.heap.size w)
  have H : ((impl_RunDfa.f k l0_0 l0_1 0 a1).bind fun bt742 => (if bt742.2 = true then (if 0 ≤ bt742.1 then (if bt742.1 < (l0_0.length : Int) then (some (rdOf false l0_0 bt742.1)) else (none)) else (none)) else (some false))) = some r := h
  clear h
  replace H := Option.bind_eq_some_iff.mp H
  obtain ⟨⟨an, aS⟩, A30, H⟩ := H
  have A3 := am_ A30
  clear A30
  by_cases c4 : aS = true
  · subst c4
    have H1 : (if 0 ≤ an then (if an < (l0_0.length : Int) then (some (rdOf false l0_0 an)) else (none)) else (none)) = some r := by rw [if_pos rfl] at H; exact H
    clear H
    have H := H1
    clear H1
    by_cases c5 : 0 ≤ an
    · rw [if_pos c5] at H
      have c5b0 : decide (0 ≤ an) = true := decide_eq_true c5
      clear c5
      by_cases c6 : an < (l0_0.length : Int)
      · rw [if_pos c6] at H
        have c6b0 : decide (an < (l0_0.length : Int)) = true := decide_eq_true c6
        clear c6
        obtain rfl := Option.some.inj H
        simp only [Option.some.injEq, Prod.mk.injEq] at H
        obtain ⟨rfl⟩ := H
        go_enter Try.func34, Try.ntmps34
        go_wp2_with (first | ((with_reducible refine gate_dst (N := 2) rfl ?_); refine box_event ?hg (N := 2) ?hd (cs := #[.slice A0_0 l0_0.length c0_0, .slice A0_1 l0_1.length c0_1]) (t := 27) ?hr ?_; (case hd => rfl); (case hg => rfl); (case hr => first | (go_simp; done) | (go_simp; rfl)); intro ay hg w7 hbox hb; replace ad := am_ (hbox); replace aP := am_ ((by rw [hg]; exact (below_size (b0_ HB.out)) : w.heap.size ≤ ay)); replace az := am_ ((by rw [hg]; exact (below_size (b0_ HB.out)) : w.heap.size ≤ ay)); replace HB := am_ (below_step (b0_ HB.out) hb); clear hb hbox hg; have bC := ck_ (v := (.slice A0_0 l0_0.length c0_0)) ad 0 rfl; have bD := ck_ (v := (.slice A0_1 l0_1.length c0_1)) ad 1 rfl; have bE := blk_frozen ad.out 0; have bF := blk_frozen ad.out 1) | ((with_reducible refine gate_callee (f := 42) rfl ?_); refine gL_ (some 10) Try.func42 #[.agg #[.slice A0_0 l0_0.length c0_0, .slice A0_1 l0_1.length c0_1], .int .i64 0, .string a1] ?_; (with_reducible refine (impl_RunDfa.calls k _ _ l0_0 _ _ l0_1 0 a1 an true _ ?side1 ?side2 ?side3 ?side4 A3.out).mono ?_); (case side1 => exact rc_ (Kd.C_below ak.out HB.out)); (case side2 => exact ao.out); (case side3 => exact rc_ (Kd.C_below al.out HB.out)); (case side4 => exact ap.out); rintro e w9 ⟨rfl, hb⟩; refine ⟨_, rfl, ?_⟩; have n0_ := am_ (blk_below (rb_ ad.out) hb); have n1_ := am_ (below_step (b1_ HB.out az.out) hb); clear ad; clear HB; have ad := n0_; have HB := n1_; clear n0_ n1_; (try clear hb); (try clear hb2); (try clear hk); (try clear hi); have bx := ck_ (v := (.slice A0_0 l0_0.length c0_0)) ad 0 rfl; have bz := ck_ (v := (.slice A0_1 l0_1.length c0_1)) ad 1 rfl; have bA := blk_frozen ad.out 0; have bB := blk_frozen ad.out 1; have p744 : 0 ≤ (an : Int) := of_decide_eq_true ah_; have q744 : an < (l0_0.length : Int) := of_decide_eq_true ah_; obtain ⟨bH, e744, aC⟩ := Kd.at_bool ak.out an p744 q744; cases e744; replace aC := (HB.out.cell (World.block_lt_of_cell? w _ aC)).trans aC; replace p744 := eq_true p744; replace q744 := eq_true q744))
        go_ret
        exact ⟨by first | rfl | (simp [errW_none, errW_some] <;> rfl) | (simp [*, errW_none, errW_some] <;> rfl), by exact zp44_0_ HB.out az.out⟩
      · rw [if_neg c6] at H
        exact absurd H (by simp)
    · rw [if_neg c5] at H
      exact absurd H (by simp)
  · replace c4 := Bool.eq_false_iff.mpr c4
    subst c4
    have H1 : (some false) = some r := by rw [if_neg (show ¬ (false = true) by decide)] at H; exact H
    clear H
    have H := H1
    clear H1
    obtain rfl := Option.some.inj H
    simp only [Option.some.injEq, Prod.mk.injEq] at H
    obtain ⟨rfl⟩ := H
    go_enter Try.func34, Try.ntmps34
    go_wp2_with (first | ((with_reducible refine gate_dst (N := 2) rfl ?_); refine box_event ?hg (N := 2) ?hd (cs := #[.slice A0_0 l0_0.length c0_0, .slice A0_1 l0_1.length c0_1]) (t := 27) ?hr ?_; (case hd => rfl); (case hg => rfl); (case hr => first | (go_simp; done) | (go_simp; rfl)); intro ay hg w11 hbox hb; replace ad := am_ (hbox); replace aP := am_ ((by rw [hg]; exact (below_size (b0_ HB.out)) : w.heap.size ≤ ay)); replace az := am_ ((by rw [hg]; exact (below_size (b0_ HB.out)) : w.heap.size ≤ ay)); replace HB := am_ (below_step (b0_ HB.out) hb); clear hb hbox hg; have aJ := ck_ (v := (.slice A0_0 l0_0.length c0_0)) ad 0 rfl; have aK := ck_ (v := (.slice A0_1 l0_1.length c0_1)) ad 1 rfl; have aL := blk_frozen ad.out 0; have aM := blk_frozen ad.out 1) | ((with_reducible refine gate_callee (f := 42) rfl ?_); refine gL_ (some 10) Try.func42 #[.agg #[.slice A0_0 l0_0.length c0_0, .slice A0_1 l0_1.length c0_1], .int .i64 0, .string a1] ?_; (with_reducible refine (impl_RunDfa.calls k _ _ l0_0 _ _ l0_1 0 a1 an false _ ?side1 ?side2 ?side3 ?side4 A3.out).mono ?_); (case side1 => exact rc_ (Kd.C_below ak.out HB.out)); (case side2 => exact ao.out); (case side3 => exact rc_ (Kd.C_below al.out HB.out)); (case side4 => exact ap.out); rintro e w13 ⟨rfl, hb⟩; refine ⟨_, rfl, ?_⟩; have n0_ := am_ (blk_below (rb_ ad.out) hb); have n1_ := am_ (below_step (b1_ HB.out az.out) hb); clear ad; clear HB; have ad := n0_; have HB := n1_; clear n0_ n1_; (try clear hb); (try clear hb2); (try clear hk); (try clear hi)))
    go_ret
    exact ⟨by first | rfl | (simp [errW_none, errW_some] <;> rfl) | (simp [*, errW_none, errW_some] <;> rfl), by exact zp44_0_ HB.out az.out⟩
end Go.Proofs.Ytogamkblkoobkaa.P
end
section
namespace Go.Proofs.Ytogamkblkoobkaa.P
open Go.RowKit Go.Proofs.YtogamkblkoobkaaW.PrintWords Go.Proofs.YtogamkblkoobkaaW.PrintLast Go.Proofs.YtogamkblkoobkaaW.PrintMore
attribute [local go_sem] max2_int min2_int max_two min_two max_three min_three max_four min_four
set_option linter.unusedVariables false
set_option linter.unusedSimpArgs false
mutual
def spec_RunDfa.j0 : Nat → Int → ByteArray → Bool → List Bool → List (List Int) → Option (Int × Bool)
  | 0, _, _, _, _, _ => none
  | k + 1, x1, x2, x26, az, an => if x26 = true then (some (0, false)) else (spec_RunDfa.l0 k x2 x1 0 az an)
def spec_RunDfa.l0 : Nat → ByteArray → Int → Int → List Bool → List (List Int) → Option (Int × Bool)
  | 0, _, _, _, _, _ => none
  | k + 1, x2, x8, x9, az, an => if x9 < (x2.size : Int) then (if 0 ≤ x8 then (if x8 < (an.length : Int) then (if 0 ≤ x9 then ((spec_LetterIndex.f k (bt x2 x9)).bind fun ad => (if 0 ≤ ad then (if ad < ((rd_L1 an x8).length : Int) then (spec_RunDfa.l0 k x2 (rd (rd_L1 an x8) ad) (wrap64 (x9 + 1)) az an) else (none)) else (none))) else (none)) else (none)) else (none)) else (some (x8, true))
end
def spec_RunDfa.f (k : Nat) (l0_0 : List Bool) (l0_1 : List (List Int)) (a1 : Int) (a2 : ByteArray) : Option (Int × Bool) := (spec_IsValidDfa.f k l0_0 l0_1).bind fun aD => (if aD = true then ((spec_l1In.f a1 0 (wrap64 ((l0_0.length : Int) - 1))).bind fun ay => (if ay = true then ((spec_IsWord.f k a2).bind fun ah => (spec_RunDfa.j0 k a1 a2 (!ah) l0_0 l0_1)) else (spec_RunDfa.j0 k a1 a2 true l0_0 l0_1))) else (spec_RunDfa.j0 k a1 a2 true l0_0 l0_1))
theorem spec_RunDfa.mono_l : ∀ k, (∀ y0 y1 y2 y3 y4, LeO (spec_RunDfa.j0 k y0 y1 y2 y3 y4) (spec_RunDfa.j0 (k + 1) y0 y1 y2 y3 y4)) ∧ (∀ y0 y1 y2 y3 y4, LeO (spec_RunDfa.l0 k y0 y1 y2 y3 y4) (spec_RunDfa.l0 (k + 1) y0 y1 y2 y3 y4))
 | 0 => ⟨fun _ _ _ _ _ r h => by simp [spec_RunDfa.j0] at h, fun _ _ _ _ _ r h => by simp [spec_RunDfa.l0] at h⟩
 | k + 1 => by
  obtain ⟨ih0, ih1⟩ := spec_RunDfa.mono_l k
  refine ⟨?_, ?_⟩
  ·intro y0 y1 y2 y3 y4
   unfold spec_RunDfa.j0
   repeat' first
   | (with_reducible exact ih0 _ _ _ _ _)
   | (with_reducible exact ih1 _ _ _ _ _)
   | (with_reducible exact spec_IsValidDfa.mono _ _ _)
   | (with_reducible exact spec_IsWord.mono _ _)
   | (with_reducible exact spec_LetterIndex.mono _ _)
   | (with_reducible exact LeO.refl _)
   | (with_reducible exact LeO.none _)
   | (with_reducible refine LeO.ite ?_ ?_)
   | (with_reducible refine LeO.bind ?_ (fun _ => ?_))
   | exact ih0 _ _ _ _ _
   | exact ih1 _ _ _ _ _
   | exact spec_IsValidDfa.mono _ _ _
   | exact spec_IsWord.mono _ _
   | exact spec_LetterIndex.mono _ _
   | exact LeO.none _
   | refine LeO.ite ?_ ?_
   | refine LeO.bind ?_ (fun _ => ?_)
  ·intro y0 y1 y2 y3 y4
   unfold spec_RunDfa.l0
   repeat' first
   | (with_reducible exact ih0 _ _ _ _ _)
   | (with_reducible exact ih1 _ _ _ _ _)
   | (with_reducible exact spec_IsValidDfa.mono _ _ _)
   | (with_reducible exact spec_IsWord.mono _ _)
   | (with_reducible exact spec_LetterIndex.mono _ _)
   | (with_reducible exact LeO.refl _)
   | (with_reducible exact LeO.none _)
   | (with_reducible refine LeO.ite ?_ ?_)
   | (with_reducible refine LeO.bind ?_ (fun _ => ?_))
   | exact ih0 _ _ _ _ _
   | exact ih1 _ _ _ _ _
   | exact spec_IsValidDfa.mono _ _ _
   | exact spec_IsWord.mono _ _
   | exact spec_LetterIndex.mono _ _
   | exact LeO.none _
   | refine LeO.ite ?_ ?_
   | refine LeO.bind ?_ (fun _ => ?_)
theorem spec_RunDfa.mono : ∀ a0 a1 a2 a3 k, LeO (spec_RunDfa.f k a0 a1 a2 a3) (spec_RunDfa.f (k + 1) a0 a1 a2 a3) := by
 intro a0 a1 a2 a3 k
 obtain ⟨ih0, ih1⟩ := spec_RunDfa.mono_l k
 unfold spec_RunDfa.f
 repeat' first
   | (with_reducible exact ih0 _ _ _ _ _)
   | (with_reducible exact ih1 _ _ _ _ _)
   | (with_reducible exact spec_IsValidDfa.mono _ _ _)
   | (with_reducible exact spec_IsWord.mono _ _)
   | (with_reducible exact spec_LetterIndex.mono _ _)
   | (with_reducible exact LeO.refl _)
   | (with_reducible exact LeO.none _)
   | (with_reducible refine LeO.ite ?_ ?_)
   | (with_reducible refine LeO.bind ?_ (fun _ => ?_))
   | exact ih0 _ _ _ _ _
   | exact ih1 _ _ _ _ _
   | exact spec_IsValidDfa.mono _ _ _
   | exact spec_IsWord.mono _ _
   | exact spec_LetterIndex.mono _ _
   | exact LeO.none _
   | refine LeO.ite ?_ ?_
   | refine LeO.bind ?_ (fun _ => ?_)
theorem zp53_0_ {p q g1 : Prop} (h : p) (h1 : g1) (c : p → g1 → q := by intro h_ h1_; repeat (first | (with_reducible first | exact h_ | apply below_alloc | apply pw_below_drewN | apply below_drew1 | refine below_set ?_ h1_) | exact h_)) : q := c h h1
set_option maxHeartbeats 8000000 in
set_option maxRecDepth 100000 in
theorem spec_RunDfa.calls (k : Nat) (A0_0 : Option Addr) (c0_0 : Nat) (l0_0 : List Bool) (A0_1 : Option Addr) (c0_1 : Nat) (l0_1 : List (List Int)) (a1 : Int) (a2 : ByteArray) (r1 : Int) (r2 : Bool) (w : World) (hr0_0 : Kd.C Kd.bool w A0_0 l0_0.length l0_0) (hc0_0 : l0_0.length ≤ c0_0) (hr0_1 : Kd.C (Kd.slice 3 (Kd.int .i64)) w A0_1 l0_1.length l0_1) (hc0_1 : l0_1.length ≤ c0_1) (h : spec_RunDfa.f k l0_0 l0_1 a1 a2 = some (r1, r2)) :
  Calls Try.prog 43 #[.agg #[.slice A0_0 l0_0.length c0_0, .slice A0_1 l0_1.length c0_1], .int .i64 a1, .string a2] w fun e w' => e = .returned (.tuple #[.int .i64 r1, .bool r2]) ∧ Below w.heap.size w w' := by
 have hu27 := Try.underlying27
 have ak := am_ hr0_0
 have al := am_ hc0_0
 clear hr0_0 hc0_0
 have ai := am_ hr0_1
 have am := am_ hc0_1
 clear hr0_1 hc0_1
 have HB := am_ (Below.refl w.heap.size w)
 have H : ((spec_IsValidDfa.f k l0_0 l0_1).bind fun aD => (if aD = true then ((spec_l1In.f a1 0 (wrap64 ((l0_0.length : Int) - 1))).bind fun ay => (if ay = true then ((spec_IsWord.f k a2).bind fun ah => (spec_RunDfa.j0 k a1 a2 (!ah) l0_0 l0_1)) else (spec_RunDfa.j0 k a1 a2 true l0_0 l0_1))) else (spec_RunDfa.j0 k a1 a2 true l0_0 l0_1))) = some (r1, r2) := h
 clear h
 have HC4 := am_ H
 clear H
 go_enter Try.func43, Try.ntmps43
 go_upto_region 1 with (first | ((with_reducible refine gate_dst (N := 3) rfl ?_); (try (refine gate_guard (by rfl) ?_; dsimp only)); refine box_event ?hg (N := 3) ?hd (cs := #[.slice A0_0 l0_0.length c0_0, .slice A0_1 l0_1.length c0_1]) (t := 27) ?hr ?_; (case hd => rfl); (case hg => rfl); (case hr => first | (go_simp; done) | (go_simp; rfl)); intro aj hg w5 hbox hb; replace aa := am_ (hbox); replace aQ := am_ ((by rw [hg]; exact (below_size (b0_ HB.out)) : w.heap.size ≤ aj)); replace ab := am_ ((by rw [hg]; exact (below_size (b0_ HB.out)) : w.heap.size ≤ aj)); replace HB := am_ (below_step (b0_ HB.out) hb); clear hb hbox hg))
 repeat (go_quiet (first | ((with_reducible refine gate_dst (N := 3) rfl ?_); (try (refine gate_guard (by rfl) ?_; dsimp only)); refine box_event ?hg (N := 3) ?hd (cs := #[.slice A0_0 l0_0.length c0_0, .slice A0_1 l0_1.length c0_1]) (t := 27) ?hr ?_; (case hd => rfl); (case hg => rfl); (case hr => first | (go_simp; done) | (go_simp; rfl)); intro aj hg w5 hbox hb; replace aa := am_ (hbox); replace aQ := am_ ((by rw [hg]; exact (below_size (b0_ HB.out)) : w.heap.size ≤ aj)); replace ab := am_ ((by rw [hg]; exact (below_size (b0_ HB.out)) : w.heap.size ≤ aj)); replace HB := am_ (below_step (b0_ HB.out) hb); clear hb hbox hg)); go_upto_region 1 with (first | ((with_reducible refine gate_dst (N := 3) rfl ?_); (try (refine gate_guard (by rfl) ?_; dsimp only)); refine box_event ?hg (N := 3) ?hd (cs := #[.slice A0_0 l0_0.length c0_0, .slice A0_1 l0_1.length c0_1]) (t := 27) ?hr ?_; (case hd => rfl); (case hg => rfl); (case hr => first | (go_simp; done) | (go_simp; rfl)); intro aj hg w5 hbox hb; replace aa := am_ (hbox); replace aQ := am_ ((by rw [hg]; exact (below_size (b0_ HB.out)) : w.heap.size ≤ aj)); replace ab := am_ ((by rw [hg]; exact (below_size (b0_ HB.out)) : w.heap.size ≤ aj)); replace HB := am_ (below_step (b0_ HB.out) hb); clear hb hbox hg)))
 (try simp only [Act.put, List.setIfInBounds_toArray, List.set_cons_zero, List.set_cons_succ])
 go_cut [26] (fun v26 wc => ∃ (kq : Nat) (aC : Bool), v26 = .bool aC ∧ Aside0 (spec_RunDfa.j0 kq a1 a2 aC l0_0 l0_1 = some (r1, r2)) ∧ Aside0 (kq ≤ k) ∧ Aside0 (wc.heap[aj]? = some (.cells #[(.slice A0_0 l0_0.length c0_0), (.slice A0_1 l0_1.length c0_1)] 27 (0, 0))) ∧ Aside0 (Below w.heap.size w wc))
 case first =>
  have H := HC4.out
  clear HC4
  replace H := Option.bind_eq_some_iff.mp H
  obtain ⟨aD, A60, H⟩ := H
  have A6 := am_ A60
  clear A60
  by_cases c7 : aD = true
  ·subst c7
   have H1 : ((spec_l1In.f a1 0 (wrap64 ((l0_0.length : Int) - 1))).bind fun ay => (if ay = true then ((spec_IsWord.f k a2).bind fun ah => (spec_RunDfa.j0 k a1 a2 (!ah) l0_0 l0_1)) else (spec_RunDfa.j0 k a1 a2 true l0_0 l0_1))) = some (r1, r2) := by rw [if_pos rfl] at H; exact H
   clear H
   have H := H1
   clear H1
   replace H := Option.bind_eq_some_iff.mp H
   obtain ⟨ay, A80, H⟩ := H
   have A8 := am_ A80
   clear A80
   by_cases c9 : ay = true
   ·subst c9
    have H1 : ((spec_IsWord.f k a2).bind fun ah => (spec_RunDfa.j0 k a1 a2 (!ah) l0_0 l0_1)) = some (r1, r2) := by rw [if_pos rfl] at H; exact H
    clear H
    have H := H1
    clear H1
    replace H := Option.bind_eq_some_iff.mp H
    obtain ⟨ah, aS, H⟩ := H
    replace H : (spec_RunDfa.j0 k a1 a2 (!ah) l0_0 l0_1) = some (r1, r2) := H
    have A10 := am_ aS
    clear aS
    have H' := am_ H
    clear H
    have aE := ck_ (v := (.slice A0_0 l0_0.length c0_0)) aa 0 rfl
    have aF := ck_ (v := (.slice A0_1 l0_1.length c0_1)) aa 1 rfl
    have aG := blk_frozen aa.out 0
    have aH := blk_frozen aa.out 1
    go_wp2_with (first | (go_at_call 35; (with_reducible refine (spec_IsValidDfa.calls k _ _ l0_0 _ _ l0_1 true _ ?side1 ?side2 ?side3 ?side4 A6.out).mono ?_); (case side1 => exact rc_ (Kd.C_below ak.out HB.out)); (case side2 => exact al.out); (case side3 => exact rc_ (Kd.C_below ai.out HB.out)); (case side4 => exact am.out); rintro e w12 ⟨rfl, hb⟩; have n0_ := am_ (blk_below (rb_ aa.out) hb); have n1_ := am_ (below_step (b1_ HB.out ab.out) hb); clear aa; clear HB; have aa := n0_; have HB := n1_; clear n0_ n1_; (try clear hb); (try clear hb2); (try clear hk); (try clear hi); have ao := ck_ (v := (.slice A0_0 l0_0.length c0_0)) aa 0 rfl; have ap := ck_ (v := (.slice A0_1 l0_1.length c0_1)) aa 1 rfl; have aq := blk_frozen aa.out 0; have ar := blk_frozen aa.out 1) | (go_at_call 95; (with_reducible refine (spec_l1In.calls a1 0 (wrap64 ((l0_0.length : Int) - 1)) true _ A8.out).mono ?_); rintro e w' ⟨rfl, ⟨nd, rfl⟩⟩; (try first | exact ⟨rfl, _, World.drewN_drewN _ _ _⟩ | exact ⟨rfl, _, Eq.trans (World.drewN_drewN _ _ _) (congrArg (World.drewN _) (Nat.add_assoc _ _ _))⟩)) | (go_at_call 69; (with_reducible refine (spec_IsWord.calls k a2 ah _ A10.out).mono ?_); rintro e w' ⟨rfl, ⟨nd, rfl⟩⟩; (try first | exact ⟨rfl, _, World.drewN_drewN _ _ _⟩ | exact ⟨rfl, _, Eq.trans (World.drewN_drewN _ _ _) (congrArg (World.drewN _) (Nat.add_assoc _ _ _))⟩)))
    repeat (go_quiet (first | (go_at_call 35; (with_reducible refine (spec_IsValidDfa.calls k _ _ l0_0 _ _ l0_1 true _ ?side1 ?side2 ?side3 ?side4 A6.out).mono ?_); (case side1 => exact rc_ (Kd.C_below ak.out HB.out)); (case side2 => exact al.out); (case side3 => exact rc_ (Kd.C_below ai.out HB.out)); (case side4 => exact am.out); rintro e w12 ⟨rfl, hb⟩; have n0_ := am_ (blk_below (rb_ aa.out) hb); have n1_ := am_ (below_step (b1_ HB.out ab.out) hb); clear aa; clear HB; have aa := n0_; have HB := n1_; clear n0_ n1_; (try clear hb); (try clear hb2); (try clear hk); (try clear hi); have ao := ck_ (v := (.slice A0_0 l0_0.length c0_0)) aa 0 rfl; have ap := ck_ (v := (.slice A0_1 l0_1.length c0_1)) aa 1 rfl; have aq := blk_frozen aa.out 0; have ar := blk_frozen aa.out 1) | (go_at_call 95; (with_reducible refine (spec_l1In.calls a1 0 (wrap64 ((l0_0.length : Int) - 1)) true _ A8.out).mono ?_); rintro e w' ⟨rfl, ⟨nd, rfl⟩⟩; (try first | exact ⟨rfl, _, World.drewN_drewN _ _ _⟩ | exact ⟨rfl, _, Eq.trans (World.drewN_drewN _ _ _) (congrArg (World.drewN _) (Nat.add_assoc _ _ _))⟩)) | (go_at_call 69; (with_reducible refine (spec_IsWord.calls k a2 ah _ A10.out).mono ?_); rintro e w' ⟨rfl, ⟨nd, rfl⟩⟩; (try first | exact ⟨rfl, _, World.drewN_drewN _ _ _⟩ | exact ⟨rfl, _, Eq.trans (World.drewN_drewN _ _ _) (congrArg (World.drewN _) (Nat.add_assoc _ _ _))⟩))); try go_wp2_with (first | (go_at_call 35; (with_reducible refine (spec_IsValidDfa.calls k _ _ l0_0 _ _ l0_1 true _ ?side1 ?side2 ?side3 ?side4 A6.out).mono ?_); (case side1 => exact rc_ (Kd.C_below ak.out HB.out)); (case side2 => exact al.out); (case side3 => exact rc_ (Kd.C_below ai.out HB.out)); (case side4 => exact am.out); rintro e w12 ⟨rfl, hb⟩; have n0_ := am_ (blk_below (rb_ aa.out) hb); have n1_ := am_ (below_step (b1_ HB.out ab.out) hb); clear aa; clear HB; have aa := n0_; have HB := n1_; clear n0_ n1_; (try clear hb); (try clear hb2); (try clear hk); (try clear hi); have ao := ck_ (v := (.slice A0_0 l0_0.length c0_0)) aa 0 rfl; have ap := ck_ (v := (.slice A0_1 l0_1.length c0_1)) aa 1 rfl; have aq := blk_frozen aa.out 0; have ar := blk_frozen aa.out 1) | (go_at_call 95; (with_reducible refine (spec_l1In.calls a1 0 (wrap64 ((l0_0.length : Int) - 1)) true _ A8.out).mono ?_); rintro e w' ⟨rfl, ⟨nd, rfl⟩⟩; (try first | exact ⟨rfl, _, World.drewN_drewN _ _ _⟩ | exact ⟨rfl, _, Eq.trans (World.drewN_drewN _ _ _) (congrArg (World.drewN _) (Nat.add_assoc _ _ _))⟩)) | (go_at_call 69; (with_reducible refine (spec_IsWord.calls k a2 ah _ A10.out).mono ?_); rintro e w' ⟨rfl, ⟨nd, rfl⟩⟩; (try first | exact ⟨rfl, _, World.drewN_drewN _ _ _⟩ | exact ⟨rfl, _, Eq.trans (World.drewN_drewN _ _ _) (congrArg (World.drewN _) (Nat.add_assoc _ _ _))⟩))))
    go_meet
    case rel => exact ⟨_, (!ah), (by first | rfl | (simp; done) | (simp [*]; done)), H', ⟨by first | omega | exact Nat.le_refl _⟩, ⟨by refine rb_ ?_; exact aa.out⟩, ⟨by exact zp53_0_ HB.out ab.out⟩⟩
   ·replace c9 := Bool.eq_false_iff.mpr c9
    subst c9
    have H1 : (spec_RunDfa.j0 k a1 a2 true l0_0 l0_1) = some (r1, r2) := by rw [if_neg (show ¬ (false = true) by decide)] at H; exact H
    clear H
    have H := H1
    clear H1
    have H' := am_ H
    clear H
    have aI := ck_ (v := (.slice A0_0 l0_0.length c0_0)) aa 0 rfl
    have aJ := ck_ (v := (.slice A0_1 l0_1.length c0_1)) aa 1 rfl
    have aK := blk_frozen aa.out 0
    have aL := blk_frozen aa.out 1
    go_wp2_with (first | (go_at_call 35; (with_reducible refine (spec_IsValidDfa.calls k _ _ l0_0 _ _ l0_1 true _ ?side1 ?side2 ?side3 ?side4 A6.out).mono ?_); (case side1 => exact rc_ (Kd.C_below ak.out HB.out)); (case side2 => exact al.out); (case side3 => exact rc_ (Kd.C_below ai.out HB.out)); (case side4 => exact am.out); rintro e w15 ⟨rfl, hb⟩; have n0_ := am_ (blk_below (rb_ aa.out) hb); have n1_ := am_ (below_step (b1_ HB.out ab.out) hb); clear aa; clear HB; have aa := n0_; have HB := n1_; clear n0_ n1_; (try clear hb); (try clear hb2); (try clear hk); (try clear hi); have au := ck_ (v := (.slice A0_0 l0_0.length c0_0)) aa 0 rfl; have av := ck_ (v := (.slice A0_1 l0_1.length c0_1)) aa 1 rfl; have aw := blk_frozen aa.out 0; have ax := blk_frozen aa.out 1) | (go_at_call 95; (with_reducible refine (spec_l1In.calls a1 0 (wrap64 ((l0_0.length : Int) - 1)) false _ A8.out).mono ?_); rintro e w' ⟨rfl, ⟨nd, rfl⟩⟩; (try first | exact ⟨rfl, _, World.drewN_drewN _ _ _⟩ | exact ⟨rfl, _, Eq.trans (World.drewN_drewN _ _ _) (congrArg (World.drewN _) (Nat.add_assoc _ _ _))⟩)))
    repeat (go_quiet (first | (go_at_call 35; (with_reducible refine (spec_IsValidDfa.calls k _ _ l0_0 _ _ l0_1 true _ ?side1 ?side2 ?side3 ?side4 A6.out).mono ?_); (case side1 => exact rc_ (Kd.C_below ak.out HB.out)); (case side2 => exact al.out); (case side3 => exact rc_ (Kd.C_below ai.out HB.out)); (case side4 => exact am.out); rintro e w15 ⟨rfl, hb⟩; have n0_ := am_ (blk_below (rb_ aa.out) hb); have n1_ := am_ (below_step (b1_ HB.out ab.out) hb); clear aa; clear HB; have aa := n0_; have HB := n1_; clear n0_ n1_; (try clear hb); (try clear hb2); (try clear hk); (try clear hi); have au := ck_ (v := (.slice A0_0 l0_0.length c0_0)) aa 0 rfl; have av := ck_ (v := (.slice A0_1 l0_1.length c0_1)) aa 1 rfl; have aw := blk_frozen aa.out 0; have ax := blk_frozen aa.out 1) | (go_at_call 95; (with_reducible refine (spec_l1In.calls a1 0 (wrap64 ((l0_0.length : Int) - 1)) false _ A8.out).mono ?_); rintro e w' ⟨rfl, ⟨nd, rfl⟩⟩; (try first | exact ⟨rfl, _, World.drewN_drewN _ _ _⟩ | exact ⟨rfl, _, Eq.trans (World.drewN_drewN _ _ _) (congrArg (World.drewN _) (Nat.add_assoc _ _ _))⟩))); try go_wp2_with (first | (go_at_call 35; (with_reducible refine (spec_IsValidDfa.calls k _ _ l0_0 _ _ l0_1 true _ ?side1 ?side2 ?side3 ?side4 A6.out).mono ?_); (case side1 => exact rc_ (Kd.C_below ak.out HB.out)); (case side2 => exact al.out); (case side3 => exact rc_ (Kd.C_below ai.out HB.out)); (case side4 => exact am.out); rintro e w15 ⟨rfl, hb⟩; have n0_ := am_ (blk_below (rb_ aa.out) hb); have n1_ := am_ (below_step (b1_ HB.out ab.out) hb); clear aa; clear HB; have aa := n0_; have HB := n1_; clear n0_ n1_; (try clear hb); (try clear hb2); (try clear hk); (try clear hi); have au := ck_ (v := (.slice A0_0 l0_0.length c0_0)) aa 0 rfl; have av := ck_ (v := (.slice A0_1 l0_1.length c0_1)) aa 1 rfl; have aw := blk_frozen aa.out 0; have ax := blk_frozen aa.out 1) | (go_at_call 95; (with_reducible refine (spec_l1In.calls a1 0 (wrap64 ((l0_0.length : Int) - 1)) false _ A8.out).mono ?_); rintro e w' ⟨rfl, ⟨nd, rfl⟩⟩; (try first | exact ⟨rfl, _, World.drewN_drewN _ _ _⟩ | exact ⟨rfl, _, Eq.trans (World.drewN_drewN _ _ _) (congrArg (World.drewN _) (Nat.add_assoc _ _ _))⟩))))
    go_meet
    case rel => exact ⟨_, (true), (by first | rfl | (simp; done) | (simp [*]; done)), H', ⟨by first | omega | exact Nat.le_refl _⟩, ⟨by refine rb_ ?_; exact aa.out⟩, ⟨by exact zp53_0_ HB.out ab.out⟩⟩
  ·replace c7 := Bool.eq_false_iff.mpr c7
   subst c7
   have H1 : (spec_RunDfa.j0 k a1 a2 true l0_0 l0_1) = some (r1, r2) := by rw [if_neg (show ¬ (false = true) by decide)] at H; exact H
   clear H
   have H := H1
   clear H1
   have H' := am_ H
   clear H
   have aM := ck_ (v := (.slice A0_0 l0_0.length c0_0)) aa 0 rfl
   have aN := ck_ (v := (.slice A0_1 l0_1.length c0_1)) aa 1 rfl
   have aO := blk_frozen aa.out 0
   have aP := blk_frozen aa.out 1
   go_wp2_with (first | (go_at_call 35; (with_reducible refine (spec_IsValidDfa.calls k _ _ l0_0 _ _ l0_1 false _ ?side1 ?side2 ?side3 ?side4 A6.out).mono ?_); (case side1 => exact rc_ (Kd.C_below ak.out HB.out)); (case side2 => exact al.out); (case side3 => exact rc_ (Kd.C_below ai.out HB.out)); (case side4 => exact am.out); rintro e w18 ⟨rfl, hb⟩; have n0_ := am_ (blk_below (rb_ aa.out) hb); have n1_ := am_ (below_step (b1_ HB.out ab.out) hb); clear aa; clear HB; have aa := n0_; have HB := n1_; clear n0_ n1_; (try clear hb); (try clear hb2); (try clear hk); (try clear hi)))
   repeat (go_quiet (first | (go_at_call 35; (with_reducible refine (spec_IsValidDfa.calls k _ _ l0_0 _ _ l0_1 false _ ?side1 ?side2 ?side3 ?side4 A6.out).mono ?_); (case side1 => exact rc_ (Kd.C_below ak.out HB.out)); (case side2 => exact al.out); (case side3 => exact rc_ (Kd.C_below ai.out HB.out)); (case side4 => exact am.out); rintro e w18 ⟨rfl, hb⟩; have n0_ := am_ (blk_below (rb_ aa.out) hb); have n1_ := am_ (below_step (b1_ HB.out ab.out) hb); clear aa; clear HB; have aa := n0_; have HB := n1_; clear n0_ n1_; (try clear hb); (try clear hb2); (try clear hk); (try clear hi))); try go_wp2_with (first | (go_at_call 35; (with_reducible refine (spec_IsValidDfa.calls k _ _ l0_0 _ _ l0_1 false _ ?side1 ?side2 ?side3 ?side4 A6.out).mono ?_); (case side1 => exact rc_ (Kd.C_below ak.out HB.out)); (case side2 => exact al.out); (case side3 => exact rc_ (Kd.C_below ai.out HB.out)); (case side4 => exact am.out); rintro e w18 ⟨rfl, hb⟩; have n0_ := am_ (blk_below (rb_ aa.out) hb); have n1_ := am_ (below_step (b1_ HB.out ab.out) hb); clear aa; clear HB; have aa := n0_; have HB := n1_; clear n0_ n1_; (try clear hb); (try clear hb2); (try clear hk); (try clear hi))))
   go_meet
   case rel => exact ⟨_, (true), (by first | rfl | (simp; done) | (simp [*]; done)), H', ⟨by first | omega | exact Nat.le_refl _⟩, ⟨by refine rb_ ?_; exact aa.out⟩, ⟨by exact zp53_0_ HB.out ab.out⟩⟩
 case rest =>
  clear HC4
  try clear p2
  try clear c4
  try clear p6
  try clear c7
  try clear c9
  try clear aE
  try clear aF
  try clear ao
  try clear ap
  try clear aI
  try clear aJ
  try clear au
  try clear av
  try clear aM
  try clear aN
  try clear aG
  try clear aH
  try clear aq
  try clear ar
  try clear aK
  try clear aL
  try clear aw
  try clear ax
  try clear aO
  try clear aP
  obtain ⟨kq, aC, rfl, HA, HJ3, aa, HB⟩ := hcut
  cases kq with
  | zero => exact absurd HA.out (by simp [spec_RunDfa.j0])
  | succ kj3 =>
   have H := HA.out
   clear HA
   simp only [spec_RunDfa.j0] at H
   by_cases c19 : aC = true
   ·subst c19
    have H1 : (some (0, false)) = some (r1, r2) := by rw [if_pos rfl] at H; exact H
    clear H
    have H := H1
    clear H1
    simp only [Option.some.injEq, Prod.mk.injEq] at H
    obtain ⟨rfl, rfl⟩ := H
    go_wp2
    repeat (go_quiet (fail); try go_wp2)
    go_ret2
    exact ⟨by first | rfl | (simp [errW_none, errW_some] <;> rfl) | (simp [*, errW_none, errW_some] <;> rfl), by exact zp53_0_ HB.out ab.out⟩
   ·replace c19 := Bool.eq_false_iff.mpr c19
    subst c19
    have H1 : (spec_RunDfa.l0 kj3 a2 a1 0 l0_0 l0_1) = some (r1, r2) := by rw [if_neg (show ¬ (false = true) by decide)] at H; exact H
    clear H
    have H := H1
    clear H1
    have H' := am_ H
    clear H
    go_wp2
    repeat (go_quiet (fail); try go_wp2)
    go_loopg [8, 9] kj3 (fun kq v8 v9 w' => ∃ (af : Int) (ag : Int), v8 = .int .i64 af ∧ v9 = .int .i64 ag ∧ Aside0 (spec_RunDfa.l0 kq a2 af ag l0_0 l0_1 = some (r1, r2)) ∧ Aside0 (kq ≤ kj3) ∧ Aside0 (w'.heap[aj]? = some (.cells #[(.slice A0_0 l0_0.length c0_0), (.slice A0_1 l0_1.length c0_1)] 27 (0, 0))) ∧ Aside0 (Below w.heap.size w w'))
    case atStart => exact ⟨(a1), (0), (by first | rfl | (simp; done) | (simp [*]; done)), (by first | rfl | (simp; done) | (simp [*]; done)), H', ⟨Nat.le_refl _⟩, ⟨by refine rb_ ?_; exact aa.out⟩, ⟨by exact zp53_0_ HB.out ab.out⟩⟩
    case round =>
     clear H'
     try clear c1
     try clear p2
     try clear c4
     try clear p6
     try clear c7
     try clear c9
     try clear c19
     try clear aE
     try clear aF
     try clear ao
     try clear ap
     try clear aI
     try clear aJ
     try clear au
     try clear av
     try clear aM
     try clear aN
     try clear aG
     try clear aH
     try clear aq
     try clear ar
     try clear aK
     try clear aL
     try clear aw
     try clear ax
     try clear aO
     try clear aP
     try clear p2
     try clear p6
     obtain ⟨af, ag, rfl, rfl, HA, HK2, aa, HB⟩ := hrel
     cases gk with
     | zero => exact absurd HA.out (by simp [spec_RunDfa.l0])
     | succ k2 =>
      have H := HA.out
      clear HA
      simp only [spec_RunDfa.l0] at H
      by_cases c20 : ag < (a2.size : Int)
      ·rw [if_pos c20] at H
       have c20b0 : decide (ag < (a2.size : Int)) = true := decide_eq_true c20
       clear c20
       by_cases c21 : 0 ≤ af
       ·rw [if_pos c21] at H
        have c21b0 : decide (0 ≤ af) = true := decide_eq_true c21
        clear c21
        by_cases c22 : af < (l0_1.length : Int)
        ·rw [if_pos c22] at H
         have c22b0 : decide (af < (l0_1.length : Int)) = true := decide_eq_true c22
         clear c22
         by_cases c23 : 0 ≤ ag
         ·rw [if_pos c23] at H
          have c23b0 : decide (0 ≤ ag) = true := decide_eq_true c23
          clear c23
          replace H := Option.bind_eq_some_iff.mp H
          obtain ⟨ad, aT, H⟩ := H
          have A25 := am_ aT
          clear aT
          by_cases c26 : 0 ≤ ad
          ·rw [if_pos c26] at H
           have c26b0 : decide (0 ≤ ad) = true := decide_eq_true c26
           clear c26
           by_cases c27 : ad < ((rd_L1 l0_1 af).length : Int)
           ·rw [if_pos c27] at H
            have c27b0 : decide (ad < ((rd_L1 l0_1 af).length : Int)) = true := decide_eq_true c27
            clear c27
            have H' := am_ H
            clear H
            have aU := ck_ (v := (.slice A0_0 l0_0.length c0_0)) aa 0 rfl
            have aV := ck_ (v := (.slice A0_1 l0_1.length c0_1)) aa 1 rfl
            have aW := blk_frozen aa.out 0
            have aX := blk_frozen aa.out 1
            have p932 : 0 ≤ (af : Int) := of_decide_eq_true ah_
            have q932 : af < (l0_1.length : Int) := of_decide_eq_true ah_
            obtain ⟨aZ, A932_0, c932_0, e932, aA, hl932_0, hi932_0⟩ := at_L1 ai.out af p932 q932
            cases e932
            replace aA := (HB.out.cell (World.block_lt_of_cell? w _ aA)).trans aA
            have aB := am_ hi932_0
            have aY := am_ hl932_0
            clear hi932_0 hl932_0
            replace p932 := eq_true p932
            replace q932 := eq_true q932
            have p24 : 0 ≤ (ag : Int) := of_decide_eq_true ah_
            have q24 : ag < (a2.size : Int) := of_decide_eq_true ah_
            have hx24 := bt_at a2 ag
            replace p24 := eq_true p24
            replace q24 := eq_true q24
            go_wp2_with (first | (go_at_call 110; (with_reducible refine (spec_LetterIndex.calls k2 (bt a2 ag) ad _ A25.out).mono ?_); rintro e w' ⟨rfl, ⟨nd, rfl⟩⟩; (try first | exact ⟨rfl, _, World.drewN_drewN _ _ _⟩ | exact ⟨rfl, _, Eq.trans (World.drewN_drewN _ _ _) (congrArg (World.drewN _) (Nat.add_assoc _ _ _))⟩); have p934 : 0 ≤ (ad : Int) := of_decide_eq_true ah_; have q934 : ad < ((rd_L1 l0_1 af).length : Int) := of_decide_eq_true ah_; obtain ⟨aR, e934, ae⟩ := Kd.at_int aB.out ad p934 q934; cases e934; replace ae := (HB.out.cell (World.block_lt_of_cell? w _ ae)).trans ae; replace p934 := eq_true p934; replace q934 := eq_true q934))
            repeat (go_quiet (first | (go_at_call 110; (with_reducible refine (spec_LetterIndex.calls k2 (bt a2 ag) ad _ A25.out).mono ?_); rintro e w' ⟨rfl, ⟨nd, rfl⟩⟩; (try first | exact ⟨rfl, _, World.drewN_drewN _ _ _⟩ | exact ⟨rfl, _, Eq.trans (World.drewN_drewN _ _ _) (congrArg (World.drewN _) (Nat.add_assoc _ _ _))⟩); have p934 : 0 ≤ (ad : Int) := of_decide_eq_true ah_; have q934 : ad < ((rd_L1 l0_1 af).length : Int) := of_decide_eq_true ah_; obtain ⟨aR, e934, ae⟩ := Kd.at_int aB.out ad p934 q934; cases e934; replace ae := (HB.out.cell (World.block_lt_of_cell? w _ ae)).trans ae; replace p934 := eq_true p934; replace q934 := eq_true q934)); try go_wp2_with (first | (go_at_call 110; (with_reducible refine (spec_LetterIndex.calls k2 (bt a2 ag) ad _ A25.out).mono ?_); rintro e w' ⟨rfl, ⟨nd, rfl⟩⟩; (try first | exact ⟨rfl, _, World.drewN_drewN _ _ _⟩ | exact ⟨rfl, _, Eq.trans (World.drewN_drewN _ _ _) (congrArg (World.drewN _) (Nat.add_assoc _ _ _))⟩); have p934 : 0 ≤ (ad : Int) := of_decide_eq_true ah_; have q934 : ad < ((rd_L1 l0_1 af).length : Int) := of_decide_eq_true ah_; obtain ⟨aR, e934, ae⟩ := Kd.at_int aB.out ad p934 q934; cases e934; replace ae := (HB.out.cell (World.block_lt_of_cell? w _ ae)).trans ae; replace p934 := eq_true p934; replace q934 := eq_true q934)))
            go_roundg k2
            case measure => have := HJ3.out; have := HK2.out; omega
            case rel => exact ⟨(rd (rd_L1 l0_1 af) ad), (wrap64 (ag + 1)), (by first | rfl | (simp; done) | (simp [*]; done)), (by first | rfl | (simp; done) | (simp [*]; done)), H', ⟨by have := HJ3.out; have := HK2.out; omega⟩, ⟨by refine rb_ ?_; exact aa.out⟩, ⟨by exact zp53_0_ HB.out ab.out⟩⟩
           ·rw [if_neg c27] at H
            exact absurd H (by simp)
          ·rw [if_neg c26] at H
           exact absurd H (by simp)
         ·rw [if_neg c23] at H
          exact absurd H (by simp)
        ·rw [if_neg c22] at H
         exact absurd H (by simp)
       ·rw [if_neg c21] at H
        exact absurd H (by simp)
      ·rw [if_neg c20] at H
       have c20b0 : decide (ag < (a2.size : Int)) = false := decide_eq_false c20
       clear c20
       simp only [Option.some.injEq, Prod.mk.injEq] at H
       obtain ⟨rfl, rfl⟩ := H
       go_wp2
       repeat (go_quiet (fail); try go_wp2)
       go_ret2
       exact ⟨by first | rfl | (simp [errW_none, errW_some] <;> rfl) | (simp [*, errW_none, errW_some] <;> rfl), by exact zp53_0_ HB.out ab.out⟩
end Go.Proofs.Ytogamkblkoobkaa.P
end
section
namespace Go.Proofs.Ytogamkblkoobkaa.Pl
open Go.RowKit Go.Proofs.Ytogamkblkoobkaa.P Go.Proofs.YtogamkblkoobkaaW.PrintWords Go.Proofs.YtogamkblkoobkaaW.PrintLast Go.Proofs.YtogamkblkoobkaaW.PrintMore Wk
set_option linter.unusedVariables false
set_option linter.unusedSimpArgs false
def runD (nxt : List (List Int)) (q : Int) (l : List Int) : Int := l.foldl (fun q b => rd (rd_L1 nxt q) (letIdx b)) q
theorem lets_cons {b : Int} {l : List Int} : lets (b :: l) = true ↔ 0 ≤ letIdx b ∧ lets l = true := by simp [lets]
theorem spec_run_l0 (acc : List Bool) (nxt : List (List Int)) (hv : validD acc nxt = true) (s : ByteArray) (hs : s.size ≤ 140737488351232) : ∀ (d i : Nat) (q : Int), i + d = s.size → lets ((bytesOf s).drop i) = true → 0 ≤ q → q < (acc.length : Int) → Ev (fun k => spec_RunDfa.l0 k s q i acc nxt) (runD nxt q ((bytesOf s).drop i), true) := by
  have hl := (valid_facts hv).2.2.1
  intro d
  induction d with
  | zero =>
    intro i q h hw h0 h1
    refine next ?_
    simp only [spec_RunDfa.l0, if_neg (show ¬ (i : Int) < (s.size : Int) by omega), drop_end s i (by omega)]
    exact Ev.now _
  | succ d ih =>
    intro i q h hw h0 h1
    rw [drop_cons s i (by omega)] at hw ⊢
    have hb := lets_cons.mp hw
    have hlr := letIdx_range (bt s i)
    have hn := next_range hv q h0 h1 (letIdx (bt s i)) hb.1 (by omega)
    refine next ?_
    simp only [spec_RunDfa.l0, if_pos (show (i : Int) < (s.size : Int) by omega), if_pos h0, if_pos (show q < (nxt.length : Int) by omega), if_pos (show (0 : Int) ≤ i by omega)]
    refine Ev.bind (spec_letter _) ?_
    simp only [if_pos hb.1, hn.1, if_pos (show letIdx (bt s i) < ((3 : Nat) : Int) by omega), up1 (show i < 9223372036854775807 by omega)]
    exact ih (i + 1) _ (by omega) hb.2 hn.2.1 hn.2.2
theorem impl_run_l0 (acc : List Bool) (nxt : List (List Int)) (hv : validD acc nxt = true) (s : ByteArray) (hs : s.size ≤ 140737488351232) : ∀ (d i : Nat) (q : Int), i + d = s.size → lets ((bytesOf s).drop i) = true → 0 ≤ q → q < (acc.length : Int) → Ev (fun k => impl_after.l0 k q s i acc nxt) (runD nxt q ((bytesOf s).drop i)) := by
  have hl := (valid_facts hv).2.2.1
  intro d
  induction d with
  | zero =>
    intro i q h hw h0 h1
    refine next ?_
    simp only [impl_after.l0, if_neg (show ¬ (i : Int) < (s.size : Int) by omega), drop_end s i (by omega)]
    exact Ev.now _
  | succ d ih =>
    intro i q h hw h0 h1
    rw [drop_cons s i (by omega)] at hw ⊢
    have hb := lets_cons.mp hw
    have hlr := letIdx_range (bt s i)
    have hn := next_range hv q h0 h1 (letIdx (bt s i)) hb.1 (by omega)
    refine next ?_
    simp only [impl_after.l0, if_pos (show (i : Int) < (s.size : Int) by omega), if_pos h0, if_pos (show q < (nxt.length : Int) by omega), if_pos (show (0 : Int) ≤ i by omega), impl_letter (bt_range s i).1 (bt_range s i).2, Option.bind_some, if_pos hb.1, hn.1, if_pos (show letIdx (bt s i) < ((3 : Nat) : Int) by omega), up1 (show i < 9223372036854775807 by omega)]
    exact ih (i + 1) _ (by omega) hb.2 hn.2.1 hn.2.2
def runOf (acc : List Bool) (nxt : List (List Int)) (q : Int) (s : ByteArray) : Int × Bool :=
  if validD acc nxt = true ∧ 0 ≤ q ∧ q ≤ (acc.length : Int) - 1 ∧ word s = true then (runD nxt q (bytesOf s), true) else (0, false)
theorem spec_run (acc : List Bool) (nxt : List (List Int)) (ha : acc.length ≤ 1048576) (hn : nxt.length ≤ 1048576) (q : Int) (s : ByteArray) (hs : s.size ≤ 140737488351232) : Ev (fun k => spec_RunDfa.f k acc nxt q s) (runOf acc nxt q s) := by
  have jt : Ev (fun k => spec_RunDfa.j0 k q s true acc nxt) (0, false) := by
    refine next ?_
    simp only [spec_RunDfa.j0, if_true]
    exact Ev.now _
  have hw : wrap64 ((acc.length : Int) - 1) = (acc.length : Int) - 1 := w64 (by omega) (by omega)
  simp only [spec_RunDfa.f, hw, spec_in, Option.bind_some, runOf]
  refine Ev.bind (spec_valid acc nxt ha hn) ?_
  by_cases hv : validD acc nxt = true
  · simp only [hv, if_true, true_and]
    by_cases hq : 0 ≤ q ∧ q ≤ (acc.length : Int) - 1
    · simp only [decide_eq_true hq.1, decide_eq_true hq.2, Bool.true_and, if_true, hq.1, hq.2, true_and]
      refine Ev.bind (spec_word s hs) ?_
      by_cases hwd : word s = true
      · simp only [hwd, Bool.not_true, if_true]
        refine next ?_
        simp only [spec_RunDfa.j0, Bool.false_ne_true, if_false]
        refine spec_run_l0 acc nxt hv s hs s.size 0 q (by omega) ?_ hq.1 (by omega)
        simp only [word, Bool.and_eq_true] at hwd
        exact hwd.1
      · simp only [eq_false_of_ne_true hwd, Bool.not_false, Bool.false_ne_true, if_false]
        exact jt
    · have e : (decide (0 ≤ q) && decide (q ≤ (acc.length : Int) - 1)) = false := by
        by_cases h1 : 0 ≤ q
        · rw [decide_eq_false (show ¬ q ≤ (acc.length : Int) - 1 by omega), Bool.and_false]
        · rw [decide_eq_false h1, Bool.false_and]
      simp only [e, Bool.false_ne_true, if_false]
      rw [if_neg (by rintro ⟨h1, h2, _⟩; exact hq ⟨h1, h2⟩)]
      exact jt
  · simp only [hv, if_false, false_and]
    exact jt
theorem impl_run (acc : List Bool) (nxt : List (List Int)) (q : Int) (ha : acc.length ≤ 1048576) (s : ByteArray) (hs : s.size ≤ 140737488351232) : Ev (fun k => impl_RunDfa.f k acc nxt q s) (runOf acc nxt q s) := by
  have hw : wrap64 ((acc.length : Int) - 1) = (acc.length : Int) - 1 := w64 (by omega) (by omega)
  simp only [impl_RunDfa.f, impl_IsValidDfa.f, hw, impl_in, Option.bind_some, runOf]
  by_cases hv : validD acc nxt = true
  · simp only [hv, if_true, true_and]
    by_cases hq : 0 ≤ q ∧ q ≤ (acc.length : Int) - 1
    · simp only [decide_eq_true hq.1, decide_eq_true hq.2, Bool.true_and, if_true, hq.1, hq.2, true_and]
      refine Ev.bind (impl_word s hs) ?_
      by_cases hwd : word s = true
      · simp only [hwd, if_true]
        refine Ev.bind (impl_run_l0 acc nxt hv s hs s.size 0 q (by omega) ?_ hq.1 (by omega)) (Ev.now _)
        simp only [word, Bool.and_eq_true] at hwd
        exact hwd.1
      · simp only [eq_false_of_ne_true hwd, Bool.false_ne_true, if_false]
        exact Ev.now _
    · have e : (decide (0 ≤ q) && decide (q ≤ (acc.length : Int) - 1)) = false := by
        by_cases h1 : 0 ≤ q
        · rw [decide_eq_false (show ¬ q ≤ (acc.length : Int) - 1 by omega), Bool.and_false]
        · rw [decide_eq_false h1, Bool.false_and]
      simp only [e, Bool.false_ne_true, if_false]
      rw [if_neg (by rintro ⟨h1, h2, _⟩; exact hq ⟨h1, h2⟩)]
      exact Ev.now _
  · simp only [hv, if_false, false_and]
    exact Ev.now _
theorem runD_range {acc : List Bool} {nxt : List (List Int)} (hv : validD acc nxt = true) : ∀ (l : List Int) (q : Int), lets l = true → 0 ≤ q → q < (acc.length : Int) → 0 ≤ runD nxt q l ∧ runD nxt q l < (acc.length : Int) := by
  intro l
  induction l with
  | nil => intro q _ h0 h1; exact ⟨h0, h1⟩
  | cons b l ih =>
    intro q hw h0 h1
    have hb := lets_cons.mp hw
    have hlr := letIdx_range b
    have hn := next_range hv q h0 h1 (letIdx b) hb.1 (by omega)
    exact ih _ hb.2 hn.2.1 hn.2.2
def accOf (acc : List Bool) (nxt : List (List Int)) (s : ByteArray) : Bool := validD acc nxt && word s && rdOf false acc (runD nxt 0 (bytesOf s))
theorem runOf_zero (acc : List Bool) (nxt : List (List Int)) (s : ByteArray) : (runOf acc nxt 0 s).2 = (validD acc nxt && word s) ∧ ((runOf acc nxt 0 s).2 = true → (runOf acc nxt 0 s).1 = runD nxt 0 (bytesOf s) ∧ 0 ≤ runD nxt 0 (bytesOf s) ∧ runD nxt 0 (bytesOf s) < (acc.length : Int)) := by
  unfold runOf
  by_cases hv : validD acc nxt = true
  · have hf := valid_facts hv
    by_cases hwd : word s = true
    · rw [if_pos ⟨hv, by omega, by omega, hwd⟩]
      simp only [word, Bool.and_eq_true] at hwd
      exact ⟨by simp [hv, word, hwd.1, hwd.2], fun _ => ⟨rfl, runD_range hv _ 0 hwd.1 (by omega) (by omega)⟩⟩
    · rw [if_neg (by rintro ⟨_, _, _, h⟩; exact hwd h)]
      exact ⟨by simp [hwd], fun h => by cases h⟩
  · rw [if_neg (by rintro ⟨h, _⟩; exact hv h)]
    exact ⟨by simp [hv], fun h => by cases h⟩
theorem impl_acc (acc : List Bool) (nxt : List (List Int)) (ha : acc.length ≤ 1048576) (s : ByteArray) (hs : s.size ≤ 140737488351232) : Ev (fun k => impl_AcceptsWord.f k acc nxt s) (accOf acc nxt s) := by
  simp only [impl_AcceptsWord.f]
  refine Ev.bind (impl_run acc nxt 0 ha s hs) ?_
  obtain ⟨h1, h2⟩ := runOf_zero acc nxt s
  by_cases h : (runOf acc nxt 0 s).2 = true
  · obtain ⟨e, r0, r1⟩ := h2 h
    rw [h] at h1
    simp only [h, if_true, e, if_pos r0, if_pos r1]
    exact ev_some (by unfold accOf; rw [← h1, Bool.true_and])
  · simp only [eq_false_of_ne_true h, Bool.false_ne_true, if_false]
    rw [eq_false_of_ne_true h] at h1
    exact ev_some (by unfold accOf; rw [← h1, Bool.false_and])
end Go.Proofs.Ytogamkblkoobkaa.Pl
end
section
namespace Go.Proofs.Ytogamkblkoobkaa.Wk
open Go.RowKit Go.Shelf Go.Proofs.Ytogamkblkoobkaa.P Go.Proofs.Ytogamkblkoobkaa.Pl Go.Proofs.Ytogamkblkoobkaa.Mp Go.Proofs.Ytogamkblkoobkaa.Bf Go.Proofs.YtogamkblkoobkaaW.PrintWords Go.Proofs.YtogamkblkoobkaaW.PrintLast Go.Proofs.YtogamkblkoobkaaW.PrintMore
set_option linter.unusedVariables false
set_option linter.unusedSimpArgs false
abbrev Pr := Int × Int
def encP (x : Pr) : Value := .agg #[.int .i64 x.1, .int .i64 x.2]
abbrev wfP (x : Pr) : Prop := wfI x.1 ∧ wfI x.2
abbrev kdP : Kd Pr := Kd.pair (Kd.int .i64) (Kd.int .i64)
theorem laidOutP : laidOutB Try.prog = true := by kernel_rfl
theorem arrP : Go.WideMaps.ArrKey Try.prog 72 3 2 := ⟨Try.underlying72, by kernel_rfl, by kernel_rfl, by kernel_rfl⟩
theorem keyP (x : Pr) (h : wfP x) : ∃ l, keyOf Try.prog 72 (encP x) = some l := ⟨_, Go.WideMaps.keyOf_pair arrP Try.underlying3 ⟨Try.prog.types.size - 1, by have : 0 < Try.prog.types.size := of_decide_eq_true (by kernel_rfl); omega⟩ h.1 h.2⟩
theorem mapP : MapTy Try.prog 121 72 3 .i64 encP wfP where
  K := Go.Maps.Keyed.of_law (deep_law_laid laidOutP (m := 2) (by omega) (of_decide_eq_true (by kernel_rfl)) (by kernel_rfl) (by rw [Try.underlying72]))
  ht := Try.underlying121
  he := Try.underlying3
  hz := fun w => by kernel_rfl
  key := keyP
  inj := fun x y h => by
    unfold encP at h
    injection h with h
    have h1 := congrArg (fun z : Array Value => z[0]?) h
    have h2 := congrArg (fun z : Array Value => z[1]?) h
    simp at h1 h2
    exact Prod.ext h1 h2
theorem infoP : (Try.prog.info? 72).map (fun i => (i.zero, i.size, i.bytes)) = some (some (.agg #[.int .i64 0, .int .i64 0]), 2, 16) := by kernel_rfl
theorem cell_grown {w w' : World} {row : Option Nat} (hg : w.grownBy w' row) {a : Addr} (hlt : a.block < w.heap.size) (hne : some a.block ≠ row) {v : Value} (h : w.cell? a = some v) : w'.cell? a = some v := (World.cell?_of_block (hg.block _ hlt hne)).trans h
theorem at_pair {w : World} {A : Option Addr} {n : Nat} {xs : List Pr} (h : kdP.C w A n xs) (i : Nat) (hi : i < xs.length) (hn : n = xs.length) : ∃ ad, A = some ad ∧ w.cell? (ad.add (i * 2)) = some (.int .i64 xs[i].1) ∧ w.cell? ⟨(ad.add (i * 2)).block, (ad.add (i * 2)).off + 1, none⟩ = some (.int .i64 xs[i].2) := by
  obtain ⟨ad, c, hA, hl, hk, hc⟩ := Kd.C_get h (0, 0) (i : Int) (by omega) (by omega)
  rw [Int.toNat_natCast] at hk hc
  have e : xs.getD i (0, 0) = xs[i] := by rw [List.getD_eq_getElem?_getD, List.getElem?_eq_getElem hi]; rfl
  rw [e] at hk
  obtain ⟨c0, c1, rfl, h0, h1⟩ := hk
  have h0' : c0 = [.int .i64 xs[i].1] := h0
  have h1' : c1 = [.int .i64 xs[i].2] := h1
  subst h0'
  subst h1'
  have q0 := hc 0 _ rfl
  have q1 := hc 1 _ rfl
  refine ⟨ad, hA, q0, ?_⟩
  obtain ⟨b, o, sp⟩ := ad
  have hs : kdP.sz = 2 := rfl
  rw [hs] at q0 q1
  by_cases hi0 : i = 0
  · subst hi0
    have hsp : sp = none := by
      have := World.cell?_spot q0
      simpa [Addr.add] using this
    subst hsp
    simpa [Addr.add] using q1
  · have e1 : (⟨b, o, sp⟩ : Addr).add (i * 2) = ⟨b, o + i * 2, none⟩ := by simp [Addr.add] <;> omega
    have e2 : (⟨b, o, sp⟩ : Addr).add (i * 2 + 1) = ⟨b, o + i * 2 + 1, none⟩ := by simp [Addr.add] <;> omega
    rw [e1]
    rw [e2] at q1
    exact q1
abbrev IsMP (w : World) (b : Nat) (m : Pr → Option Int) (c : Nat) : Prop := MapIs Try.prog 72 3 .i64 encP wfP w b m c
end Go.Proofs.Ytogamkblkoobkaa.Wk
end
section
namespace Go.Proofs.Ytogamkblkoobkaa.Wk
open Go.RowKit Go.Shelf Go.Proofs.Ytogamkblkoobkaa.P Go.Proofs.Ytogamkblkoobkaa.Pl Go.Proofs.Ytogamkblkoobkaa.Mp Go.Proofs.Ytogamkblkoobkaa.Bf Go.Proofs.YtogamkblkoobkaaW.PrintWords Go.Proofs.YtogamkblkoobkaaW.PrintLast Go.Proofs.YtogamkblkoobkaaW.PrintMore
set_option linter.unusedVariables false
set_option linter.unusedSimpArgs false
section
variable {P : Program} {md : Region.Mode} {ops : Array Oper} {Q : Exit → Act → World → Prop}
theorem goesFn_ {oi : Oper} {N : Option Tmp} {a : Act} {w : World} {K : Act → World → Prop} (g : FuncId) (lb : Array Value) (t : Operand) {ar : Array Operand} {ts : Array TypeId} (args : Array Value) (eg : ∀ args w, (callFunc g args).run P w = .ok (.enter g args) w)
    (hw : Region.wanted oi (yielded ops a.tmps) = true) (hN : oi.dst = N) (hop : oi.op = .call { callee := .value t, args := ar, argTypes := ts }) (ht : a.eval t = .func (.func g) #[] lb) (hargs : ar.map a.eval = args)
    (h : Calls P g (args ++ lb) w fun e w' => ∃ v, e = .returned v ∧ K (a.put N v) w') : if Region.wanted oi (yielded ops a.tmps) = true then Oper.wp P oi a w K Q else K (a.put N undef) w := by
  refine call_ g (args ++ lb) hw hN ?_ h
  unfold execOp
  simp [hop, resolve, Deferred.ofValue, invoke, ht, hargs, eg]
end
def Tn1 : Bool × List (List Nat × List Nat) := (true, [([], []), ([0], [0]), ([], []), ([2], [2]), ([1, 3], [1, 3]), ([4], [4]), ([], []), ([5, 6], [5, 6]), ([7], [7]), ([], []), ([9], [9]), ([], []), ([11], [11]), ([10, 12], [10, 12]), ([13], [13]), ([], []), ([14, 15], [14, 15]), ([16], [16]), ([8, 17], [8, 17]), ([18, 0, 1, 2, 3, 4, 5, 6, 7, 8, 9, 10, 11, 12, 13, 14, 15, 16, 17, 18], [18])])
def Bn1 : List Nat := [0, 1, 0, 4, 15, 31, 0, 127, 255, 0, 512, 0, 2048, 7680, 15872, 0, 65024, 130560, 262143, 524287]
def nxP (l1 m1 : List (List Int)) (x : Pr) (j : Nat) : Pr := (nxD l1 x.1 j, nxD m1 x.2 j)
def gdP (good : Bool → Bool → Bool) (l0 m0 : List Bool) (x : Pr) : Bool := good (rdOf false l0 x.1) (rdOf false m0 x.2)
theorem card_pairs (n m : Nat) (s : List Pr) (hn : s.Nodup) (h : ∀ x ∈ s, (0 ≤ x.1 ∧ x.1 < n) ∧ 0 ≤ x.2 ∧ x.2 < m) : s.length ≤ n * m := by
  have h1 := nodup_le s ((List.range (n * m)).map fun (i : Nat) => (((i / m : Nat) : Int), ((i % m : Nat) : Int))) hn (fun x hx => by
    obtain ⟨⟨a1, a2⟩, b1, b2⟩ := h x hx
    obtain ⟨p, hp⟩ := Int.eq_ofNat_of_zero_le a1
    obtain ⟨q, hq⟩ := Int.eq_ofNat_of_zero_le b1
    have hq2 : q < m := by omega
    have hp2 : p < n := by omega
    refine List.mem_map.mpr ⟨p * m + q, List.mem_range.mpr ?_, ?_⟩
    · calc p * m + q < p * m + m := by omega
        _ = (p + 1) * m := by rw [Nat.succ_mul]
        _ ≤ n * m := Nat.mul_le_mul_right m hp2
    · have e1 : (p * m + q) / m = p := by rw [Nat.mul_comm, Nat.mul_add_div (by omega), Nat.div_eq_of_lt hq2, Nat.add_zero]
      have e2 : (p * m + q) % m = q := by rw [Nat.mul_comm, Nat.mul_add_mod, Nat.mod_eq_of_lt hq2]
      rw [e1, e2]
      exact Prod.ext hp.symm hq.symm)
  simpa using h1
end Go.Proofs.Ytogamkblkoobkaa.Wk
end
section
namespace Go.Proofs.Ytogamkblkoobkaa.Can
open Go.RowKit Go.Proofs.Ytogamkblkoobkaa Go.Proofs.Ytogamkblkoobkaa.P Go.Proofs.Ytogamkblkoobkaa.Wk Go.Proofs.Ytogamkblkoobkaa.Lg Go.Proofs.Ytogamkblkoobkaa.Pl Go.Proofs.Ytogamkblkoobkaa.Mp Go.Proofs.Ytogamkblkoobkaa.Bf Go.Proofs.Ytogamkblkoobkaa.Mn Go.Proofs.YtogamkblkoobkaaW.PrintWords Go.Proofs.YtogamkblkoobkaaW.PrintLast Go.Proofs.YtogamkblkoobkaaW.PrintMore
set_option linter.unusedVariables false
set_option linter.unusedSimpArgs false
set_option linter.unusedSectionVars false
def Rows3 (n : Nat) (nx : List (List Int)) : Prop := nx.length = n ∧ ∀ r ∈ nx, r.length = 3 ∧ ∀ q ∈ r, 0 ≤ q ∧ q < (n : Int)
theorem fits_rows {acc : List Bool} {nx : List (List Int)} (h : Rows3 acc.length nx) : Fits acc nx := by
  refine ⟨h.1, fun q hq => ?_⟩
  have hlt : q.toNat < nx.length := by have := h.1; omega
  unfold rowOf
  rw [List.getD_eq_getElem?_getD, List.getElem?_eq_getElem hlt]
  exact h.2 _ (List.getElem_mem hlt)
theorem outL_rows {L : Lan} {R : List Lan} (hR : Runs lsucc [L] 0 R) : Rows3 (outL R).1.length (outL R).2 := by
  have hcl := hR.closed (fun j _ hj => by omega)
  have hlen : (outL R).1.length = R.length := by simp [outL]
  refine ⟨by simp [outL], fun r hr => ?_⟩
  obtain ⟨X, hX, rfl⟩ := List.mem_map.mp hr
  refine ⟨by simp [lsucc], fun q hq => ?_⟩
  obtain ⟨Y, hY, rfl⟩ := List.mem_map.mp hq
  have := List.idxOf_lt_length_of_mem (hcl X hX Y hY)
  rw [hlen]
  omega
theorem outL_run {L : Lan} {R : List Lan} (hR : Runs lsucc [L] 0 R) : ∀ (w : List (Fin 3)) (i : Nat) (hi : i < R.length), run (outL R).1 (outL R).2 w (i : Int) = R[i] w := by
  have hcl := hR.closed (fun j _ hj => by omega)
  intro w
  induction w with
  | nil =>
    intro i hi
    show rdOf false (R.map eps) (i : Int) = _
    rw [rdOf_get false _ i (by simpa using hi), List.getElem_map]
    rfl
  | cons k w ih =>
    intro i hi
    show run _ _ w (rd (rowOf (outL R).2 (i : Int)) (k.val : Int)) = _
    have hrow : rowOf (outL R).2 (i : Int) = (lsucc R[i]).map (fun Y => (R.idxOf Y : Int)) := by
      unfold rowOf outL
      rw [Int.toNat_natCast, List.getD_eq_getElem?_getD, List.getElem?_eq_getElem (by simpa using hi), Option.getD_some, List.getElem_map]
    have hk : rd ((lsucc R[i]).map (fun Y => (R.idxOf Y : Int))) (k.val : Int) = (R.idxOf (der R[i] k) : Int) := by
      match k with
      | 0 => rfl
      | 1 => rfl
      | 2 => rfl
    have hm : der R[i] k ∈ R := by
      refine hcl _ (List.getElem_mem hi) _ ?_
      match k with
      | 0 => simp [lsucc]
      | 1 => simp [lsucc]
      | 2 => simp [lsucc]
    rw [hrow, hk, ih _ (List.idxOf_lt_length_of_mem hm), List.getElem_idxOf (List.idxOf_lt_length_of_mem hm)]
    rfl
theorem IsCan.facts {L : Lan} {out : List Bool × List (List Int)} (h : IsCan L out) : 1 ≤ out.1.length ∧ Rows3 out.1.length out.2 ∧ lang out.1 out.2 0 = L := by
  obtain ⟨R, hR, rfl⟩ := h
  obtain ⟨t, rfl⟩ := hR.pre
  refine ⟨by simp [outL], outL_rows hR, funext fun w => ?_⟩
  exact outL_run hR w 0 (by simp)
theorem valid_of {acc : List Bool} {nx : List (List Int)} (h1 : 1 ≤ acc.length) (h2 : acc.length ≤ 40) (h3 : Rows3 acc.length nx) : validD acc nx = true := by
  unfold validD
  rw [decide_eq_true h1, decide_eq_true h2, decide_eq_true h3.1, Bool.and_self, Bool.and_self, Bool.true_and, Bool.not_eq_true', List.any_eq_false]
  intro r hr
  obtain ⟨h4, h5⟩ := h3.2 r hr
  unfold badRow
  rw [Bool.not_eq_true, Bool.or_eq_false_iff]
  refine ⟨decide_eq_false (by omega), ?_⟩
  rw [List.any_eq_false]
  intro q hq
  obtain ⟨h6, h7⟩ := h5 q hq
  unfold badState
  rw [decide_eq_true h6, decide_eq_true (show q ≤ (acc.length : Int) - 1 by omega)]
  decide
section
variable {a b : List Bool} {n m : List (List Int)}
theorem pair_dom (hv : validD a n = true) (hw : validD b m = true) : ∀ (x : Pr) (j : Nat), ((0 ≤ x.1 ∧ x.1 < (a.length : Int)) ∧ 0 ≤ x.2 ∧ x.2 < (b.length : Int)) → j < 3 → ((0 ≤ (nxP n m x j).1 ∧ (nxP n m x j).1 < (a.length : Int)) ∧ 0 ≤ (nxP n m x j).2 ∧ (nxP n m x j).2 < (b.length : Int)) := by
  intro x j hx hj
  have f1 := (fits_valid hv).row x.1 hx.1
  have f2 := (fits_valid hw).row x.2 hx.2
  refine ⟨f1.2 _ ?_, f2.2 _ ?_⟩
  · show rd (rowOf n x.1) (j : Int) ∈ rowOf n x.1
    rw [rd_get _ j (by omega)]
    exact List.getElem_mem _
  · show rd (rowOf m x.2) (j : Int) ∈ rowOf m x.2
    rw [rd_get _ j (by omega)]
    exact List.getElem_mem _
end
end Go.Proofs.Ytogamkblkoobkaa.Can
end
section
namespace Go.Proofs.Ytogamkblkoobkaa.Bf
open Go.RowKit Go.Proofs.Ytogamkblkoobkaa.Pl Go.Proofs.Ytogamkblkoobkaa.Mp Go.Proofs.YtogamkblkoobkaaW.PrintWords Go.Proofs.YtogamkblkoobkaaW.PrintLast Go.Proofs.YtogamkblkoobkaaW.PrintMore
set_option linter.unusedVariables false
set_option linter.unusedSimpArgs false
set_option linter.unusedSectionVars false
section
variable {α : Type} [DecidableEq α]
def exRow (nx : α → Nat → α) (most : Nat) (x : α) : Nat → Nat → List α → List Int → Option (List α × List Int)
  | 0, _, L, row => some (L, row)
  | d + 1, j, L, row => if nx x j ∈ L then exRow nx most x d (j + 1) L (row ++ [(idx L (nx x j)).getD 0]) else if most < L.length + 1 then none else exRow nx most x d (j + 1) (L ++ [nx x j]) (row ++ [(L.length : Int)])
abbrev Ex (α : Type) := List α × List Bool × List (List Int)
def expl (acc : α → Bool) (nx : α → Nat → α) (most : Nat) : Nat → Ex α → Nat → Option (Ex α)
  | 0, p, _ => some p
  | d + 1, p, i => if h : i < p.1.length then (exRow nx most p.1[i] 3 0 p.1 []).bind (fun q => expl acc nx most d (q.1, p.2.1 ++ [acc p.1[i]], p.2.2 ++ [q.2]) (i + 1)) else some p
end
end Go.Proofs.Ytogamkblkoobkaa.Bf
end
section
namespace Go.Proofs.Ytogamkblkoobkaa.Wk
open Go.RowKit Go.Shelf Go.Proofs.Ytogamkblkoobkaa.P Go.Proofs.Ytogamkblkoobkaa.Pl Go.Proofs.Ytogamkblkoobkaa.Mp Go.Proofs.Ytogamkblkoobkaa.Bf Go.Proofs.Ytogamkblkoobkaa.Mn Go.Proofs.YtogamkblkoobkaaW.PrintWords Go.Proofs.YtogamkblkoobkaaW.PrintLast Go.Proofs.YtogamkblkoobkaaW.PrintMore
set_option linter.unusedVariables false
set_option linter.unusedSimpArgs false
theorem results_ctt {P : Program} {fn : Func} {p u v : Tmp} {ty : TypeId} (h : fn.results = #[.cell p ty, .tmp u, .tmp v]) (tmps : Array Value) (w : World) (g : Nat) (t : TypeId) (cs : Array Value) (fr : Nat × Nat) (d : TypeDesc)
    (hp : tmps.getD p undef = .pointer (some ⟨g, 0, none⟩)) (hg : w.heap[g]? = some (.cells cs t fr))
    (hu : P.underlying ty = some d) (hd : (match d with | .struct _ | .array _ _ => true | _ => false) = true) (hi : (P.info? ty).map (·.size) = some cs.size) :
    (results fn tmps).run P w = .ok (.tuple #[.agg cs, tmps.getD u undef, tmps.getD v undef]) w := by
  have hp' : tmps[p]?.getD undef = .pointer (some ⟨g, 0, none⟩) := by simpa using hp
  simp [results, h, hp', asAddr, run_loadVar_row w g t ty cs fr d hg hu hd hi]
theorem S_over_map {P : Program} {k e : TypeId} {q : IntKind} {α β : Type} {enc : α → Value} {okk : α → Prop} {w w' : World} {b c : Nat} {m : α → Option Int} {d : Kd β} {e' base : Nat} {ok : Nat → Prop} {v : Value} {xs : List β} (h : Kd.S d e' w base ok v xs) (hM : MapIs P k e q enc okk w b m c) (hg : w.grownBy w' (some b)) : Kd.S d e' w' base ok v xs := by
  obtain ⟨f, h⟩ := h
  exact ⟨f, R_over_map h hM hg⟩
theorem map_ne {P : Program} {k e : TypeId} {q : IntKind} {α : Type} {enc : α → Value} {okk : α → Prop} {w : World} {b c g : Nat} {m : α → Option Int} {t : TypeId} {cells : Array Value} (hM : MapIs P k e q enc okk w b m c) (h : w.heap[g]? = some (.cells cells t (0, 0))) : some g ≠ some b := by
  obtain ⟨D, ⟨es, clock, hb, _⟩, _⟩ := hM
  intro he
  injection he with he
  subst he
  rw [h] at hb
  cases hb
def T21x : Bool × List (List Nat × List Nat) := (true, [([], []), ([0], [0]), ([], []), ([], []), ([], []), ([3, 4], [3, 4]), ([5], [5]), ([2, 6], [2, 6]), ([7], [7]), ([1, 8, 7], [1, 8]), ([0, 1, 2, 3, 4, 5, 6, 7, 8, 9], []), ([10, 9, 9, 0, 1, 2, 3, 4, 5, 6, 7, 8, 9], [9, 10])])
def B21x : List Nat := [0, 1, 0, 0, 0, 24, 56, 124, 252, 511, 1023, 2047]
theorem tab21x : rtab .any (opsOf Try.f65 21) = T21x := by kernel_rfl
theorem bits21x : waitsOk T21x.2 B21x = true := by kernel_rfl
structure MemX (w w' : World) (ok : Nat → Prop) (vl : Value) (gm g8 g13 : Nat) (L Lm : List Pr) (A : List Bool) (M : List (List Int)) (u0 u1 b0 b1 : Value) : Prop where
  list : Kd.R kdP 72 w' w.heap.size (fun _ => True) vl L
  map : IsMP w' gm (idx Lm) Lm.length
  acc : Kd.R Kd.bool 4 w' w.heap.size (fun _ => True) u0 A
  rows : Kd.S (Kd.slice 3 (Kd.int .i64)) 67 w' w.heap.size ok u1 M
  box : w'.heap[g13]? = some (.cells #[b0, b1] 27 (0, 0))
  res : w'.heap[g8]? = some (.cells #[.slice none 0 0, .slice none 0 0] 27 (0, 0))
  bel : Below w.heap.size w w'
section
variable {w w' w2 : World} {ok : Nat → Prop} {vl : Value} {gm g8 g13 : Nat} {L Lm : List Pr} {A : List Bool} {M : List (List Int)} {u0 u1 b0 b1 : Value}
theorem MemX.below (h : MemX w w' ok vl gm g8 g13 L Lm A M u0 u1 b0 b1) (hb : Below w'.heap.size w' w2) : MemX w w2 ok vl gm g8 g13 L Lm A M u0 u1 b0 b1 :=
  ⟨Kd.R_below h.list hb, h.map.below hb, Kd.R_below h.acc hb, Kd.S_below h.rows hb, blk_below h.box hb, blk_below h.res hb, below_then h.bel h.bel.size hb⟩
theorem MemX.tight (h : MemX w w' ok vl gm g8 g13 L Lm A M u0 u1 b0 b1) : MemX w w' (fun b => b < w'.heap.size) vl gm g8 g13 L Lm A M u0 u1 b0 b1 :=
  ⟨h.list, h.map, h.acc, Kd.S_mono (Kd.S_bound h.rows) (fun b hb => hb.2.2.1), h.box, h.res, h.bel⟩
theorem own_at {W : World} {v v1 : Value} {N : Nat} (hat : v1.ownBlock = v.ownBlock ∨ ∃ b, v1.ownBlock = some b ∧ W.heap.size ≤ b) (ho : ∀ k, v.ownBlock = some k → N ≤ k) (hs : N ≤ W.heap.size) : ∀ k, v1.ownBlock = some k → N ≤ k := fun k hk => by
  rcases hat with h | ⟨b, hb, hle⟩
  · exact ho k (h ▸ hk)
  · rw [hb] at hk
    injection hk with hk
    omega
theorem MemX.mapped {Ln : List Pr} (h : MemX w w' ok vl gm g8 g13 L Lm A M u0 u1 b0 b1) (hg : w'.grownBy w2 (some gm)) (hgm : w.heap.size ≤ gm) (hm : IsMP w2 gm (idx Ln) Ln.length) : MemX w w2 ok vl gm g8 g13 L Ln A M u0 u1 b0 b1 :=
  ⟨R_over_map h.list h.map hg, hm, R_over_map h.acc h.map hg, S_over_map h.rows h.map hg, blk_grown h.box hg (map_ne h.map h.box), blk_grown h.res hg (map_ne h.map h.res), below_map h.bel hg hgm⟩
theorem MemX.listed {vn : Value} {Ln : List Pr} (h : MemX w w' ok vl gm g8 g13 L Lm A M u0 u1 b0 b1) (hg : w'.grownBy w2 vl.ownBlock) (ho : Kd.R kdP 72 w2 w.heap.size (fun _ => True) vn Ln) (hb : Below w.heap.size w w2) : MemX w w2 ok vn gm g8 g13 Ln Lm A M u0 u1 b0 b1 :=
  ⟨ho, h.map.kept hg (h.map.not_row (Kd.R_typed h.list)), Kd.R_over' h.acc (Kd.R_typed h.list) (by decide) hg, Kd.S_over' h.rows (Kd.R_typed h.list) (by decide) hg, blk_grown h.box hg (Kd.R_ne h.list h.box (by decide)), blk_grown h.res hg (Kd.R_ne h.list h.res (by decide)), hb⟩
theorem MemX.rowed {v : Value} {xs : List Int} {base : Nat} {okr : Nat → Prop} (h : MemX w w' ok vl gm g8 g13 L Lm A M u0 u1 b0 b1) (hr : Kd.R (Kd.int .i64) 3 w' base okr v xs) (hg : w'.grownBy w2 v.ownBlock) (hok : ∀ k, ok k → some k ≠ v.ownBlock) (hb : Below w.heap.size w w2) : MemX w w2 ok vl gm g8 g13 L Lm A M u0 u1 b0 b1 :=
  ⟨Kd.R_over' h.list (Kd.R_typed hr) (by decide) hg, h.map.kept hg (h.map.not_row (Kd.R_typed hr)), Kd.R_over' h.acc (Kd.R_typed hr) (by decide) hg, Kd.S_grown h.rows hg hok, blk_grown h.box hg (Kd.R_ne hr h.box (by decide)), blk_grown h.res hg (Kd.R_ne hr h.res (by decide)), hb⟩
theorem MemX.accd {vn : Value} {An : List Bool} (h : MemX w w' ok vl gm g8 g13 L Lm A M u0 u1 b0 b1) (hg : w'.grownBy w2 u0.ownBlock) (ho : Kd.R Kd.bool 4 w2 w.heap.size (fun _ => True) vn An) (hb : Below w.heap.size w w2) : MemX w w2 ok vl gm g8 g13 L Lm An M vn u1 b0 b1 :=
  ⟨Kd.R_over' h.list (Kd.R_typed h.acc) (by decide) hg, h.map.kept hg (h.map.not_row (Kd.R_typed h.acc)), ho, Kd.S_over' h.rows (Kd.R_typed h.acc) (by decide) hg, blk_grown h.box hg (Kd.R_ne h.acc h.box (by decide)), blk_grown h.res hg (Kd.R_ne h.acc h.res (by decide)), hb⟩
theorem MemX.rowsd {vn : Value} {Mn : List (List Int)} {okn : Nat → Prop} (h : MemX w w' ok vl gm g8 g13 L Lm A M u0 u1 b0 b1) (hg : w'.grownBy w2 u1.ownBlock) (ho : Kd.S (Kd.slice 3 (Kd.int .i64)) 67 w2 w.heap.size okn vn Mn) (hb : Below w.heap.size w w2) : MemX w w2 okn vl gm g8 g13 L Lm A Mn u0 vn b0 b1 :=
  ⟨Kd.R_over' h.list (Kd.S_typed h.rows) (by decide) hg, h.map.kept hg (h.map.not_row (Kd.S_typed h.rows)), Kd.R_over' h.acc (Kd.S_typed h.rows) (by decide) hg, ho, blk_grown h.box hg (Kd.S_ne h.rows h.box (by decide)), blk_grown h.res hg (Kd.S_ne h.rows h.res (by decide)), hb⟩
theorem MemX.put {v : Value} (h : MemX w w' ok vl gm g8 g13 L Lm A M u0 u1 b0 b1) (hn : g8 ≠ g13) (hl : w.heap.size ≤ g13) (j : Nat) {c0 c1 : Value} (hc : (#[b0, b1] : Array Value).set! j v = #[c0, c1]) (hbx : (w'.setCell ⟨g13, j, none⟩ v).heap[g13]? = some (.cells #[c0, c1] 27 (0, 0))) : MemX w (w'.setCell ⟨g13, j, none⟩ v) ok vl gm g8 g13 L Lm A M u0 u1 c0 c1 :=
  ⟨Kd.R_set h.list h.box (by decide) j v, h.map.kept (gb_set (gb_refl _ _) j v) (fun e => map_ne h.map h.box e.symm), Kd.R_set h.acc h.box (by decide) j v, Kd.S_set h.rows h.box (by decide) j v, hbx, blk_grown h.res (gb_set (gb_refl _ _) j v) (fun e => hn (Option.some.inj e)), below_set h.bel hl⟩
end
set_option maxHeartbeats 8000000 in
set_option maxRecDepth 100000 in
theorem explored_pair {dom : Pr → Prop} (most : Nat) (hm1 : 1 ≤ most) (hm : most ≤ 1000000) (acc : Pr → Bool) (nx : Pr → Nat → Pr) (x0 : Pr) (g1 g2 : Nat) (lb1 lb2 : Array Value)
    (eg1 : ∀ args w, (callFunc g1 args).run Try.prog w = .ok (.enter g1 args) w) (eg2 : ∀ args w, (callFunc g2 args).run Try.prog w = .ok (.enter g2 args) w) (w : World)
    (hd0 : dom x0) (hdn : ∀ x j, dom x → j < 3 → dom (nx x j)) (hwf : ∀ x, dom x → wfP x)
    (h1 : ∀ x, dom x → ∀ W, Below w.heap.size w W → Calls Try.prog g1 (#[.agg #[.int .i64 (x).1, .int .i64 (x).2]] ++ lb1) W fun e W' => e = .returned (.bool (acc x)) ∧ Below W.heap.size W W')
    (h2 : ∀ (x : Pr) (j : Nat), dom x → j < 3 → ∀ W, Below w.heap.size w W → Calls Try.prog g2 (#[.agg #[.int .i64 (x).1, .int .i64 (x).2], .int .i64 j] ++ lb2) W fun e W' => e = .returned (.agg #[.int .i64 (nx x j).1, .int .i64 (nx x j).2]) ∧ Below W.heap.size W W') :
    Calls Try.prog 65 #[.agg #[.int .i64 (x0).1, .int .i64 (x0).2], .int .i64 most, .func (.func g1) #[] lb1, .func (.func g2) #[] lb2] w fun e w' => ∃ v0 v1 vl : Value, e = .returned (.tuple #[.agg #[v0, v1], vl, .bool (expl acc nx most (most + 2) ([x0], [], []) 0).isSome]) ∧ Kd.R Kd.bool 4 w' w.heap.size (fun _ => True) v0 ((expl acc nx most (most + 2) ([x0], [], []) 0).getD ([], [], [])).2.1 ∧ Kd.S (Kd.slice 3 (Kd.int .i64)) 67 w' w.heap.size (fun _ => True) v1 ((expl acc nx most (most + 2) ([x0], [], []) 0).getD ([], [], [])).2.2 ∧ Below w.heap.size w w' := by
  generalize hR : expl acc nx most (most + 2) ([x0], [], []) 0 = r
  have HR := am_ hR
  have H1 := am_ h1
  have H2 := am_ h2
  have HD0 := am_ hd0
  have HD := am_ hdn
  have HW := am_ hwf
  have HX := am_ (hwf x0 hd0)
  have hu_ := am_ hm
  have HM1 := am_ hm1
  clear h1 h2 hdn hwf hd0 hm hm1 hR
  have hu27 := Try.underlying27
  obtain ⟨OX, hOX⟩ : ∃ o : Obj, o = Obj.cells #[Value.int IntKind.i64 x0.1, Value.int IntKind.i64 x0.2] 72 := ⟨_, rfl⟩
  obtain ⟨OD, hOD⟩ : ∃ o : Obj, o = Obj.cells #[Value.slice none 0 0, Value.slice none 0 0] 27 := ⟨_, rfl⟩
  have HC0 : Aside0 (World.cell? (((w.alloc OX).alloc OD).alloc OX) ⟨w.heap.size, 0, none⟩ = some (.int .i64 x0.1)) := ⟨by rw [hOX]; exact pw_cell_below (below_alloc (below_alloc (Below.refl _ _) _) _) (by simp)⟩
  have HC1 : Aside0 (World.cell? (((w.alloc OX).alloc OD).alloc OX) ⟨w.heap.size, 1, none⟩ = some (.int .i64 x0.2)) := ⟨by rw [hOX]; exact pw_cell_below (below_alloc (below_alloc (Below.refl _ _) _) _) (by simp)⟩
  have HLW : Aside0 (Kd.R kdP 72 (((w.alloc OX).alloc OD).alloc OX) w.heap.size (fun _ => True) (.slice (some ⟨w.heap.size + 1 + 1, 0, none⟩) 1 1) [x0]) := ⟨by
    have := R_here (okp := fun _ => True) (inner := [.int .i64 x0.1, .int .i64 x0.2]) kdP ((w.alloc OX).alloc OD) w.heap.size 72 (xs := [x0]) (Reps.snoc (Reps.none _ _) (show Kd.M kdP _ _ _ x0 [.int .i64 x0.1, .int .i64 x0.2] from ⟨[.int .i64 x0.1], [.int .i64 x0.2], rfl, rfl, rfl⟩) rfl) (by simp; omega) (by simp)
    rw [hOX]
    rw [hOX] at this
    simpa using this⟩
  have HR8 : Aside0 ((((w.alloc OX).alloc OD).alloc OX).heap[w.heap.size + 1]? = some (.cells #[.slice none 0 0, .slice none 0 0] 27 (0, 0))) := ⟨by
    have h0 := blk_new (w.alloc OX) OD
    have h1 := blk_alloc h0 OX
    rw [hOD] at h1 ⊢
    simpa using h1⟩
  have HBW : Aside0 (Below w.heap.size w (((w.alloc OX).alloc OD).alloc OX)) := ⟨below_alloc (below_alloc (below_alloc (Below.refl w.heap.size w) _) _) _⟩
  have HSZ : Aside0 ((((w.alloc OX).alloc OD).alloc OX).heap.size = w.heap.size + 1 + 1 + 1) := ⟨by simp⟩
  subst hOX
  subst hOD
  go_enter Try.func65, Try.ntmps65
  go_wp2_with (first
    | ((with_reducible refine gate_dst (N := 22) rfl ?_); refine wp_make (t := 121) (k := 72) (e := 3) (q := .i64) (enc := encP) (ok := wfP) rfl rfl ?_; intro w3 hm hb; have hm : IsMP w3 (w.heap.size + 1 + 1 + 1) (fun _ => none) 0 := HSZ.out ▸ hm; have hc0 := pw_cell_below hb HC0.out; have hc1 := pw_cell_below hb HC1.out; have HL := am_ (Kd.R_below HLW.out hb); have HR9 := am_ (blk_below HR8.out hb); have HM := am_ hm; have HB3 := bt_ HBW hb; clear hm hb)
    | (refine wp_insert mapP rfl _ _ _ rfl _ _ _ HM.out (by unfold maxLen; omega) rfl x0 rfl HX.out 0 rfl (by decide) ?_; intro w4 hm hgr; have HM2 := am_ hm; have HG4 := am_ hgr; clear hm hgr))
  have hb4 := below_alloc (Below.refl w4.heap.size w4) (Obj.cells #[Value.slice none 0 0, Value.slice none 0 0] 27)
  have hm4 : IsMP w4 (w.heap.size + 1 + 1 + 1) (idx [x0]) 1 := by have := HM2.out; rw [idx_one] at this; exact this
  have hM0 : MemX w (w4.alloc (Obj.cells #[Value.slice none 0 0, Value.slice none 0 0] 27)) (fun _ => True) (.slice (some ⟨w.heap.size + 1 + 1, 0, none⟩) 1 1) (w.heap.size + 1 + 1 + 1) (w.heap.size + 1) w4.heap.size [x0] [x0] [] [] (.slice none 0 0) (.slice none 0 0) (.slice none 0 0) (.slice none 0 0) :=
    ⟨Kd.R_below (R_over_map HL.out HM.out HG4.out) hb4, hm4.below hb4, Kd.R_nil _ _ _ _ _, Kd.S_nil _ _ _ _ _, blk_new w4 _, blk_below (blk_grown HR9.out HG4.out (map_ne HM.out HR9.out)) hb4, below_alloc (below_map HB3.out HG4.out (by omega)) _⟩
  have HMEM := am_ hM0
  have HGM : Aside0 (w.heap.size ≤ w.heap.size + 1 + 1 + 1) := ⟨by omega⟩
  have HG8 : Aside0 (w.heap.size ≤ w.heap.size + 1) := ⟨by omega⟩
  have HG13 : Aside0 (w.heap.size ≤ w4.heap.size) := ⟨(below_map HB3.out HG4.out (by omega)).size⟩
  have H813 : Aside0 (w.heap.size + 1 ≠ w4.heap.size) := ⟨fun h_ => by have h1_ := blk_lt (blk_grown HR9.out HG4.out (map_ne HM.out HR9.out)); omega⟩
  have HDL : Aside0 (∀ y ∈ [x0], dom y) := ⟨fun y hy => by rw [List.mem_singleton] at hy; subst hy; exact HD0.out⟩
  clear HL HR9 HM HM2 HB3 HG4 hM0 HC0 HC1 HLW HR8 HBW HSZ hc0 hc1 hb4 hm4
  generalize w4.alloc (Obj.cells #[Value.slice none 0 0, Value.slice none 0 0] 27) = ws at HMEM ⊢
  generalize w4.heap.size = g13 at HMEM HG13 H813 ⊢
  generalize w.heap.size + 1 + 1 + 1 = gm at HMEM HGM ⊢
  generalize w.heap.size + 1 = g8 at HMEM HG8 H813 ⊢
  go_loopg [11, 14] (most + 2) (fun gg v11 v14 wr => ∃ (p : Ex Pr) (i : Nat) (u0 u1 : Value), v14 = .int .i64 (i : Int) ∧ Aside0 (i ≤ p.1.length) ∧ Aside0 (most + 2 ≤ gg + i) ∧ Aside0 (p.1.length ≤ most) ∧ Aside0 (p.2.1.length = i ∧ p.2.2.length = i) ∧ Aside0 (expl acc nx most gg p i = r) ∧ Aside0 (∀ x ∈ p.1, dom x) ∧ Aside0 (MemX w wr (fun _ => True) v11 gm g8 g13 p.1 p.1 p.2.1 p.2.2 u0 u1 u0 u1))
  case atStart => exact ⟨([x0], [], []), 0, _, _, rfl, ⟨Nat.zero_le _⟩, ⟨by omega⟩, ⟨HM1.out⟩, ⟨⟨rfl, rfl⟩⟩, HR, HDL, HMEM⟩
  case round =>
    clear HMEM HR HDL
    obtain ⟨p, i, u0, u1, rfl, HI, HG, HLE, HLN, HR, HDL, HMEM⟩ := hrel
    cases gk with
    | zero => exact absurd HI.out (by have := HG.out; have := HLE.out; omega)
    | succ g =>
      obtain ⟨A11, c11, e11⟩ := Kd.R_slice HMEM.out.list
      subst e11
      obtain ⟨Aa, ca, ea⟩ := Kd.R_slice HMEM.out.acc
      subst ea
      obtain ⟨Ay, cy, ey⟩ := Kd.S_slice HMEM.out.rows
      subst ey
      have hr := HR.out
      rw [expl] at hr
      by_cases hi : i < p.1.length
      ·
        rw [dif_pos hi] at hr
        have hP1 : p.1[i]? = some p.1[i] := List.getElem?_eq_getElem hi
        have hdx := HDL.out _ (List.getElem_mem hi)
        generalize p.1[i] = x at hr hP1 hdx
        generalize hrr : exRow nx most x 3 0 p.1 [] = rr at hr
        have HRR := am_ hr
        have HER := am_ hrr
        have HP1 := am_ hP1
        have HDX := am_ hdx
        have HI2 := am_ hi
        have q1 : ((i : Int) < (p.1.length : Int)) = True := eq_true (by omega)
        clear hr hrr hP1 hdx hi HR HI
        go_wp2_with ((with_reducible refine gate_dst (N := 32) rfl ?_); refine Kd.R_lit (Kd.int .i64) _ 3 ?hg (N := 32) ?hd (xs := ([] : List Int)) (inner := []) (ok := fun _ => True) (okp := fun _ => True) ?hr ?hp (fun _ hk => hk) trivial (Below.refl _ _) (Nat.le_refl _) (by simp) ?_; (case hd => rfl); (case hg => rfl); (case hr => first | (go_simp; done) | (go_simp; rfl)); (case hp => exact (Reps.none _ _)); intro v15 w6 ho hb hg_ hnew_; clear hg_ hnew_; have HROW := am_ (Kd.R_lower ho HMEM.out.bel.size); have HOB := am_ (fun k => Kd.R_base ho k); have HB6 := am_ hb; clear ho hb)
        obtain ⟨W1, rfl⟩ : ∃ wo : World, wo = wr := ⟨_, rfl⟩
        have HMI := am_ ((HMEM.out.tight).below HB6.out)
        have HSW := am_ HB6.out.size
        have HLEP := HLE
        have HDLP := HDL
        have HPRE : Aside0 (p.1.length ≤ p.1.length) := ⟨Nat.le_refl _⟩
        clear HMEM HB6 q1
        go_loopg [11, 15, 33] 3 (fun gg v11 v15 v33 wr => ∃ (L : List Pr) (row : List Int) (j : Nat), v33 = .int .i64 (j : Int) ∧ Aside0 (j ≤ 3) ∧ Aside0 (3 ≤ gg + j) ∧ Aside0 (exRow nx most x (3 - j) j L row = rr) ∧ Aside0 (L.length ≤ most) ∧ Aside0 (p.1.length ≤ L.length) ∧ Aside0 (∀ y ∈ L, dom y) ∧ Aside0 (L[i]? = some x) ∧ Aside0 (row.length = j) ∧ Aside0 (MemX w wr (fun b => b < W1.heap.size) v11 gm g8 g13 L L p.2.1 p.2.2 (.slice Aa p.2.1.length ca) (.slice Ay p.2.2.length cy) (.slice Aa p.2.1.length ca) (.slice Ay p.2.2.length cy)) ∧ Aside0 (Kd.R (Kd.int .i64) 3 wr w.heap.size (fun _ => True) v15 row) ∧ Aside0 (∀ k, v15.ownBlock = some k → W1.heap.size ≤ k) ∧ Aside0 (W1.heap.size ≤ wr.heap.size))
        case atStart => exact ⟨p.1, [], 0, rfl, ⟨by omega⟩, ⟨by omega⟩, HER, HLE, HPRE, HDL, HP1, ⟨rfl⟩, HMI, HROW, HOB, HSW⟩
        case round =>
          clear HMI HROW HOB HSW HP1 HDL HLE HER HPRE
          obtain ⟨L, row, j, rfl, HJ, HGJ, HER, HLE, HPRE, HDL, HP1, HRL, HMEM, HROW, HOB, HSW⟩ := hrel
          obtain ⟨A11, c11, e11⟩ := Kd.R_slice HMEM.out.list
          subst e11
          obtain ⟨A15, c15, e15⟩ := Kd.R_slice HROW.out
          subst e15
          by_cases hj : j < 3
          ·
            cases gk with
            | zero => exact absurd HGJ.out (by omega)
            | succ g3 =>
            have hi2 : i < L.length := (List.getElem?_eq_some_iff.mp HP1.out).1
            have hx1 : L[i] = x := (List.getElem?_eq_some_iff.mp HP1.out).2
            obtain ⟨ad8, ea8, hx8, hx8b⟩ := at_pair (Kd.R_reads' HMEM.out.list).2.2 i (by omega) rfl
            subst ea8
            rw [hx1] at hx8 hx8b
            have HC := am_ (H2.out x j HDX.out hj)
            have hdy := HD.out x j HDX.out hj
            have HWY := am_ (HW.out _ hdy)
            have her := HER.out
            rw [show 3 - j = (3 - (j + 1)) + 1 by omega, exRow] at her
            have hsome := idx_some (s := L) (y := nx x j)
            generalize hy : nx x j = y at HC hdy HWY her hsome
            have p1 : ((0 : Int) ≤ (i : Int)) = True := eq_true (by omega)
            have q1 : ((i : Int) < (L.length : Int)) = True := eq_true (by omega)
            have q3 : ((j : Int) < (3 : Int)) = True := eq_true (by omega)
            have HJ3 := am_ hj
            have HI3 := am_ hi2
            have HDY := am_ hdy
            have HROL : Aside0 (row.length ≤ 3) := ⟨by have := HRL.out; omega⟩
            have HLEN : Aside0 ((L.length : Int) ≤ 1000000) := ⟨by have := HLE.out; have := hu_.out; omega⟩
            clear hi2 hx1 hdy hy hj HER
            by_cases hmem : y ∈ L
            ·
              rw [if_pos hmem] at her
              have hsome := idx_in hmem
              have HER := am_ her
              have HIX := am_ (idx_val hmem)
              clear her hmem
              go_wp2_with (first
                | (go_at_fn g2; refine (HC.out _ (by exact HMEM.out.bel)).mono ?_; rintro e W2 ⟨rfl, hb⟩; have HM1 := am_ (HMEM.out.below hb); have HROW1 := am_ (Kd.R_below HROW.out hb); have HSW1 := sz_ HSW hb; clear hb)
                | ((with_reducible refine gate_dst (N := 46) rfl ?_); have HM2 := am_ (HM1.out.below (below_alloc (Below.refl _ _) (Obj.cells #[Value.int IntKind.i64 y.1, Value.int IntKind.i64 y.2] 72))); have HROW2 := am_ (Kd.R_below HROW1.out (below_alloc (Below.refl _ _) (Obj.cells #[Value.int IntKind.i64 y.1, Value.int IntKind.i64 y.2] 72))); have HSW2 := am_ (Nat.le_trans HSW1.out (below_alloc (Below.refl W2.heap.size W2) (Obj.cells #[Value.int IntKind.i64 y.1, Value.int IntKind.i64 y.2] 72)).size); refine wp_look_ok mapP rfl _ _ rfl _ _ _ HM2.out.map rfl y rfl HWY.out ?_; rw [hsome]; generalize W2.alloc (Obj.cells #[Value.int IntKind.i64 y.1, Value.int IntKind.i64 y.2] 72) = W3 at HM2 HROW2 HSW2 ⊢)
                | (at_builtin; refine Kd.R_append (Kd.int .i64) (w0 := w) w.heap.size rfl (.tmp 65) (.tmp 67) 67 3 (.int .i64 0) 8 rfl Try.underlying67 info3 rfl (by decide) (by omega) (.slice A15 row.length c15) row ((idx L y).getD 0) [.int .i64 ((idx L y).getD 0)] (fun _ => True) (fun _ => False) rfl rfl ?aP (fun _ hk => hk.elim) ?aF ?aO ?aB ?aS ?aL ?_; (case aP => exact rfl); (case aF => exact (fun _ _ => trivial)); (case aO => exact HROW2.out); (case aB => exact HM2.out.bel); (case aS => exact HM2.out.bel.size); (case aL => have := HROL.out; omega); intro v5n w4 ho hb hg hat; have HROWN := am_ ho; have HMN := am_ (HM2.out.rowed HROW2.out hg (fun k hk he => by have := HOB.out k he.symm; omega) hb); have HOBN := am_ (own_at hat HOB.out HSW2.out); have HSWN := am_ (Nat.le_trans HSW2.out hg.size); clear ho hb hg hat))
              go_roundg g3
              case measure => omega
              case rel => exact ⟨L, row ++ [((idx L y).getD 0)], j + 1, by rw [up1 (by have := HJ3.out; omega)], ⟨HJ3.out⟩, ⟨by have := HGJ.out; omega⟩, HER, HLE, HPRE, HDL, HP1, ⟨by rw [List.length_append, HRL.out]; rfl⟩, HMN, HROWN, HOBN, HSWN⟩
            ·
              rw [if_neg hmem] at her
              have hsome := idx_out hmem
              have HU := am_ (idx_upd hmem)
              by_cases hmost : most < L.length + 1
              ·
                rw [if_pos hmost] at her
                have her2 := HRR.out
                rw [← her] at her2
                have e1 : r = none := her2.symm
                subst e1
                have kq : ((most : Int) < ((L.length + 1 : Nat) : Int)) = True := eq_true (by omega)
                have kq2 : ((most : Int) < (L.length : Int) + 1) = True := eq_true (by omega)
                have kq3 : decide ((most : Int) < (L.length : Int) + 1) = true := decide_eq_true (by omega)
                clear her her2 hmem hmost
                go_wp2_with (first
                  | (go_at_fn g2; refine (HC.out _ (by exact HMEM.out.bel)).mono ?_; rintro e W2 ⟨rfl, hb⟩; have HM1 := am_ (HMEM.out.below hb); clear hb)
                  | ((with_reducible refine gate_dst (N := 46) rfl ?_); have HGN : Aside0 (gm ≠ W2.heap.size) := ⟨by have := HM1.out.map.lt; omega⟩; have HM2 := am_ (HM1.out.below (below_alloc (Below.refl _ _) (Obj.cells #[Value.int IntKind.i64 y.1, Value.int IntKind.i64 y.2] 72))); refine wp_look_ok mapP rfl _ _ rfl _ _ _ HM2.out.map rfl y rfl HWY.out ?_; rw [hsome])
                  | (at_builtin; refine Kd.R_append kdP (w0 := w) w.heap.size rfl (.tmp 56) (.tmp 58) 69 72 (.agg #[.int .i64 0, .int .i64 0]) 16 rfl Try.underlying69 infoP rfl (by decide) (by omega) (.slice (some ad8) L.length c11) L y [.int .i64 y.1, .int .i64 y.2] (fun _ => True) (fun _ => False) rfl rfl ?aP (fun _ hk => hk.elim) ?aF ?aO ?aB ?aS ?aL ?_; (case aP => exact ⟨[.int .i64 y.1], [.int .i64 y.2], rfl, rfl, rfl⟩); (case aF => exact (fun _ _ => trivial)); (case aO => exact HM3.out.list); (case aB => exact HM3.out.bel); (case aS => exact HM3.out.bel.size); (case aL => have := HLEN.out; omega); intro v8n w3 ho hb hg hat; have HM4 := am_ (HM3.out.listed hg ho hb); obtain ⟨A8n, c8n, e8n⟩ := Kd.R_slice ho; rw [show (L ++ [y]).length = L.length + 1 by simp] at e8n; subst e8n; have hcz0 : w3.cell? ⟨g8, 0, none⟩ = some (.slice none 0 0) := (blk_cell HM4.out.res 0).trans rfl; have hcz1 : w3.cell? ⟨g8, 1, none⟩ = some (.slice none 0 0) := (blk_cell HM4.out.res 1).trans rfl; have hfz0 := blk_frozen HM4.out.res 0; have hfz1 := blk_frozen HM4.out.res 1; clear ho hb hg hat)
                  | (refine wp_update mapP rfl _ _ _ rfl _ _ _ HM2.out.map (by have := HLEN.out; unfold maxLen; omega) rfl y rfl HWY.out (L.length : Int) rfl (by have := HLEN.out; simp [Lit.wf, IntKind.min, IntKind.max, IntKind.signed, IntKind.bits]; omega) ?_; intro w2 hm hgr; rw [HU.out, if_neg (by rw [hsome]; decide)] at hm; have hcy0 := cell_grown hgr (a := ⟨W2.heap.size, 0, none⟩) (by simp) (fun h_ => HGN.out (Option.some.inj h_).symm) (v := .int .i64 y.1) (by simp); have hcy1 := cell_grown hgr (a := ⟨W2.heap.size, 1, none⟩) (by simp) (fun h_ => HGN.out (Option.some.inj h_).symm) (v := .int .i64 y.2) (by simp); have HM3 := am_ (HM2.out.mapped (Ln := L ++ [y]) hgr HGM.out (by rw [List.length_append]; exact hm)); clear hm hgr))
                have HT4 : Aside0 (((w3.setCell ⟨g8, 0, none⟩ (.slice none 0 0)).setCell ⟨g8, 1, none⟩ (.slice none 0 0)).heap[g8]? = some (.cells #[.slice none 0 0, .slice none 0 0] 27 (0, 0))) := ⟨blk_put (blk_put (cs' := #[.slice none 0 0, .slice none 0 0]) HM4.out.res 0 _ rfl) 1 _ rfl⟩
                refine bodyPost_ret (results_ctt rfl _ _ g8 27 #[.slice none 0 0, .slice none 0 0] (0, 0) _ rfl HT4.out Try.underlying27 rfl (by kernel_rfl)) rfl ?_
                exact ⟨_, _, _, rfl, Kd.R_nil _ _ _ _ _, Kd.S_nil _ _ _ _ _, below_set (below_set HM4.out.bel HG8.out) HG8.out⟩
              ·
                rw [if_neg hmost] at her
                have HER := am_ her
                have kq : ((most : Int) < ((L.length + 1 : Nat) : Int)) = False := eq_false (by omega)
                have kq2 : ((most : Int) < (L.length : Int) + 1) = False := eq_false (by omega)
                have kq3 : decide ((most : Int) < (L.length : Int) + 1) = false := decide_eq_false (by omega)
                have HMO := am_ (show L.length + 1 ≤ most by omega)
                clear her hmem hmost
                go_wp2_with (first
                  | (go_at_fn g2; refine (HC.out _ (by exact HMEM.out.bel)).mono ?_; rintro e W2 ⟨rfl, hb⟩; have HM1 := am_ (HMEM.out.below hb); have HROW1 := am_ (Kd.R_below HROW.out hb); have HSW1 := sz_ HSW hb; clear hb)
                  | ((with_reducible refine gate_dst (N := 46) rfl ?_); have HGN : Aside0 (gm ≠ W2.heap.size) := ⟨by have := HM1.out.map.lt; omega⟩; have HM2 := am_ (HM1.out.below (below_alloc (Below.refl _ _) (Obj.cells #[Value.int IntKind.i64 y.1, Value.int IntKind.i64 y.2] 72))); have HROW2 := am_ (Kd.R_below HROW1.out (below_alloc (Below.refl _ _) (Obj.cells #[Value.int IntKind.i64 y.1, Value.int IntKind.i64 y.2] 72))); have HSW2 := am_ (Nat.le_trans HSW1.out (below_alloc (Below.refl W2.heap.size W2) (Obj.cells #[Value.int IntKind.i64 y.1, Value.int IntKind.i64 y.2] 72)).size); refine wp_look_ok mapP rfl _ _ rfl _ _ _ HM2.out.map rfl y rfl HWY.out ?_; rw [hsome])
                  | (at_builtin; refine Kd.R_append kdP (w0 := w) w.heap.size rfl (.tmp 56) (.tmp 58) 69 72 (.agg #[.int .i64 0, .int .i64 0]) 16 rfl Try.underlying69 infoP rfl (by decide) (by omega) (.slice (some ad8) L.length c11) L y [.int .i64 y.1, .int .i64 y.2] (fun _ => True) (fun _ => False) rfl rfl ?aP (fun _ hk => hk.elim) ?aF ?aO ?aB ?aS ?aL ?_; (case aP => exact ⟨[.int .i64 y.1], [.int .i64 y.2], rfl, rfl, rfl⟩); (case aF => exact (fun _ _ => trivial)); (case aO => exact HM3.out.list); (case aB => exact HM3.out.bel); (case aS => exact HM3.out.bel.size); (case aL => have := HLEN.out; omega); intro v8n w3 ho hb hg hat; have HM4 := am_ (HM3.out.listed hg ho hb); have HROW4 := am_ (Kd.R_over' HROW3.out (Kd.R_typed HM3.out.list) (by decide) hg); have HSW4 := am_ (Nat.le_trans HSW3.out hg.size); obtain ⟨A8n, c8n, e8n⟩ := Kd.R_slice ho; rw [show (L ++ [y]).length = L.length + 1 by simp] at e8n; subst e8n; clear ho hb hg hat)
                  | (at_builtin; refine Kd.R_append (Kd.int .i64) (w0 := w) w.heap.size rfl (.tmp 65) (.tmp 67) 67 3 (.int .i64 0) 8 rfl Try.underlying67 info3 rfl (by decide) (by omega) (.slice A15 row.length c15) row ((L.length : Nat) : Int) [.int .i64 ((L.length : Nat) : Int)] (fun _ => True) (fun _ => False) rfl rfl ?bP (fun _ hk => hk.elim) ?bF ?bO ?bB ?bS ?bL ?_; (case bP => exact rfl); (case bF => exact (fun _ _ => trivial)); (case bO => exact HROW4.out); (case bB => exact HM4.out.bel); (case bS => exact HM4.out.bel.size); (case bL => have := HROL.out; omega); intro v5n w5 ho hb hg hat; have HROWN := am_ ho; have HMN := am_ (HM4.out.rowed HROW4.out hg (fun k hk he => by have := HOB.out k he.symm; omega) hb); have HOBN := am_ (own_at hat HOB.out HSW4.out); have HSWN := am_ (Nat.le_trans HSW4.out hg.size); clear ho hb hg hat)
                  | (refine wp_update mapP rfl _ _ _ rfl _ _ _ HM2.out.map (by have := HLEN.out; unfold maxLen; omega) rfl y rfl HWY.out (L.length : Int) rfl (by have := HLEN.out; simp [Lit.wf, IntKind.min, IntKind.max, IntKind.signed, IntKind.bits]; omega) ?_; intro w2 hm hgr; rw [HU.out, if_neg (by rw [hsome]; decide)] at hm; have hcy0 := cell_grown hgr (a := ⟨W2.heap.size, 0, none⟩) (by simp) (fun h_ => HGN.out (Option.some.inj h_).symm) (v := .int .i64 y.1) (by simp); have hcy1 := cell_grown hgr (a := ⟨W2.heap.size, 1, none⟩) (by simp) (fun h_ => HGN.out (Option.some.inj h_).symm) (v := .int .i64 y.2) (by simp); have HM3 := am_ (HM2.out.mapped (Ln := L ++ [y]) hgr HGM.out (by rw [List.length_append]; exact hm)); have HROW3 := am_ (R_over_map HROW2.out HM2.out.map hgr); have HSW3 := am_ (Nat.le_trans HSW2.out hgr.size); clear hm hgr))
                go_roundg g3
                case measure => omega
                case rel => exact ⟨L ++ [y], row ++ [((L.length : Nat) : Int)], j + 1, by rw [up1 (by have := HJ3.out; omega)], ⟨HJ3.out⟩, ⟨by have := HGJ.out; omega⟩, HER, ⟨by rw [List.length_append]; exact HMO.out⟩, ⟨by have := HPRE.out; rw [List.length_append]; omega⟩, ⟨fun z hz => (List.mem_append.mp hz).elim (HDL.out z) (fun q => by rw [List.mem_singleton] at q; subst q; exact HDY.out)⟩, ⟨by rw [List.getElem?_append_left HI3.out]; exact HP1.out⟩, ⟨by rw [List.length_append, HRL.out]; rfl⟩, HMN, HROWN, HOBN, HSWN⟩
          ·
            have ej : j = 3 := by have := HJ.out; omega
            subst ej
            have d3 : decide (((3 : Nat) : Int) < 3) = false := by decide
            have her := HER.out
            rw [show 3 - 3 = 0 from rfl, exRow] at her
            have hr := HRR.out
            rw [← her] at hr
            have HEN : Aside0 (expl acc nx most g (L, p.2.1 ++ [acc x], p.2.2 ++ [row]) (i + 1) = r) := ⟨hr⟩
            have hi2 : i < L.length := (List.getElem?_eq_some_iff.mp HP1.out).1
            have hx1 : L[i] = x := (List.getElem?_eq_some_iff.mp HP1.out).2
            obtain ⟨ad8, ea8, hx8, hx8b⟩ := at_pair (Kd.R_reads' HMEM.out.list).2.2 i (by omega) rfl
            subst ea8
            rw [hx1] at hx8 hx8b
            have hx0 : wr.cell? ⟨g13, 0, none⟩ = some (.slice Aa p.2.1.length ca) := (blk_cell HMEM.out.box 0).trans rfl
            have HI3 := am_ hi2
            have p1 : ((0 : Int) ≤ (i : Int)) = True := eq_true (by omega)
            have q1 : ((i : Int) < (L.length : Int)) = True := eq_true (by omega)
            have HLENS : Aside0 (p.2.1.length ≤ 1000000 ∧ p.2.2.length ≤ 1000000) := ⟨by have := HLN.out; have := HLE.out; have := hu_.out; omega⟩
            have HM5 := am_ (HMEM.out.below (below_drew1 (Below.refl _ _)))
            have HROW5 := am_ (Kd.R_drew HROW.out)
            clear her hr hi2 hx1 hj HMEM HROW HER
            go_wp2
            refine start_ (n := 12) (S := (fun w' => w'.cell? ⟨g13, 0, none⟩ = some (.slice Aa p.2.1.length ca) ∧ w'.cell? (ad8.add (i * 2)) = some (.int .i64 x.1) ∧ w'.cell? ⟨(ad8.add (i * 2)).block, (ad8.add (i * 2)).off + 1, none⟩ = some (.int .i64 x.2))) (ds := [9, 11]) (bl 12 0) (by kernel_rfl) rfl rfl (⟨hx0, hx8, hx8b⟩) (fun hHeld => ?_); refine with_tabW tab21x bits21x (fun HT_ HW_ => ?_)
            clear hx0 hx8 hx8b
            generalize wr.drew = w8 at HM5 HROW5 hHeld ⊢
            refine ph_ 0 70 (bl 12 1) HT_ ?_
            refine ph_ 2 72 (bl 12 5) HT_ ?_
            refine ph_ 3 73 (bl 12 13) HT_ ?_
            refine ph_ 4 74 (bl 12 29) HT_ ?_
            refine ph_ 5 75 (bl 12 61) HT_ ?_
            refine th_ 1 71 (bl 12 63) HT_ HW_ hHeld ?_
            refine th_ 6 76 (bl 12 127) HT_ HW_ hHeld ?_
            refine on_ 7 (some 77) (bl 12 255) HT_ (fun K hK => ?_)
            refine goesFn_ g1 lb1 (.tmp 72) #[.agg #[.int .i64 x.1, .int .i64 x.2]] eg1 (by rfl) rfl (by rfl) (by rfl) (by (try simp only [List.map_toArray, List.map_cons, List.map_nil]); first | done | rfl) ?_
            refine (H1.out x HDX.out _ (by exact HM5.out.bel)).mono ?_
            rintro e W2 ⟨rfl, hb⟩
            refine ⟨_, rfl, ?_⟩
            have HM6 := am_ (HM5.out.below hb)
            have HROW6 := am_ (Kd.R_below HROW5.out hb)
            clear HM5 HROW5
            refine hK.out _ _ (⟨pw_cell_below hb hHeld.1, pw_cell_below hb hHeld.2.1, pw_cell_below hb hHeld.2.2⟩) (fun hHeld => ?_)
            clear hK K
            refine nm_ 77 ?_
            refine on_ 8 (some 78) (bl 12 511) HT_ (fun K hK => ?_)
            refine value_ (w1 := ?_) (v := ?_) (by rfl) rfl ?_ ?_
            rotate_left 2
            · go_simp
              constructor
              · rfl
              · rfl
            refine hK.out _ _ (⟨cell_al _ hHeld.1, cell_al _ hHeld.2.1, cell_al _ hHeld.2.2⟩) (fun hHeld => ?_)
            clear hK K
            refine nm_ 78 ?_
            refine last_ (i := 9) (N := some 79) (bl 12 1023) rfl rfl (one_of HT_.out (by kernel_rfl)) (by decide) (fun K hK => ?_)
            refine Kd.R_append_step Kd.bool (w0 := w) w.heap.size (by rfl) (.tmp 71) (.tmp 78) 22 4 (.bool false) 1 rfl Try.underlying22 info4 rfl (by decide) (by omega) (.slice Aa p.2.1.length ca) p.2.1 (acc x) [.bool (acc x)] (fun _ => True) (fun _ => False) rfl rfl ?aP (fun _ hk => hk.elim) ?aF ?aO ?aB ?aS ?aL ?_
            (case aP => exact rfl)
            (case aF => exact (fun _ _ => trivial))
            (case aO => exact HM6.out.acc)
            (case aB => exact HM6.out.bel)
            (case aS => exact HM6.out.bel.size)
            (case aL => have := HLENS.out; omega)
            intro v22 w9 ho hb2 hg hat
            have HM9 := am_ (HM6.out.accd hg ho hb2)
            have HROW9 := am_ (Kd.R_over' HROW6.out (Kd.R_typed HM6.out.acc) (by decide) hg)
            obtain ⟨A22, c22, e22⟩ := Kd.R_slice ho
            rw [show (p.2.1 ++ [acc x]).length = p.2.1.length + 1 by simp] at e22
            subst e22
            clear ho hb hb2 hg hat HM6 HROW6
            refine hK.out _ _ ?_
            clear hK K
            refine nm_ 79 ?_
            refine ph_ 10 80 (bl 12 2047) HT_ ?_
            refine last_ (i := 11) (N := none) (bl 12 4095) rfl rfl (one_of HT_.out (by kernel_rfl)) (by decide) (fun K hK => ?_)
            have hs54 : w9.cell? ⟨g13, 0, none⟩ = some (.slice Aa p.2.1.length ca) := (blk_cell HM9.out.box 0).trans rfl
            have hfs54 := blk_frozen HM9.out.box 0
            refine skip_ (w1 := ?_) (by rfl) rfl ?_ ?_
            rotate_left
            · go_simp
              rfl
            refine hK.out _ _ ?_
            clear hK K hs54 hfs54
            refine done_ (done_of HT_.out (by kernel_rfl)) ?_
            have HM1 := am_ (HM9.out.put (v := (.slice A22 (p.2.1.length + 1) c22)) H813.out HG13.out 0 rfl (blk_put HM9.out.box 0 _ rfl))
            have HROW1 := am_ (Kd.R_set HROW9.out HM9.out.box (by decide) 0 (.slice A22 (p.2.1.length + 1) c22))
            clear HM9 HROW9 HT_ HW_
            generalize w9.setCell ⟨g13, 0, none⟩ (.slice A22 (p.2.1.length + 1) c22) = w1 at HM1 HROW1 ⊢
            have hcz0 : w1.cell? ⟨g13, 0, none⟩ = some (.slice A22 (p.2.1.length + 1) c22) := (blk_cell HM1.out.box 0).trans rfl
            have hcz1 : w1.cell? ⟨g13, 1, none⟩ = some (.slice Ay p.2.2.length cy) := (blk_cell HM1.out.box 1).trans rfl
            have hfz1 := blk_frozen HM1.out.box 1
            go_wp2_with ((with_reducible refine gate_builtin (b := .append) (xs := #[.tmp 82, .tmp 84]) rfl ?_); at_builtin; refine Kd.S_append (Kd.slice 3 (Kd.int .i64)) (w0 := w) w.heap.size rfl (.tmp 82) (.tmp 84) 23 67 (.slice none 0 0) 24 rfl Try.underlying23 info67 rfl (by decide) (by omega) (.slice Ay p.2.2.length cy) p.2.2 row [.slice A15 row.length c15] (fun _ => True) (fun b => some b = (.slice A15 row.length c15 : Value).ownBlock) rfl rfl ?aP ?aK ?aF ?aO ?aB ?aS ?aL ?_; (case aP => exact Kd.M_row (Kd.R_tight rfl HROW1.out)); (case aK => exact (fun b hb => ⟨trivial, fun he => by have h1 := HOB.out b hb.symm; have h2 := (Kd.S_R HM1.out.rows).1 b he.symm; omega⟩)); (case aF => exact (fun _ _ => trivial)); (case aO => exact Kd.S_mono HM1.out.rows (fun b hb => ⟨trivial, fun he => by have h1 := HOB.out b he.symm; omega⟩)); (case aB => exact HM1.out.bel); (case aS => exact HM1.out.bel.size); (case aL => have := HLENS.out; omega); intro v23 w2 ho hb hg hat; have HM2 := am_ (HM1.out.rowsd hg ho hb); obtain ⟨A23, c23, e23⟩ := Kd.S_slice ho; rw [show (p.2.2 ++ [row]).length = p.2.2.length + 1 by simp] at e23; subst e23; clear ho hb hg hat hcz0 hcz1 hfz1; have hcz1 : w2.cell? ⟨g13, 1, none⟩ = some (.slice Ay p.2.2.length cy) := (blk_cell HM2.out.box 1).trans rfl; have hfz1 := blk_frozen HM2.out.box 1)
            go_roundg g
            case measure => omega
            case rel => exact ⟨(L, p.2.1 ++ [acc x], p.2.2 ++ [row]), i + 1, _, _, by rw [up1 (by have := HI3.out; have := HLE.out; have := hu_.out; omega)], ⟨HI3.out⟩, ⟨by have := HG.out; omega⟩, HLE, ⟨by have := HLN.out; simp; omega⟩, HEN, HDL, ⟨HM2.out.put (v := (.slice A23 (p.2.2.length + 1) c23)) H813.out HG13.out 1 rfl (blk_put HM2.out.box 1 _ rfl)⟩⟩
      ·
        rw [dif_neg hi] at hr
        subst hr
        have q1 : ((i : Int) < (p.1.length : Int)) = False := eq_false (by omega)
        have hcz0 : wr.cell? ⟨g13, 0, none⟩ = some (.slice Aa p.2.1.length ca) := (blk_cell HMEM.out.box 0).trans rfl
        have hcz1 : wr.cell? ⟨g13, 1, none⟩ = some (.slice Ay p.2.2.length cy) := (blk_cell HMEM.out.box 1).trans rfl
        have hcy0 : wr.cell? ⟨g8, 0, none⟩ = some (.slice none 0 0) := (blk_cell HMEM.out.res 0).trans rfl
        have hcy1 : wr.cell? ⟨g8, 1, none⟩ = some (.slice none 0 0) := (blk_cell HMEM.out.res 1).trans rfl
        have hfy0 := blk_frozen HMEM.out.res 0
        have hfy1 := blk_frozen HMEM.out.res 1
        have HB4' : Aside0 ((wr.setCell ⟨g8, 0, none⟩ (.slice Aa p.2.1.length ca)).heap[g8]? = some (.cells #[.slice Aa p.2.1.length ca, .slice none 0 0] 27 (0, 0))) := ⟨blk_put HMEM.out.res 0 _ rfl⟩
        have HT4 : Aside0 (((wr.setCell ⟨g8, 0, none⟩ (.slice Aa p.2.1.length ca)).setCell ⟨g8, 1, none⟩ (.slice Ay p.2.2.length cy)).heap[g8]? = some (.cells #[.slice Aa p.2.1.length ca, .slice Ay p.2.2.length cy] 27 (0, 0))) := ⟨blk_put HB4'.out 1 _ rfl⟩
        clear hi
        go_wp2
        refine bodyPost_ret (results_ctt rfl _ _ g8 27 #[.slice Aa p.2.1.length ca, .slice Ay p.2.2.length cy] (0, 0) _ rfl HT4.out Try.underlying27 rfl (by kernel_rfl)) rfl ?_
        exact ⟨_, _, _, rfl, Kd.R_set (Kd.R_set HMEM.out.acc HMEM.out.res (by decide) 0 _) HB4'.out (by decide) 1 _, Kd.S_set (Kd.S_set HMEM.out.rows HMEM.out.res (by decide) 0 _) HB4'.out (by decide) 1 _, below_set (below_set HMEM.out.bel HG8.out) HG8.out⟩
end Go.Proofs.Ytogamkblkoobkaa.Wk
end
