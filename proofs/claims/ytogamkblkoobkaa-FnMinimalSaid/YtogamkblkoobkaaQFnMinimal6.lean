/- Texts of the proof of FnMinimal, put together. No condition. -/
import Derived.Test.YtogamkblkoobkaaQFnMinimal2
import Derived.Test.YtogamkblkoobkaaQFnMinimal4
import Derived.Test.YtogamkblkoobkaaQFnMinimal5
import Derived.Shelf.Abstract
import Derived.Lib.Walk
import Derived.Maps.Own
import Derived.Maps.OwnOps
import Derived.Maps.OwnSet
import Derived.Maps.Views
import Derived.DeepKeys4
import Derived.WideKeyPair
import Derived.Test.YtogamkblkoobkaaProg
section
namespace Go.Proofs.Ytogamkblkoobkaa.P
open Go.RowKit Go.Proofs.YtogamkblkoobkaaW.PrintWords Go.Proofs.YtogamkblkoobkaaW.PrintLast Go.Proofs.YtogamkblkoobkaaW.PrintMore
attribute [local go_sem] max2_int min2_int max_two min_two max_three min_three max_four min_four
set_option linter.unusedVariables false
set_option linter.unusedSimpArgs false
def spec_DrawDifferWord.f (k : Nat) (l0 : List Int) : Option (List Bool × (List (List Int)) × List Bool × (List (List Int))) := (spec_l1New.f k l0).bind fun bt643 => ((spec_l5Draw.f k bt643.1 bt643.2.1 bt643.2.2 4).bind fun bt647 => ((spec_l1Once.f bt643.1 bt647.2.2.1 bt647.2.2.2 3).bind fun bt656 => (if bt656.1 = true then ((spec_MinimizeDfa.f k bt647.1 bt647.2.1).bind fun bt659 => (some (bt647.1, bt647.2.1, bt659.1, bt659.2))) else ((spec_l5Bent.f k bt643.1 bt656.2.1 bt656.2.2).bind fun bt665 => (some (bt647.1, bt647.2.1, bt665.1, bt665.2.1))))))
theorem spec_DrawDifferWord.mono : ∀ a0 k, LeO (spec_DrawDifferWord.f k a0) (spec_DrawDifferWord.f (k + 1) a0) := by
 intro a0 k
 unfold spec_DrawDifferWord.f
 repeat' first
   | (with_reducible exact spec_MinimizeDfa.mono _ _ _)
   | (with_reducible exact spec_l1New.mono _ _)
   | (with_reducible exact spec_l5Bent.mono _ _ _ _)
   | (with_reducible exact spec_l5Draw.mono _ _ _ _ _)
   | (with_reducible exact LeO.refl _)
   | (with_reducible exact LeO.none _)
   | (with_reducible refine LeO.ite ?_ ?_)
   | (with_reducible refine LeO.bind ?_ (fun _ => ?_))
   | exact spec_MinimizeDfa.mono _ _ _
   | exact spec_l1New.mono _ _
   | exact spec_l5Bent.mono _ _ _ _
   | exact spec_l5Draw.mono _ _ _ _ _
   | exact LeO.none _
   | refine LeO.ite ?_ ?_
   | refine LeO.bind ?_ (fun _ => ?_)
theorem zp31_0_ {p q g1 g2 : Prop} (h : p) (h1 : g1) (h2 : g2) (c : p → g1 → g2 → q := by intro h_ h1_ h2_; repeat (first | (with_reducible first | exact h_ | apply IsS125.alloc | apply IsS125.drewN | apply IsS125.drew | apply IsS125.set_1 | apply IsS125.set_2 | refine IsS125.far ?_ h1_ _ | refine IsS125.far ?_ h2_ _) | exact h_)) : q := c h h1 h2
theorem zp31_1_ {p q g1 g2 g3 : Prop} (h : p) (h1 : g1) (h2 : g2) (h3 : g3) (c : p → g1 → g2 → g3 → q := by intro h_ h1_ h2_ h3_; repeat (first | (with_reducible first | exact h_ | apply IsS125.alloc | apply IsS125.drewN | apply IsS125.drew | apply IsS125.set_1 | apply IsS125.set_2 | refine IsS125.far ?_ h1_ _ | refine IsS125.far ?_ h2_ _ | refine IsS125.far ?_ h3_ _) | exact h_)) : q := c h h1 h2 h3
theorem zp31_2_ {p q g1 g2 g3 g4 : Prop} (h : p) (h1 : g1) (h2 : g2) (h3 : g3) (h4 : g4) (c : p → g1 → g2 → g3 → g4 → q := by intro h_ h1_ h2_ h3_ h4_; repeat (first | (with_reducible first | exact h_ | apply below_alloc | apply pw_below_drewN | apply below_drew1 | refine below_set ?_ h1_ | refine below_set ?_ h2_ | refine below_set ?_ h3_ | refine below_set ?_ h4_) | exact h_)) : q := c h h1 h2 h3 h4
set_option maxHeartbeats 8000000 in
set_option maxRecDepth 100000 in
theorem spec_DrawDifferWord.calls (k : Nat) (A0 : Option Addr) (c0 : Nat) (l0 : List Int) (r1 : List Bool) (r2 : List (List Int)) (r3 : List Bool) (r4 : List (List Int)) (w : World) (hr0 : Kd.C (Kd.int .u8) w A0 l0.length l0) (hc0 : l0.length ≤ c0) (h : spec_DrawDifferWord.f k l0 = some (r1, r2, r3, r4)) :
  Calls Try.prog 28 #[.slice A0 l0.length c0] w fun e w' => ∃ v0_ v1_ v2_ v3_ : Value, e = .returned (.tuple #[.agg #[v0_, v1_], .agg #[v2_, v3_]]) ∧ Kd.R Kd.bool 4 w' w.heap.size (fun k_ => some k_ ≠ (v2_ : Value).ownBlock) v0_ r1 ∧ Kd.S (Kd.slice 3 (Kd.int .i64)) 67 w' w.heap.size (fun k_ => some k_ ≠ (v3_ : Value).ownBlock) v1_ r2 ∧ Kd.R Kd.bool 4 w' w.heap.size (fun k_ => some k_ ≠ (v0_ : Value).ownBlock) v2_ r3 ∧ Kd.S (Kd.slice 3 (Kd.int .i64)) 67 w' w.heap.size (fun k_ => some k_ ≠ (v1_ : Value).ownBlock) v3_ r4 ∧ Below w.heap.size w w' := by
 have hu27 := Try.underlying27
 have HR0 := am_ hr0
 have HC0 := am_ hc0
 clear hr0 hc0
 have HB := am_ (Below.refl w.heap.size w)
 have H : ((spec_l1New.f k l0).bind fun bt643 => ((spec_l5Draw.f k bt643.1 bt643.2.1 bt643.2.2 4).bind fun bt647 => ((spec_l1Once.f bt643.1 bt647.2.2.1 bt647.2.2.2 3).bind fun bt656 => (if bt656.1 = true then ((spec_MinimizeDfa.f k bt647.1 bt647.2.1).bind fun bt659 => (some (bt647.1, bt647.2.1, bt659.1, bt659.2))) else ((spec_l5Bent.f k bt643.1 bt656.2.1 bt656.2.2).bind fun bt665 => (some (bt647.1, bt647.2.1, bt665.1, bt665.2.1))))))) = some (r1, r2, r3, r4) := h
 clear h
 replace H := Option.bind_eq_some_iff.mp H
 obtain ⟨⟨t643, t644, t645⟩, A20, H⟩ := H
 have A2 := am_ A20
 clear A20
 replace H := Option.bind_eq_some_iff.mp H
 obtain ⟨⟨t647, t650, t653, t654⟩, A30, H⟩ := H
 have A3 := am_ A30
 clear A30
 replace H := Option.bind_eq_some_iff.mp H
 obtain ⟨⟨t656, t657, t658⟩, A40, H⟩ := H
 have A4 := am_ A40
 clear A40
 by_cases c5 : t656 = true
 ·subst c5
  have H1 : ((spec_MinimizeDfa.f k t647 t650).bind fun bt659 => (some (t647, t650, bt659.1, bt659.2))) = some (r1, r2, r3, r4) := by rw [if_pos rfl] at H; exact H
  clear H
  have H := H1
  clear H1
  replace H := Option.bind_eq_some_iff.mp H
  obtain ⟨⟨t659, t662⟩, A60, H⟩ := H
  replace H : (some (t647, t650, t659, t662)) = some (r1, r2, r3, r4) := H
  have A6 := am_ A60
  clear A60
  simp only [Option.some.injEq, Prod.mk.injEq] at H
  obtain ⟨rfl, rfl, rfl, rfl⟩ := H
  go_enter Try.func28, Try.ntmps28
  try go_wp2_with (first | ((with_reducible refine gate_dst (N := 2) rfl ?_); refine box_event ?hg (N := 2) ?hd (cs := #[.slice none 0 0, .slice none 0 0]) (t := 27) ?hr ?_; (case hd => rfl); (case hg => rfl); (case hr => first | (go_simp; done) | (go_simp; rfl)); intro gb641 hg w7 hbox hb; replace BK641 := am_ (hbox); replace GW641 := am_ ((by rw [hg]; exact (below_size (b0_ HB.out)) : w.heap.size ≤ gb641)); replace GE641 := am_ ((by rw [hg]; exact (below_size (b0_ HB.out)) : w.heap.size ≤ gb641)); replace HB := am_ (below_step (b0_ HB.out) hb); clear hb hbox hg) | ((with_reducible refine gate_dst (N := 3) rfl ?_); refine box_event ?hg (N := 3) ?hd (cs := #[.slice none 0 0, .slice none 0 0]) (t := 27) ?hr ?_; (case hd => rfl); (case hg => rfl); (case hr => first | (go_simp; done) | (go_simp; rfl)); intro gb642 hg w8 hbox hb; have n0_ := am_ (blk_below (rb_ BK641.out) hb); have n1_ := am_ (below_step (b1_ HB.out GE641.out) hb); have n2_ := am_ (hbox); have n3_ := am_ ((by rw [hg]; exact (below_size (b1_ HB.out GE641.out)) : w.heap.size ≤ gb642)); have n4_ := am_ ((by rw [hg]; exact (below_size (b1_ HB.out GE641.out)) : w.heap.size ≤ gb642)); have n5_ := am_ ((by rw [hg]; exact Nat.ne_of_lt (blk_lt (rb_ BK641.out)) : gb641 ≠ gb642)); have n6_ := am_ ((by rw [hg]; exact Nat.ne_of_gt (blk_lt (rb_ BK641.out)) : gb642 ≠ gb641)); clear BK641; clear HB; have BK641 := n0_; have HB := n1_; have BK642 := n2_; have GW642 := n3_; have GE642 := n4_; have NB641_642 := n5_; have NB642_641 := n6_; clear n0_ n1_ n2_ n3_ n4_ n5_ n6_; clear hb hbox hg) | ((with_reducible refine gate_callee (f := 85) rfl ?_); refine gL_ (some 7) Try.func85 #[.slice A0 l0.length c0] ?_; (with_reducible refine (spec_l1New.calls k _ _ l0 t643 t644 t645 w _ ?side1 ?side2 ?side3 A2.out).mono ?_); (case side1 => repeat (first | (with_reducible first | exact HB.out | apply below_alloc | apply pw_below_drewN | apply below_drew1 | refine below_set ?_ GE641.out | refine below_set ?_ GE642.out) | exact HB.out)); (case side2 => exact HR0.out); (case side3 => exact HC0.out); rintro e w9 ⟨g646, rfl, hi, hb, hb2⟩; refine ⟨_, rfl, ?_⟩; have n0_ := am_ (blk_below (rb_ BK641.out) hb2); have n1_ := am_ (blk_below (rb_ BK642.out) hb2); have n2_ := am_ (hb); have n3_ := am_ (hi); have n4_ := am_ (IsS125.ne_blk hi (blk_below (rb_ BK641.out) hb2) (by decide)); have n5_ := am_ (Ne.symm (IsS125.ne_blk hi (blk_below (rb_ BK641.out) hb2) (by decide))); have n6_ := am_ (IsS125.ne_blk hi (blk_below (rb_ BK642.out) hb2) (by decide)); have n7_ := am_ (Ne.symm (IsS125.ne_blk hi (blk_below (rb_ BK642.out) hb2) (by decide))); clear BK641; clear BK642; clear HB; have BK641 := n0_; have BK642 := n1_; have HB := n2_; have HI646 := n3_; have NB646_641 := n4_; have NB641_646 := n5_; have NB646_642 := n6_; have NB642_646 := n7_; clear n0_ n1_ n2_ n3_ n4_ n5_ n6_ n7_; (try clear hb); (try clear hb2); (try clear hk); (try clear hi)) | ((with_reducible refine gate_callee (f := 86) rfl ?_); refine gL_ (some 9) Try.func86 #[.pointer (some ⟨g646, 0, none⟩), .int .i64 4] ?_; (with_reducible refine (spec_l5Draw.calls k g646 t643 t644 t645 4 t647 t650 t653 t654 w _ ?side1 ?side2 A3.out).mono ?_); (case side1 => exact zp31_0_ HI646.out NB646_641.out NB646_642.out); (case side2 => repeat (first | (with_reducible first | exact HB.out | apply below_alloc | apply pw_below_drewN | apply below_drew1 | refine below_set ?_ (IsS125.ge HI646.out) | refine below_set ?_ GE641.out | refine below_set ?_ GE642.out) | exact HB.out)); rintro e w10 ⟨v648, v651, rfl, ho0, ho1, hi, hb, hk⟩; refine ⟨_, rfl, ?_⟩; have n0_ := am_ (KeepBut.blk hk (g' := gb641) (o := .cells #[.slice none 0 0, .slice none 0 0] 27 (0, 0)) (rb_ BK641.out) NB641_646.out (by simp)); have n1_ := am_ (KeepBut.blk hk (g' := gb642) (o := .cells #[.slice none 0 0, .slice none 0 0] 27 (0, 0)) (rb_ BK642.out) NB642_646.out (by simp)); have n2_ := am_ (Kd.R_lower ho0 (below_size (b3_ HB.out (IsS125.ge HI646.out) GE641.out GE642.out))); have n3_ := am_ (Kd.S_lower ho1 (below_size (b3_ HB.out (IsS125.ge HI646.out) GE641.out GE642.out))); have n4_ := am_ (hb); have n5_ := am_ (hi); clear BK641; clear BK642; clear HB; clear HI646; have BK641 := n0_; have BK642 := n1_; have HO649 := n2_; have HO652 := n3_; have HB := n4_; have HI646 := n5_; clear n0_ n1_ n2_ n3_ n4_ n5_; (try clear hb); (try clear hb2); (try clear hk); (try clear hi); (try clear ho0); (try clear ho1)) | ((with_reducible refine gate_dst (N := 5) rfl ?_); refine box_event ?hg (N := 5) ?hd (cs := #[.slice none 0 0, .slice none 0 0]) (t := 27) ?hr ?_; (case hd => rfl); (case hg => rfl); (case hr => first | (go_simp; done) | (go_simp; rfl)); intro gb655 hg w11 hbox hb; have n0_ := am_ (Kd.R_below (rr_ HO649.out) hb); have n1_ := am_ (Kd.S_below (rs_ HO652.out) hb); have n2_ := am_ (blk_below (rb_ BK641.out) hb); have n3_ := am_ (blk_below (rb_ BK642.out) hb); have n4_ := am_ (IsS125.below (zp31_0_ HI646.out NB646_641.out NB646_642.out) hb); have n5_ := am_ (below_step (b3_ HB.out (IsS125.ge HI646.out) GE641.out GE642.out) hb); have n6_ := am_ (hbox); have n7_ := am_ ((by rw [hg]; exact (below_size (b3_ HB.out (IsS125.ge HI646.out) GE641.out GE642.out)) : w.heap.size ≤ gb655)); have n8_ := am_ ((by rw [hg]; exact (below_size (b3_ HB.out (IsS125.ge HI646.out) GE641.out GE642.out)) : w.heap.size ≤ gb655)); have n9_ := am_ ((by rw [hg]; exact Nat.ne_of_lt (blk_lt (rb_ BK641.out)) : gb641 ≠ gb655)); have n10_ := am_ ((by rw [hg]; exact Nat.ne_of_gt (blk_lt (rb_ BK641.out)) : gb655 ≠ gb641)); have n11_ := am_ ((by rw [hg]; exact Nat.ne_of_lt (blk_lt (rb_ BK642.out)) : gb642 ≠ gb655)); have n12_ := am_ ((by rw [hg]; exact Nat.ne_of_gt (blk_lt (rb_ BK642.out)) : gb655 ≠ gb642)); have n13_ := am_ ((by rw [hg]; exact Nat.ne_of_lt (IsS125.lt (show IsS125 w _ g646 t643 t653 t654 from by exact zp31_0_ HI646.out NB646_641.out NB646_642.out)) : g646 ≠ gb655)); have n14_ := am_ ((by rw [hg]; exact Nat.ne_of_gt (IsS125.lt (show IsS125 w _ g646 t643 t653 t654 from by exact zp31_0_ HI646.out NB646_641.out NB646_642.out)) : gb655 ≠ g646)); clear HO649; clear HO652; clear BK641; clear BK642; clear HI646; clear HB; have HO649 := n0_; have HO652 := n1_; have BK641 := n2_; have BK642 := n3_; have HI646 := n4_; have HB := n5_; have BK655 := n6_; have GW655 := n7_; have GE655 := n8_; have NB641_655 := n9_; have NB655_641 := n10_; have NB642_655 := n11_; have NB655_642 := n12_; have NB646_655 := n13_; have NB655_646 := n14_; clear n0_ n1_ n2_ n3_ n4_ n5_ n6_ n7_ n8_ n9_ n10_ n11_ n12_ n13_ n14_; clear hb hbox hg; obtain ⟨Ao12, co12, eo12⟩ := Kd.R_slice HO649.out; subst eo12; have hnb13 := NB655_641.out; have hnc13 := NB641_655.out; have hnb14 := NB655_642.out; have hnc14 := NB642_655.out; have hnb15 := NB655_646.out; have hnc15 := NB646_655.out; have hcz16_0 : w11.cell? ⟨gb655, 0, none⟩ = some (.slice none 0 0) := (blk_cell BK655.out 0).trans rfl; have hcz16_1 : w11.cell? ⟨gb655, 1, none⟩ = some (.slice none 0 0) := (blk_cell BK655.out 1).trans rfl; have hfz16_0 := blk_frozen BK655.out 0; have hfz16_1 := blk_frozen BK655.out 1; obtain ⟨Ao17, co17, eo17⟩ := Kd.S_slice HO652.out; subst eo17) | ((with_reducible refine gate_callee (f := 87) rfl ?_); refine gL_ (some 11) Try.func87 #[.pointer (some ⟨g646, 0, none⟩), .int .i64 3] ?_; (with_reducible refine (spec_l1Once.calls g646 t643 t653 t654 3 true t657 t658 w _ ?side1 ?side2 A4.out).mono ?_); (case side1 => exact zp31_1_ HI646.out NB646_641.out NB646_642.out NB646_655.out); (case side2 => exact zp31_2_ HB.out (IsS125.ge HI646.out) GE641.out GE642.out GE655.out); rintro e w18 ⟨rfl, hi, hb, hk⟩; refine ⟨_, rfl, ?_⟩; have n0_ := am_ (KeepBut.blk hk (g' := gb641) (o := .cells #[.slice none 0 0, .slice none 0 0] 27 (0, 0)) (by refine rb_ ?_; refine blk_far ?_ NB641_655.out _; refine rb_ ?_; refine blk_far ?_ NB641_655.out _; refine rb_ ?_; exact BK641.out) NB641_646.out (by simp)); have n1_ := am_ (KeepBut.blk hk (g' := gb642) (o := .cells #[.slice none 0 0, .slice none 0 0] 27 (0, 0)) (by refine rb_ ?_; refine blk_far ?_ NB642_655.out _; refine rb_ ?_; refine blk_far ?_ NB642_655.out _; refine rb_ ?_; exact BK642.out) NB642_646.out (by simp)); have n2_ := am_ (Kd.R_mono (Kd.R_keep (IsS125.apart (show IsS125 w _ g646 t643 t653 t654 from by exact zp31_1_ HI646.out NB646_641.out NB646_642.out NB646_655.out) (rr_ (Kd.R_mono (Kd.R_far (p := ⟨gb655, 1, none⟩) (Kd.R_far (p := ⟨gb655, 0, none⟩) (Kd.R_types HO649.out BK655.out (by decide)) (fun _ hk => hk.2) (.slice Ao12 t647.length co12)) (fun _ hk => hk.2) (.slice Ao17 t650.length co17)) (fun _ h_ => h_.1))) (by decide)) hk (fun _ h => h.2)) (fun _ h => h.1)); have n3_ := am_ (Kd.S_mono (Kd.S_keep (IsS125.apartS (show IsS125 w _ g646 t643 t653 t654 from by exact zp31_1_ HI646.out NB646_641.out NB646_642.out NB646_655.out) (rs_ (Kd.S_mono (Kd.S_far (p := ⟨gb655, 1, none⟩) (Kd.S_far (p := ⟨gb655, 0, none⟩) (Kd.S_types HO652.out BK655.out (by decide)) (fun _ hk => hk.2) (.slice Ao12 t647.length co12)) (fun _ hk => hk.2) (.slice Ao17 t650.length co17)) (fun _ h_ => h_.1))) (by decide)) hk (fun _ h => h.2)) (fun _ h => h.1)); have n4_ := am_ (KeepBut.blk hk (g' := gb655) (o := .cells #[.slice Ao12 t647.length co12, .slice Ao17 t650.length co17] 27 (0, 0)) (by refine rb_ ?_; refine blk_put (cs := #[.slice Ao12 t647.length co12, .slice none 0 0]) ?_ 1 _ rfl; refine rb_ ?_; refine blk_put (cs := #[.slice none 0 0, .slice none 0 0]) ?_ 0 _ rfl; refine rb_ ?_; exact BK655.out) NB655_646.out (by simp)); have n5_ := am_ (hb); have n6_ := am_ (hi); clear BK641; clear BK642; clear HO649; clear HO652; clear BK655; clear HB; clear HI646; have BK641 := n0_; have BK642 := n1_; have HO649 := n2_; have HO652 := n3_; have BK655 := n4_; have HB := n5_; have HI646 := n6_; clear n0_ n1_ n2_ n3_ n4_ n5_ n6_; (try clear hb); (try clear hb2); (try clear hk); (try clear hi)))
  replace HO649 := am_ (Kd.R_drew HO649.out)
  replace HO652 := am_ (Kd.S_drew HO652.out)
  replace BK641 := am_ (blk_drew BK641.out)
  replace BK642 := am_ (blk_drew BK642.out)
  replace BK655 := am_ (blk_drew BK655.out)
  replace HI646 := am_ (IsS125.drew HI646.out)
  replace HB := am_ (below_drew1 HB.out)
  refine start_ (n := 5) (S := fun w' => w'.cell? ⟨gb655, 0, none⟩ = some (.slice Ao12 t647.length co12) ∧ w'.cell? ⟨gb655, 1, none⟩ = some (.slice Ao17 t650.length co17)) (ds := []) #[false, false, false, false, false] (by kernel_rfl) rfl rfl ⟨(blk_cell BK655.out 0).trans rfl, (blk_cell BK655.out 1).trans rfl⟩ (fun hHeld => ?_)
  generalize w18.drew = w19 at HO649 HO652 BK641 BK642 BK655 HI646 HB hHeld ⊢
  refine take_ (i := 0) (N := some 12) (v := ?_) (a' := ?_) #[true, false, false, false, false] rfl rfl (by kernel_rfl) (fun _ _ _ h => h) (Or.inl ⟨by rfl, ?_⟩) hHeld ?_ ?_
  rotate_left; (focus (rintro w' ⟨s0, s1⟩; go_simp; with_reducible rfl)); rotate_left; (focus (simp only [pn_, sz_, ss_, i64_w, i32_w]; rfl))
  refine take_ (i := 1) (N := some 13) (v := ?_) (a' := ?_) #[true, true, false, false, false] rfl rfl (by kernel_rfl) (fun _ _ _ h => h) (Or.inl ⟨by rfl, ?_⟩) hHeld ?_ ?_
  rotate_left; (focus (rintro w' ⟨s0, s1⟩; go_simp; with_reducible rfl)); rotate_left; (focus (simp only [pn_, sz_, ss_, i64_w, i32_w]; rfl))
  refine one_ (i := 2) (N := some 14) #[true, true, true, false, false] rfl rfl (by kernel_rfl) (by decide) (fun K hK => ?_)
  refine gO_ Try.func33 #[.agg #[.slice Ao12 t647.length co12, .slice Ao17 t650.length co17]] ?_
  with_reducible refine (spec_MinimizeDfa.calls k _ _ t647 _ _ t650 t659 t662 _ ?side1 ?side2 ?side3 ?side4 A6.out).mono ?_
  (case side1 => exact rc_ ((Kd.R_reads' HO649.out).2.2))
  (case side2 => exact (Kd.R_reads' HO649.out).2.1)
  (case side3 => exact rc_ ((Kd.S_reads' HO652.out).2.2))
  (case side4 => exact (Kd.S_reads' HO652.out).2.1)
  rintro e w20 ⟨v660, v663, rfl, ho0, ho1, hb⟩
  refine ⟨_, rfl, ?_⟩
  replace HO661 := am_ (Kd.R_lower (Kd.R_new' ho0 (Kd.R_lt (rr_ HO649.out))) (below_size (b4_ HB.out (IsS125.ge HI646.out) GE641.out GE642.out GE655.out)))
  replace HO649 := am_ (Kd.R_elder' (rr_ HO649.out) (Kd.R_base ho0) hb)
  replace HO664 := am_ (Kd.S_lower (Kd.S_new' ho1 (Kd.S_lt (rs_ HO652.out))) (below_size (b4_ HB.out (IsS125.ge HI646.out) GE641.out GE642.out GE655.out)))
  replace HO652 := am_ (Kd.S_elder' (rs_ HO652.out) (Kd.S_base ho1) hb)
  replace BK641 := am_ (blk_below (rb_ BK641.out) hb)
  replace BK642 := am_ (blk_below (rb_ BK642.out) hb)
  replace BK655 := am_ (blk_below (rb_ BK655.out) hb)
  replace HB := am_ (below_step (b4_ HB.out (IsS125.ge HI646.out) GE641.out GE642.out GE655.out) hb)
  replace HI646 := am_ (IsS125.below (zp31_1_ HI646.out NB646_641.out NB646_642.out NB646_655.out) hb)
  (try clear hb)
  (try clear hb2)
  (try clear hk)
  (try clear hi)
  (try clear ho0)
  (try clear ho1)
  obtain ⟨Ao23, co23, eo23⟩ := Kd.R_slice HO661.out
  (first | subst eo23 | (injection eo23 with f1_ f2_ f3_; have f4_ := f1_.symm; have f5_ := f3_.symm; clear f1_ f2_ f3_; subst f4_; subst f5_))
  obtain ⟨Ao25, co25, eo25⟩ := Kd.S_slice HO664.out
  (first | subst eo25 | (injection eo25 with f1_ f2_ f3_; have f4_ := f1_.symm; have f5_ := f3_.symm; clear f1_ f2_ f3_; subst f4_; subst f5_))
  refine hK.out _ _ ⟨(blk_cell BK655.out 0).trans rfl, (blk_cell BK655.out 1).trans rfl⟩ (fun hHeld => ?_)
  clear hK K
  refine norm_ (a' := ?_) ?_ ?_
  rotate_left
  ·show Act.put _ (some 14) _ = _
   simp only [pn_, sz_, ss_, i64_w, i32_w]
   rfl
  refine one_ (i := 3) (N := none) #[true, true, true, true, false] rfl rfl (by kernel_rfl) (by decide) (fun K hK => ?_)
  have hs21 : w20.cell? ⟨gb641, 0, none⟩ = some (.slice none 0 0) := (blk_cell BK641.out 0).trans rfl
  have hfs21 := blk_frozen BK641.out 0
  have hns21_1 := NB642_641.out
  have hns21_2 := NB655_641.out
  have hms21_1 := NB641_642.out
  have hms21_2 := NB641_655.out
  have hs22 : w20.cell? ⟨gb641, 1, none⟩ = some (.slice none 0 0) := (blk_cell BK641.out 1).trans rfl
  have hfs22 := blk_frozen BK641.out 1
  have hns22_1 := NB642_641.out
  have hns22_2 := NB655_641.out
  have hms22_1 := NB641_642.out
  have hms22_2 := NB641_655.out
  refine skip_ (w1 := ?_) (by rfl) rfl ?_ ?_
  rotate_left
  ·go_simp
   rfl
  refine hK.out _ _ ⟨((cell_far (p := ⟨gb641, _, none⟩) NB655_641.out _).trans (((cell_far (p := ⟨gb641, _, none⟩) NB655_641.out _).trans (hHeld.1)))), ((cell_far (p := ⟨gb641, _, none⟩) NB655_641.out _).trans (((cell_far (p := ⟨gb641, _, none⟩) NB655_641.out _).trans (hHeld.2))))⟩ (fun hHeld => ?_)
  clear hK K
  refine one_ (i := 4) (N := none) #[true, true, true, true, true] rfl rfl (by kernel_rfl) (by decide) (fun K hK => ?_)
  have hs24 : w20.cell? ⟨gb642, 0, none⟩ = some (.slice none 0 0) := (blk_cell BK642.out 0).trans rfl
  have hfs24 := blk_frozen BK642.out 0
  have hns24_0 := NB641_642.out
  have hns24_2 := NB655_642.out
  have hms24_0 := NB642_641.out
  have hms24_2 := NB642_655.out
  have hs26 : w20.cell? ⟨gb642, 1, none⟩ = some (.slice none 0 0) := (blk_cell BK642.out 1).trans rfl
  have hfs26 := blk_frozen BK642.out 1
  have hns26_0 := NB641_642.out
  have hns26_2 := NB655_642.out
  have hms26_0 := NB642_641.out
  have hms26_2 := NB642_655.out
  refine skip_ (w1 := ?_) (by rfl) rfl ?_ ?_
  rotate_left
  ·go_simp
   rfl
  refine hK.out _ _ ⟨((cell_far (p := ⟨gb642, _, none⟩) NB655_642.out _).trans (((cell_far (p := ⟨gb642, _, none⟩) NB655_642.out _).trans (hHeld.1)))), ((cell_far (p := ⟨gb642, _, none⟩) NB655_642.out _).trans (((cell_far (p := ⟨gb642, _, none⟩) NB655_642.out _).trans (hHeld.2))))⟩ (fun hHeld => ?_)
  clear hK K
  refine done_ (by kernel_rfl) ?_
  try go_wp2
  refine bodyPost_ret (results_cc rfl _ _ gb641 gb642 27 27 #[.slice Ao12 t647.length co12, .slice Ao17 t650.length co17] #[.slice Ao23 t659.length co23, .slice Ao25 t662.length co25] (0, 0) (0, 0) _ _ rfl (by refine rb_ ?_; refine blk_far ?_ NB641_642.out _; refine rb_ ?_; refine blk_far ?_ NB641_642.out _; refine rb_ ?_; refine blk_put (cs := #[.slice Ao12 t647.length co12, .slice none 0 0]) ?_ 1 _ rfl; refine rb_ ?_; refine blk_put (cs := #[.slice none 0 0, .slice none 0 0]) ?_ 0 _ rfl; refine rb_ ?_; exact BK641.out) Try.underlying27 rfl (by kernel_rfl) rfl (by refine rb_ ?_; refine blk_put (cs := #[.slice Ao23 t659.length co23, .slice none 0 0]) ?_ 1 _ rfl; refine rb_ ?_; refine blk_put (cs := #[.slice none 0 0, .slice none 0 0]) ?_ 0 _ rfl; refine rb_ ?_; refine blk_far ?_ NB642_641.out _; refine rb_ ?_; refine blk_far ?_ NB642_641.out _; refine rb_ ?_; exact BK642.out) Try.underlying27 rfl (by kernel_rfl)) rfl ?_
  exact ⟨_, _, _, _, by first | rfl | (simp [errW_none, errW_some] <;> rfl) | (simp [*, errW_none, errW_some] <;> rfl), by refine rr_ ?_; exact Kd.R_mono (Kd.R_far (p := ⟨gb642, 1, none⟩) (Kd.R_far (p := ⟨gb642, 0, none⟩) (Kd.R_far (p := ⟨gb641, 1, none⟩) (Kd.R_far (p := ⟨gb641, 0, none⟩) (Kd.R_types (Kd.R_types HO649.out BK641.out (by decide)) BK642.out (by decide)) (fun _ hk => hk.1.2) (.slice Ao12 t647.length co12)) (fun _ hk => hk.1.2) (.slice Ao17 t650.length co17)) (fun _ hk => hk.2) (.slice Ao23 t659.length co23)) (fun _ hk => hk.2) (.slice Ao25 t662.length co25)) (fun _ hk => hk.1.1.2), by refine rs_ ?_; exact Kd.S_mono (Kd.S_far (p := ⟨gb642, 1, none⟩) (Kd.S_far (p := ⟨gb642, 0, none⟩) (Kd.S_far (p := ⟨gb641, 1, none⟩) (Kd.S_far (p := ⟨gb641, 0, none⟩) (Kd.S_types (Kd.S_types HO652.out BK641.out (by decide)) BK642.out (by decide)) (fun _ hk => hk.1.2) (.slice Ao12 t647.length co12)) (fun _ hk => hk.1.2) (.slice Ao17 t650.length co17)) (fun _ hk => hk.2) (.slice Ao23 t659.length co23)) (fun _ hk => hk.2) (.slice Ao25 t662.length co25)) (fun _ hk => hk.1.1.2), by refine rr_ ?_; exact Kd.R_mono (Kd.R_far (p := ⟨gb642, 1, none⟩) (Kd.R_far (p := ⟨gb642, 0, none⟩) (Kd.R_far (p := ⟨gb641, 1, none⟩) (Kd.R_far (p := ⟨gb641, 0, none⟩) (Kd.R_types (Kd.R_types HO661.out BK641.out (by decide)) BK642.out (by decide)) (fun _ hk => hk.1.2) (.slice Ao12 t647.length co12)) (fun _ hk => hk.1.2) (.slice Ao17 t650.length co17)) (fun _ hk => hk.2) (.slice Ao23 t659.length co23)) (fun _ hk => hk.2) (.slice Ao25 t662.length co25)) (fun _ hk => hk.1.1.2), by refine rs_ ?_; exact Kd.S_mono (Kd.S_far (p := ⟨gb642, 1, none⟩) (Kd.S_far (p := ⟨gb642, 0, none⟩) (Kd.S_far (p := ⟨gb641, 1, none⟩) (Kd.S_far (p := ⟨gb641, 0, none⟩) (Kd.S_types (Kd.S_types HO664.out BK641.out (by decide)) BK642.out (by decide)) (fun _ hk => hk.1.2) (.slice Ao12 t647.length co12)) (fun _ hk => hk.1.2) (.slice Ao17 t650.length co17)) (fun _ hk => hk.2) (.slice Ao23 t659.length co23)) (fun _ hk => hk.2) (.slice Ao25 t662.length co25)) (fun _ hk => hk.1.1.2), by exact zp31_2_ HB.out (IsS125.ge HI646.out) GE641.out GE642.out GE655.out⟩
 ·replace c5 := Bool.eq_false_iff.mpr c5
  subst c5
  have H1 : ((spec_l5Bent.f k t643 t657 t658).bind fun bt665 => (some (t647, t650, bt665.1, bt665.2.1))) = some (r1, r2, r3, r4) := by rw [if_neg (show ¬ (false = true) by decide)] at H; exact H
  clear H
  have H := H1
  clear H1
  replace H := Option.bind_eq_some_iff.mp H
  obtain ⟨⟨t665, t668, t671, t672⟩, A270, H⟩ := H
  replace H : (some (t647, t650, t665, t668)) = some (r1, r2, r3, r4) := H
  have A27 := am_ A270
  clear A270
  simp only [Option.some.injEq, Prod.mk.injEq] at H
  obtain ⟨rfl, rfl, rfl, rfl⟩ := H
  go_enter Try.func28, Try.ntmps28
  try go_wp2_with (first | ((with_reducible refine gate_dst (N := 2) rfl ?_); refine box_event ?hg (N := 2) ?hd (cs := #[.slice none 0 0, .slice none 0 0]) (t := 27) ?hr ?_; (case hd => rfl); (case hg => rfl); (case hr => first | (go_simp; done) | (go_simp; rfl)); intro gb641 hg w28 hbox hb; replace BK641 := am_ (hbox); replace GW641 := am_ ((by rw [hg]; exact (below_size (b0_ HB.out)) : w.heap.size ≤ gb641)); replace GE641 := am_ ((by rw [hg]; exact (below_size (b0_ HB.out)) : w.heap.size ≤ gb641)); replace HB := am_ (below_step (b0_ HB.out) hb); clear hb hbox hg) | ((with_reducible refine gate_dst (N := 3) rfl ?_); refine box_event ?hg (N := 3) ?hd (cs := #[.slice none 0 0, .slice none 0 0]) (t := 27) ?hr ?_; (case hd => rfl); (case hg => rfl); (case hr => first | (go_simp; done) | (go_simp; rfl)); intro gb642 hg w29 hbox hb; have n0_ := am_ (blk_below (rb_ BK641.out) hb); have n1_ := am_ (below_step (b1_ HB.out GE641.out) hb); have n2_ := am_ (hbox); have n3_ := am_ ((by rw [hg]; exact (below_size (b1_ HB.out GE641.out)) : w.heap.size ≤ gb642)); have n4_ := am_ ((by rw [hg]; exact (below_size (b1_ HB.out GE641.out)) : w.heap.size ≤ gb642)); have n5_ := am_ ((by rw [hg]; exact Nat.ne_of_lt (blk_lt (rb_ BK641.out)) : gb641 ≠ gb642)); have n6_ := am_ ((by rw [hg]; exact Nat.ne_of_gt (blk_lt (rb_ BK641.out)) : gb642 ≠ gb641)); clear BK641; clear HB; have BK641 := n0_; have HB := n1_; have BK642 := n2_; have GW642 := n3_; have GE642 := n4_; have NB641_642 := n5_; have NB642_641 := n6_; clear n0_ n1_ n2_ n3_ n4_ n5_ n6_; clear hb hbox hg) | ((with_reducible refine gate_callee (f := 85) rfl ?_); refine gL_ (some 7) Try.func85 #[.slice A0 l0.length c0] ?_; (with_reducible refine (spec_l1New.calls k _ _ l0 t643 t644 t645 w _ ?side1 ?side2 ?side3 A2.out).mono ?_); (case side1 => repeat (first | (with_reducible first | exact HB.out | apply below_alloc | apply pw_below_drewN | apply below_drew1 | refine below_set ?_ GE641.out | refine below_set ?_ GE642.out) | exact HB.out)); (case side2 => exact HR0.out); (case side3 => exact HC0.out); rintro e w30 ⟨g646, rfl, hi, hb, hb2⟩; refine ⟨_, rfl, ?_⟩; have n0_ := am_ (blk_below (rb_ BK641.out) hb2); have n1_ := am_ (blk_below (rb_ BK642.out) hb2); have n2_ := am_ (hb); have n3_ := am_ (hi); have n4_ := am_ (IsS125.ne_blk hi (blk_below (rb_ BK641.out) hb2) (by decide)); have n5_ := am_ (Ne.symm (IsS125.ne_blk hi (blk_below (rb_ BK641.out) hb2) (by decide))); have n6_ := am_ (IsS125.ne_blk hi (blk_below (rb_ BK642.out) hb2) (by decide)); have n7_ := am_ (Ne.symm (IsS125.ne_blk hi (blk_below (rb_ BK642.out) hb2) (by decide))); clear BK641; clear BK642; clear HB; have BK641 := n0_; have BK642 := n1_; have HB := n2_; have HI646 := n3_; have NB646_641 := n4_; have NB641_646 := n5_; have NB646_642 := n6_; have NB642_646 := n7_; clear n0_ n1_ n2_ n3_ n4_ n5_ n6_ n7_; (try clear hb); (try clear hb2); (try clear hk); (try clear hi)) | ((with_reducible refine gate_callee (f := 86) rfl ?_); refine gL_ (some 9) Try.func86 #[.pointer (some ⟨g646, 0, none⟩), .int .i64 4] ?_; (with_reducible refine (spec_l5Draw.calls k g646 t643 t644 t645 4 t647 t650 t653 t654 w _ ?side1 ?side2 A3.out).mono ?_); (case side1 => exact zp31_0_ HI646.out NB646_641.out NB646_642.out); (case side2 => repeat (first | (with_reducible first | exact HB.out | apply below_alloc | apply pw_below_drewN | apply below_drew1 | refine below_set ?_ (IsS125.ge HI646.out) | refine below_set ?_ GE641.out | refine below_set ?_ GE642.out) | exact HB.out)); rintro e w31 ⟨v648, v651, rfl, ho0, ho1, hi, hb, hk⟩; refine ⟨_, rfl, ?_⟩; have n0_ := am_ (KeepBut.blk hk (g' := gb641) (o := .cells #[.slice none 0 0, .slice none 0 0] 27 (0, 0)) (rb_ BK641.out) NB641_646.out (by simp)); have n1_ := am_ (KeepBut.blk hk (g' := gb642) (o := .cells #[.slice none 0 0, .slice none 0 0] 27 (0, 0)) (rb_ BK642.out) NB642_646.out (by simp)); have n2_ := am_ (Kd.R_lower ho0 (below_size (b3_ HB.out (IsS125.ge HI646.out) GE641.out GE642.out))); have n3_ := am_ (Kd.S_lower ho1 (below_size (b3_ HB.out (IsS125.ge HI646.out) GE641.out GE642.out))); have n4_ := am_ (hb); have n5_ := am_ (hi); clear BK641; clear BK642; clear HB; clear HI646; have BK641 := n0_; have BK642 := n1_; have HO649 := n2_; have HO652 := n3_; have HB := n4_; have HI646 := n5_; clear n0_ n1_ n2_ n3_ n4_ n5_; (try clear hb); (try clear hb2); (try clear hk); (try clear hi); (try clear ho0); (try clear ho1)) | ((with_reducible refine gate_dst (N := 5) rfl ?_); refine box_event ?hg (N := 5) ?hd (cs := #[.slice none 0 0, .slice none 0 0]) (t := 27) ?hr ?_; (case hd => rfl); (case hg => rfl); (case hr => first | (go_simp; done) | (go_simp; rfl)); intro gb655 hg w32 hbox hb; have n0_ := am_ (Kd.R_below (rr_ HO649.out) hb); have n1_ := am_ (Kd.S_below (rs_ HO652.out) hb); have n2_ := am_ (blk_below (rb_ BK641.out) hb); have n3_ := am_ (blk_below (rb_ BK642.out) hb); have n4_ := am_ (IsS125.below (zp31_0_ HI646.out NB646_641.out NB646_642.out) hb); have n5_ := am_ (below_step (b3_ HB.out (IsS125.ge HI646.out) GE641.out GE642.out) hb); have n6_ := am_ (hbox); have n7_ := am_ ((by rw [hg]; exact (below_size (b3_ HB.out (IsS125.ge HI646.out) GE641.out GE642.out)) : w.heap.size ≤ gb655)); have n8_ := am_ ((by rw [hg]; exact (below_size (b3_ HB.out (IsS125.ge HI646.out) GE641.out GE642.out)) : w.heap.size ≤ gb655)); have n9_ := am_ ((by rw [hg]; exact Nat.ne_of_lt (blk_lt (rb_ BK641.out)) : gb641 ≠ gb655)); have n10_ := am_ ((by rw [hg]; exact Nat.ne_of_gt (blk_lt (rb_ BK641.out)) : gb655 ≠ gb641)); have n11_ := am_ ((by rw [hg]; exact Nat.ne_of_lt (blk_lt (rb_ BK642.out)) : gb642 ≠ gb655)); have n12_ := am_ ((by rw [hg]; exact Nat.ne_of_gt (blk_lt (rb_ BK642.out)) : gb655 ≠ gb642)); have n13_ := am_ ((by rw [hg]; exact Nat.ne_of_lt (IsS125.lt (show IsS125 w _ g646 t643 t653 t654 from by exact zp31_0_ HI646.out NB646_641.out NB646_642.out)) : g646 ≠ gb655)); have n14_ := am_ ((by rw [hg]; exact Nat.ne_of_gt (IsS125.lt (show IsS125 w _ g646 t643 t653 t654 from by exact zp31_0_ HI646.out NB646_641.out NB646_642.out)) : gb655 ≠ g646)); clear HO649; clear HO652; clear BK641; clear BK642; clear HI646; clear HB; have HO649 := n0_; have HO652 := n1_; have BK641 := n2_; have BK642 := n3_; have HI646 := n4_; have HB := n5_; have BK655 := n6_; have GW655 := n7_; have GE655 := n8_; have NB641_655 := n9_; have NB655_641 := n10_; have NB642_655 := n11_; have NB655_642 := n12_; have NB646_655 := n13_; have NB655_646 := n14_; clear n0_ n1_ n2_ n3_ n4_ n5_ n6_ n7_ n8_ n9_ n10_ n11_ n12_ n13_ n14_; clear hb hbox hg; obtain ⟨Ao33, co33, eo33⟩ := Kd.R_slice HO649.out; subst eo33; have hnb34 := NB655_641.out; have hnc34 := NB641_655.out; have hnb35 := NB655_642.out; have hnc35 := NB642_655.out; have hnb36 := NB655_646.out; have hnc36 := NB646_655.out; have hcz37_0 : w32.cell? ⟨gb655, 0, none⟩ = some (.slice none 0 0) := (blk_cell BK655.out 0).trans rfl; have hcz37_1 : w32.cell? ⟨gb655, 1, none⟩ = some (.slice none 0 0) := (blk_cell BK655.out 1).trans rfl; have hfz37_0 := blk_frozen BK655.out 0; have hfz37_1 := blk_frozen BK655.out 1; obtain ⟨Ao38, co38, eo38⟩ := Kd.S_slice HO652.out; subst eo38) | ((with_reducible refine gate_callee (f := 87) rfl ?_); refine gL_ (some 11) Try.func87 #[.pointer (some ⟨g646, 0, none⟩), .int .i64 3] ?_; (with_reducible refine (spec_l1Once.calls g646 t643 t653 t654 3 false t657 t658 w _ ?side1 ?side2 A4.out).mono ?_); (case side1 => exact zp31_1_ HI646.out NB646_641.out NB646_642.out NB646_655.out); (case side2 => exact zp31_2_ HB.out (IsS125.ge HI646.out) GE641.out GE642.out GE655.out); rintro e w39 ⟨rfl, hi, hb, hk⟩; refine ⟨_, rfl, ?_⟩; have n0_ := am_ (KeepBut.blk hk (g' := gb641) (o := .cells #[.slice none 0 0, .slice none 0 0] 27 (0, 0)) (by refine rb_ ?_; refine blk_far ?_ NB641_655.out _; refine rb_ ?_; refine blk_far ?_ NB641_655.out _; refine rb_ ?_; exact BK641.out) NB641_646.out (by simp)); have n1_ := am_ (KeepBut.blk hk (g' := gb642) (o := .cells #[.slice none 0 0, .slice none 0 0] 27 (0, 0)) (by refine rb_ ?_; refine blk_far ?_ NB642_655.out _; refine rb_ ?_; refine blk_far ?_ NB642_655.out _; refine rb_ ?_; exact BK642.out) NB642_646.out (by simp)); have n2_ := am_ (Kd.R_mono (Kd.R_keep (IsS125.apart (show IsS125 w _ g646 t643 t653 t654 from by exact zp31_1_ HI646.out NB646_641.out NB646_642.out NB646_655.out) (rr_ (Kd.R_mono (Kd.R_far (p := ⟨gb655, 1, none⟩) (Kd.R_far (p := ⟨gb655, 0, none⟩) (Kd.R_types HO649.out BK655.out (by decide)) (fun _ hk => hk.2) (.slice Ao33 t647.length co33)) (fun _ hk => hk.2) (.slice Ao38 t650.length co38)) (fun _ h_ => h_.1))) (by decide)) hk (fun _ h => h.2)) (fun _ h => h.1)); have n3_ := am_ (Kd.S_mono (Kd.S_keep (IsS125.apartS (show IsS125 w _ g646 t643 t653 t654 from by exact zp31_1_ HI646.out NB646_641.out NB646_642.out NB646_655.out) (rs_ (Kd.S_mono (Kd.S_far (p := ⟨gb655, 1, none⟩) (Kd.S_far (p := ⟨gb655, 0, none⟩) (Kd.S_types HO652.out BK655.out (by decide)) (fun _ hk => hk.2) (.slice Ao33 t647.length co33)) (fun _ hk => hk.2) (.slice Ao38 t650.length co38)) (fun _ h_ => h_.1))) (by decide)) hk (fun _ h => h.2)) (fun _ h => h.1)); have n4_ := am_ (KeepBut.blk hk (g' := gb655) (o := .cells #[.slice Ao33 t647.length co33, .slice Ao38 t650.length co38] 27 (0, 0)) (by refine rb_ ?_; refine blk_put (cs := #[.slice Ao33 t647.length co33, .slice none 0 0]) ?_ 1 _ rfl; refine rb_ ?_; refine blk_put (cs := #[.slice none 0 0, .slice none 0 0]) ?_ 0 _ rfl; refine rb_ ?_; exact BK655.out) NB655_646.out (by simp)); have n5_ := am_ (hb); have n6_ := am_ (hi); clear BK641; clear BK642; clear HO649; clear HO652; clear BK655; clear HB; clear HI646; have BK641 := n0_; have BK642 := n1_; have HO649 := n2_; have HO652 := n3_; have BK655 := n4_; have HB := n5_; have HI646 := n6_; clear n0_ n1_ n2_ n3_ n4_ n5_ n6_; (try clear hb); (try clear hb2); (try clear hk); (try clear hi)))
  replace HO649 := am_ (Kd.R_drew HO649.out)
  replace HO652 := am_ (Kd.S_drew HO652.out)
  replace BK641 := am_ (blk_drew BK641.out)
  replace BK642 := am_ (blk_drew BK642.out)
  replace BK655 := am_ (blk_drew BK655.out)
  replace HI646 := am_ (IsS125.drew HI646.out)
  replace HB := am_ (below_drew1 HB.out)
  refine start_ (n := 5) (S := fun w' => w'.cell? ⟨gb655, 0, none⟩ = some (.slice Ao33 t647.length co33) ∧ w'.cell? ⟨gb655, 1, none⟩ = some (.slice Ao38 t650.length co38)) (ds := []) #[false, false, false, false, false] (by kernel_rfl) rfl rfl ⟨(blk_cell BK655.out 0).trans rfl, (blk_cell BK655.out 1).trans rfl⟩ (fun hHeld => ?_)
  generalize w39.drew = w40 at HO649 HO652 BK641 BK642 BK655 HI646 HB hHeld ⊢
  refine pure_ (i := 1) (N := some 16) (v := ?_) (a' := ?_) #[false, true, false, false, false] rfl rfl (by kernel_rfl) (fun _ _ _ h => h) (Or.inl ⟨by rfl, ?_⟩) ?_ ?_
  rotate_left; (focus (intro w'; go_simp; with_reducible rfl)); rotate_left; (focus (simp only [pn_, sz_, ss_, i64_w, i32_w]; rfl))
  refine take_ (i := 0) (N := some 15) (v := ?_) (a' := ?_) #[true, true, false, false, false] rfl rfl (by kernel_rfl) (fun _ _ _ h => h) (Or.inl ⟨by rfl, ?_⟩) hHeld ?_ ?_
  rotate_left; (focus (rintro w' ⟨s0, s1⟩; go_simp; with_reducible rfl)); rotate_left; (focus (simp only [pn_, sz_, ss_, i64_w, i32_w]; rfl))
  refine one_ (i := 2) (N := some 17) #[true, true, true, false, false] rfl rfl (by kernel_rfl) (by decide) (fun K hK => ?_)
  refine gO_ Try.func88 #[.pointer (some ⟨g646, 0, none⟩)] ?_
  with_reducible refine (spec_l5Bent.calls k g646 t643 t657 t658 t665 t668 t671 t672 w _ ?side1 ?side2 A27.out).mono ?_
  (case side1 => exact zp31_1_ HI646.out NB646_641.out NB646_642.out NB646_655.out)
  (case side2 => exact zp31_2_ HB.out (IsS125.ge HI646.out) GE641.out GE642.out GE655.out)
  rintro e w41 ⟨v666, v669, rfl, ho0, ho1, hi, hb, hk⟩
  refine ⟨_, rfl, ?_⟩
  replace BK641 := am_ (KeepBut.blk hk (g' := gb641) (o := .cells #[.slice none 0 0, .slice none 0 0] 27 (0, 0)) (rb_ BK641.out) NB641_646.out (by simp))
  replace BK642 := am_ (KeepBut.blk hk (g' := gb642) (o := .cells #[.slice none 0 0, .slice none 0 0] 27 (0, 0)) (rb_ BK642.out) NB642_646.out (by simp))
  replace BK655 := am_ (KeepBut.blk hk (g' := gb655) (o := .cells #[.slice Ao33 t647.length co33, .slice Ao38 t650.length co38] 27 (0, 0)) (rb_ BK655.out) NB655_646.out (by simp))
  replace HO667 := am_ (Kd.R_lower (Kd.R_new' ho0 (Kd.R_lt (rr_ HO649.out))) (below_size (b4_ HB.out (IsS125.ge HI646.out) GE641.out GE642.out GE655.out)))
  replace HO649 := am_ (Kd.R_mono (Kd.R_told (Kd.R_oldK (IsS125.apart (show IsS125 w _ g646 t643 t657 t658 from by exact zp31_1_ HI646.out NB646_641.out NB646_642.out NB646_655.out) (rr_ HO649.out) (by decide)) hk) (Kd.R_base ho0)) (fun _ h_ => h_.1))
  replace HO670 := am_ (Kd.S_lower (Kd.S_new' ho1 (Kd.S_lt (rs_ HO652.out))) (below_size (b4_ HB.out (IsS125.ge HI646.out) GE641.out GE642.out GE655.out)))
  replace HO652 := am_ (Kd.S_mono (Kd.S_told (Kd.S_oldK (IsS125.apartS (show IsS125 w _ g646 t643 t657 t658 from by exact zp31_1_ HI646.out NB646_641.out NB646_642.out NB646_655.out) (rs_ HO652.out) (by decide)) hk) (Kd.S_base ho1)) (fun _ h_ => h_.1))
  replace HB := am_ (hb)
  replace HI646 := am_ (hi)
  (try clear hb)
  (try clear hb2)
  (try clear hk)
  (try clear hi)
  (try clear ho0)
  (try clear ho1)
  obtain ⟨Ao44, co44, eo44⟩ := Kd.R_slice HO667.out
  (first | subst eo44 | (injection eo44 with f1_ f2_ f3_; have f4_ := f1_.symm; have f5_ := f3_.symm; clear f1_ f2_ f3_; subst f4_; subst f5_))
  obtain ⟨Ao46, co46, eo46⟩ := Kd.S_slice HO670.out
  (first | subst eo46 | (injection eo46 with f1_ f2_ f3_; have f4_ := f1_.symm; have f5_ := f3_.symm; clear f1_ f2_ f3_; subst f4_; subst f5_))
  refine hK.out _ _ ⟨(blk_cell BK655.out 0).trans rfl, (blk_cell BK655.out 1).trans rfl⟩ (fun hHeld => ?_)
  clear hK K
  refine norm_ (a' := ?_) ?_ ?_
  rotate_left
  ·show Act.put _ (some 17) _ = _
   simp only [pn_, sz_, ss_, i64_w, i32_w]
   rfl
  refine one_ (i := 3) (N := none) #[true, true, true, true, false] rfl rfl (by kernel_rfl) (by decide) (fun K hK => ?_)
  have hs42 : w41.cell? ⟨gb641, 0, none⟩ = some (.slice none 0 0) := (blk_cell BK641.out 0).trans rfl
  have hfs42 := blk_frozen BK641.out 0
  have hns42_1 := NB642_641.out
  have hns42_2 := NB655_641.out
  have hms42_1 := NB641_642.out
  have hms42_2 := NB641_655.out
  have hs43 : w41.cell? ⟨gb641, 1, none⟩ = some (.slice none 0 0) := (blk_cell BK641.out 1).trans rfl
  have hfs43 := blk_frozen BK641.out 1
  have hns43_1 := NB642_641.out
  have hns43_2 := NB655_641.out
  have hms43_1 := NB641_642.out
  have hms43_2 := NB641_655.out
  refine skip_ (w1 := ?_) (by rfl) rfl ?_ ?_
  rotate_left
  ·go_simp
   rfl
  refine hK.out _ _ ⟨((cell_far (p := ⟨gb641, _, none⟩) NB655_641.out _).trans (((cell_far (p := ⟨gb641, _, none⟩) NB655_641.out _).trans (hHeld.1)))), ((cell_far (p := ⟨gb641, _, none⟩) NB655_641.out _).trans (((cell_far (p := ⟨gb641, _, none⟩) NB655_641.out _).trans (hHeld.2))))⟩ (fun hHeld => ?_)
  clear hK K
  refine one_ (i := 4) (N := none) #[true, true, true, true, true] rfl rfl (by kernel_rfl) (by decide) (fun K hK => ?_)
  have hs45 : w41.cell? ⟨gb642, 0, none⟩ = some (.slice none 0 0) := (blk_cell BK642.out 0).trans rfl
  have hfs45 := blk_frozen BK642.out 0
  have hns45_0 := NB641_642.out
  have hns45_2 := NB655_642.out
  have hms45_0 := NB642_641.out
  have hms45_2 := NB642_655.out
  have hs47 : w41.cell? ⟨gb642, 1, none⟩ = some (.slice none 0 0) := (blk_cell BK642.out 1).trans rfl
  have hfs47 := blk_frozen BK642.out 1
  have hns47_0 := NB641_642.out
  have hns47_2 := NB655_642.out
  have hms47_0 := NB642_641.out
  have hms47_2 := NB642_655.out
  refine skip_ (w1 := ?_) (by rfl) rfl ?_ ?_
  rotate_left
  ·go_simp
   rfl
  refine hK.out _ _ ⟨((cell_far (p := ⟨gb642, _, none⟩) NB655_642.out _).trans (((cell_far (p := ⟨gb642, _, none⟩) NB655_642.out _).trans (hHeld.1)))), ((cell_far (p := ⟨gb642, _, none⟩) NB655_642.out _).trans (((cell_far (p := ⟨gb642, _, none⟩) NB655_642.out _).trans (hHeld.2))))⟩ (fun hHeld => ?_)
  clear hK K
  refine done_ (by kernel_rfl) ?_
  try go_wp2
  refine bodyPost_ret (results_cc rfl _ _ gb641 gb642 27 27 #[.slice Ao33 t647.length co33, .slice Ao38 t650.length co38] #[.slice Ao44 t665.length co44, .slice Ao46 t668.length co46] (0, 0) (0, 0) _ _ rfl (by refine rb_ ?_; refine blk_far ?_ NB641_642.out _; refine rb_ ?_; refine blk_far ?_ NB641_642.out _; refine rb_ ?_; refine blk_put (cs := #[.slice Ao33 t647.length co33, .slice none 0 0]) ?_ 1 _ rfl; refine rb_ ?_; refine blk_put (cs := #[.slice none 0 0, .slice none 0 0]) ?_ 0 _ rfl; refine rb_ ?_; exact BK641.out) Try.underlying27 rfl (by kernel_rfl) rfl (by refine rb_ ?_; refine blk_put (cs := #[.slice Ao44 t665.length co44, .slice none 0 0]) ?_ 1 _ rfl; refine rb_ ?_; refine blk_put (cs := #[.slice none 0 0, .slice none 0 0]) ?_ 0 _ rfl; refine rb_ ?_; refine blk_far ?_ NB642_641.out _; refine rb_ ?_; refine blk_far ?_ NB642_641.out _; refine rb_ ?_; exact BK642.out) Try.underlying27 rfl (by kernel_rfl)) rfl ?_
  exact ⟨_, _, _, _, by first | rfl | (simp [errW_none, errW_some] <;> rfl) | (simp [*, errW_none, errW_some] <;> rfl), by refine rr_ ?_; exact Kd.R_mono (Kd.R_far (p := ⟨gb642, 1, none⟩) (Kd.R_far (p := ⟨gb642, 0, none⟩) (Kd.R_far (p := ⟨gb641, 1, none⟩) (Kd.R_far (p := ⟨gb641, 0, none⟩) (Kd.R_types (Kd.R_types HO649.out BK641.out (by decide)) BK642.out (by decide)) (fun _ hk => hk.1.2) (.slice Ao33 t647.length co33)) (fun _ hk => hk.1.2) (.slice Ao38 t650.length co38)) (fun _ hk => hk.2) (.slice Ao44 t665.length co44)) (fun _ hk => hk.2) (.slice Ao46 t668.length co46)) (fun _ hk => hk.1.1.2), by refine rs_ ?_; exact Kd.S_mono (Kd.S_far (p := ⟨gb642, 1, none⟩) (Kd.S_far (p := ⟨gb642, 0, none⟩) (Kd.S_far (p := ⟨gb641, 1, none⟩) (Kd.S_far (p := ⟨gb641, 0, none⟩) (Kd.S_types (Kd.S_types HO652.out BK641.out (by decide)) BK642.out (by decide)) (fun _ hk => hk.1.2) (.slice Ao33 t647.length co33)) (fun _ hk => hk.1.2) (.slice Ao38 t650.length co38)) (fun _ hk => hk.2) (.slice Ao44 t665.length co44)) (fun _ hk => hk.2) (.slice Ao46 t668.length co46)) (fun _ hk => hk.1.1.2), by refine rr_ ?_; exact Kd.R_mono (Kd.R_far (p := ⟨gb642, 1, none⟩) (Kd.R_far (p := ⟨gb642, 0, none⟩) (Kd.R_far (p := ⟨gb641, 1, none⟩) (Kd.R_far (p := ⟨gb641, 0, none⟩) (Kd.R_types (Kd.R_types HO667.out BK641.out (by decide)) BK642.out (by decide)) (fun _ hk => hk.1.2) (.slice Ao33 t647.length co33)) (fun _ hk => hk.1.2) (.slice Ao38 t650.length co38)) (fun _ hk => hk.2) (.slice Ao44 t665.length co44)) (fun _ hk => hk.2) (.slice Ao46 t668.length co46)) (fun _ hk => hk.1.1.2), by refine rs_ ?_; exact Kd.S_mono (Kd.S_far (p := ⟨gb642, 1, none⟩) (Kd.S_far (p := ⟨gb642, 0, none⟩) (Kd.S_far (p := ⟨gb641, 1, none⟩) (Kd.S_far (p := ⟨gb641, 0, none⟩) (Kd.S_types (Kd.S_types HO670.out BK641.out (by decide)) BK642.out (by decide)) (fun _ hk => hk.1.2) (.slice Ao33 t647.length co33)) (fun _ hk => hk.1.2) (.slice Ao38 t650.length co38)) (fun _ hk => hk.2) (.slice Ao44 t665.length co44)) (fun _ hk => hk.2) (.slice Ao46 t668.length co46)) (fun _ hk => hk.1.1.2), by exact zp31_2_ HB.out (IsS125.ge HI646.out) GE641.out GE642.out GE655.out⟩
end Go.Proofs.Ytogamkblkoobkaa.P
end
section
namespace Go.Proofs.Ytogamkblkoobkaa.P
open Go.RowKit Go.Proofs.YtogamkblkoobkaaW.PrintWords Go.Proofs.YtogamkblkoobkaaW.PrintLast Go.Proofs.YtogamkblkoobkaaW.PrintMore
attribute [local go_sem] max2_int min2_int max_two min_two max_three min_three max_four min_four
set_option linter.unusedVariables false
set_option linter.unusedSimpArgs false
def impl_within.f (a0 : Int) (a1 : Int) (a2 : Int) : Option (Bool) := if a0 ≥ a1 then (some (decide (a0 ≤ a2))) else (some false)
set_option maxHeartbeats 8000000 in
set_option maxRecDepth 100000 in
theorem impl_within.calls (a0 : Int) (a1 : Int) (a2 : Int) (r : Bool) (w : World) (h : impl_within.f a0 a1 a2 = some r) :
    Calls Try.prog 101 #[.int .i64 a0, .int .i64 a1, .int .i64 a2] w fun e w' => e = .returned (.bool r) ∧ Drawn0 w w' := by
  have H : (if a0 ≥ a1 then (some (decide (a0 ≤ a2))) else (some false)) = some r := h
  clear h
  by_cases c4 : a0 ≥ a1
  · rw [if_pos c4] at H
    have c4b0 : decide (a1 ≤ a0) = true := decide_eq_true c4
    clear c4
    obtain rfl := Option.some.inj H
    simp only [Option.some.injEq, Prod.mk.injEq] at H
    obtain ⟨rfl⟩ := H
    go_enter Try.func101, Try.ntmps101
    go_wp2
    go_ret
    exact ⟨by first | rfl | (simp; done) | (simp [*]; done), by repeat (first | exact Drawn0.refl _ | apply Drawn0.step)⟩
  · rw [if_neg c4] at H
    have c4b0 : decide (a1 ≤ a0) = false := decide_eq_false c4
    clear c4
    obtain rfl := Option.some.inj H
    simp only [Option.some.injEq, Prod.mk.injEq] at H
    obtain ⟨rfl⟩ := H
    go_enter Try.func101, Try.ntmps101
    go_wp2
    go_ret
    exact ⟨by first | rfl | (simp; done) | (simp [*]; done), by repeat (first | exact Drawn0.refl _ | apply Drawn0.step)⟩
end Go.Proofs.Ytogamkblkoobkaa.P
end
section
namespace Go.Proofs.Ytogamkblkoobkaa.Wk
open Go.RowKit Go.Shelf Go.Proofs.Ytogamkblkoobkaa.P Go.Proofs.YtogamkblkoobkaaW.PrintWords Go.Proofs.YtogamkblkoobkaaW.PrintLast Go.Proofs.YtogamkblkoobkaaW.PrintMore
set_option linter.unusedVariables false
set_option linter.unusedSimpArgs false
def Hit (p : Nat → Bool) (n : Nat) (r : Int) : Prop := decide (0 ≤ r) = (List.range n).any p
def Told (P : Int → Prop) (w : World) (e : Ending) (w' : World) : Prop := ∃ r : Int, e = .returned (.int .i64 r) ∧ P r ∧ Below w.heap.size w w'
theorem hit_at {p : Nat → Bool} {n k : Nat} (h : k < n) (hp : p k = true) : Hit p n (k : Int) := by
  unfold Hit
  rw [decide_eq_true (by omega), eq_comm, List.any_eq_true]
  exact ⟨k, List.mem_range.mpr h, hp⟩
theorem hit_none {p : Nat → Bool} {n : Nat} (h : ∀ j, j < n → p j = false) : Hit p n (-1) := by
  unfold Hit
  rw [decide_eq_false (by omega), eq_comm, List.any_eq_false]
  intro x hx
  rw [h x (List.mem_range.mp hx)]
  simp
set_option maxHeartbeats 2000000 in
theorem indexRows {vals : Nat → Value} {p : Nat → Bool} (A : Option Addr) (n c g : Nat) (lb : Array Value) (eg : ∀ args w, (callFunc g args).run Try.prog w = .ok (.enter g args) w) (w : World) (hn : n ≤ 9223372036854775807)
    (hc : 0 < n → ∃ ad : Addr, A = some ad ∧ ∀ j, j < n → w.cell? (ad.add j) = some (vals j))
    (hp : ∀ j, j < n → ∀ W, Below w.heap.size w W → Calls Try.prog g (#[vals j] ++ lb) W fun e W' => e = .returned (.bool (p j)) ∧ Below W.heap.size W W') :
    Calls Try.prog 127 #[.slice A n c, .func (.func g) #[] lb] w (Told (Hit p n) w) := by
  rcases Nat.eq_zero_or_pos n with h0 | h0
  · subst h0
    clear hc hp
    go_enter Try.func127, Try.ntmps127
    go_wp2
    go_loopg [5, 8] 0 (fun _ _ s8 wr => s8 = .int .i64 0 ∧ wr = w)
    case atStart => exact ⟨rfl, rfl⟩
    case round =>
      obtain ⟨rfl, rfl⟩ := hrel
      go_wp2
      go_ret
      exact ⟨-1, rfl, hit_none (fun j hj => by omega), Below.refl _ _⟩
  · obtain ⟨ad, rfl, hcc⟩ := hc h0
    clear hc
    have HC := am_ hcc
    clear hcc
    have HP := am_ hp
    clear hp
    go_enter Try.func127, Try.ntmps127
    go_wp2
    go_loopg [5, 8] n (fun gg _ s8 wr => ∃ kk : Nat, s8 = .int .i64 kk ∧ Aside0 (kk ≤ n) ∧ Aside0 (n - kk ≤ gg) ∧ Aside0 (Below w.heap.size w wr) ∧ Aside0 (∀ j, j < kk → p j = false))
    case atStart => exact ⟨0, rfl, ⟨Nat.zero_le _⟩, ⟨by omega⟩, ⟨Below.refl _ _⟩, ⟨fun j hj => absurd hj (Nat.not_lt_zero _)⟩⟩
    case round =>
      obtain ⟨kk, rfl, HK, HG, HB, HQ⟩ := hrel
      by_cases hlt : kk < n
      · have hltz : (kk : Int) < (n : Int) := by omega
        have hcell : wr.cell? (ad.add kk) = some (vals kk) := pw_cell_below HB.out (HC.out kk hlt)
        have hcall := am_ (HP.out kk hlt)
        generalize hy : vals kk = y at hcell hcall
        clear hy
        cases hq : p kk with
        | true =>
          rw [hq] at hcall
          have HQ1 := am_ hq
          clear hq
          go_wp2_with (go_at_fn g; refine (hcall.out _ (by exact HB.out)).mono ?_; rintro e w' ⟨rfl, hb⟩; have HB2 := am_ hb; clear hb)
          go_ret
          exact ⟨kk, rfl, hit_at hlt HQ1.out, below_then HB.out HB.out.size HB2.out⟩
        | false =>
          rw [hq] at hcall
          have HQ1 := am_ hq
          clear hq
          go_wp2_with (go_at_fn g; refine (hcall.out _ (by exact HB.out)).mono ?_; rintro e w' ⟨rfl, hb⟩; have HB2 := am_ hb; clear hb)
          go_roundg (n - (kk + 1))
          case measure => have := HG.out; omega
          case rel =>
            refine ⟨kk + 1, by go_num, ⟨by omega⟩, ⟨by omega⟩, ⟨below_then HB.out HB.out.size HB2.out⟩, ⟨fun j hj => ?_⟩⟩
            by_cases e : j = kk
            · subst e; exact HQ1.out
            · exact HQ.out j (by omega)
      · have hltz : ¬ (kk : Int) < (n : Int) := by omega
        have e : kk = n := by have := HK.out; omega
        subst e
        go_wp2
        go_ret
        exact ⟨-1, rfl, hit_none HQ.out, HB.out⟩
set_option maxHeartbeats 2000000 in
theorem containsRows {vals : Nat → Value} {p : Nat → Bool} (A : Option Addr) (n c g : Nat) (lb : Array Value) (eg : ∀ args w, (callFunc g args).run Try.prog w = .ok (.enter g args) w) (w : World) (hn : n ≤ 9223372036854775807)
    (hc : 0 < n → ∃ ad : Addr, A = some ad ∧ ∀ j, j < n → w.cell? (ad.add j) = some (vals j))
    (hp : ∀ j, j < n → ∀ W, Below w.heap.size w W → Calls Try.prog g (#[vals j] ++ lb) W fun e W' => e = .returned (.bool (p j)) ∧ Below W.heap.size W W') :
    Calls Try.prog 102 #[.slice A n c, .func (.func g) #[] lb] w fun e w' => e = .returned (.bool ((List.range n).any p)) ∧ Below w.heap.size w w' := by
  have h := indexRows A n c g lb eg w hn hc hp
  clear hc hp eg
  have HC := am_ h
  clear h
  go_enter Try.func102, Try.ntmps102
  go_wp2_with (go_at_call 127; refine HC.out.mono ?_; rintro e w' ⟨r, rfl, hr, hb⟩; have HR := am_ hr; clear hr; have HB := am_ hb; clear hb)
  go_ret
  have e := HR.out
  unfold Hit at e
  rw [← e]
  exact ⟨rfl, HB.out⟩
set_option maxHeartbeats 2000000 in
theorem indexNums {vals : Nat → Value} {p : Nat → Bool} (A : Option Addr) (n c g : Nat) (lb : Array Value) (eg : ∀ args w, (callFunc g args).run Try.prog w = .ok (.enter g args) w) (w : World) (hn : n ≤ 9223372036854775807)
    (hc : 0 < n → ∃ ad : Addr, A = some ad ∧ ∀ j, j < n → w.cell? (ad.add j) = some (vals j))
    (hp : ∀ j, j < n → ∀ W, Below w.heap.size w W → Calls Try.prog g (#[vals j] ++ lb) W fun e W' => e = .returned (.bool (p j)) ∧ Below W.heap.size W W') :
    Calls Try.prog 128 #[.slice A n c, .func (.func g) #[] lb] w (Told (Hit p n) w) := by
  rcases Nat.eq_zero_or_pos n with h0 | h0
  · subst h0
    clear hc hp
    go_enter Try.func128, Try.ntmps128
    go_wp2
    go_loopg [5, 8] 0 (fun _ _ s8 wr => s8 = .int .i64 0 ∧ wr = w)
    case atStart => exact ⟨rfl, rfl⟩
    case round =>
      obtain ⟨rfl, rfl⟩ := hrel
      go_wp2
      go_ret
      exact ⟨-1, rfl, hit_none (fun j hj => by omega), Below.refl _ _⟩
  · obtain ⟨ad, rfl, hcc⟩ := hc h0
    clear hc
    have HC := am_ hcc
    clear hcc
    have HP := am_ hp
    clear hp
    go_enter Try.func128, Try.ntmps128
    go_wp2
    go_loopg [5, 8] n (fun gg _ s8 wr => ∃ kk : Nat, s8 = .int .i64 kk ∧ Aside0 (kk ≤ n) ∧ Aside0 (n - kk ≤ gg) ∧ Aside0 (Below w.heap.size w wr) ∧ Aside0 (∀ j, j < kk → p j = false))
    case atStart => exact ⟨0, rfl, ⟨Nat.zero_le _⟩, ⟨by omega⟩, ⟨Below.refl _ _⟩, ⟨fun j hj => absurd hj (Nat.not_lt_zero _)⟩⟩
    case round =>
      obtain ⟨kk, rfl, HK, HG, HB, HQ⟩ := hrel
      by_cases hlt : kk < n
      · have hltz : (kk : Int) < (n : Int) := by omega
        have hcell : wr.cell? (ad.add kk) = some (vals kk) := pw_cell_below HB.out (HC.out kk hlt)
        have hcall := am_ (HP.out kk hlt)
        generalize hy : vals kk = y at hcell hcall
        clear hy
        cases hq : p kk with
        | true =>
          rw [hq] at hcall
          have HQ1 := am_ hq
          clear hq
          go_wp2_with (go_at_fn g; refine (hcall.out _ (by exact HB.out)).mono ?_; rintro e w' ⟨rfl, hb⟩; have HB2 := am_ hb; clear hb)
          go_ret
          exact ⟨kk, rfl, hit_at hlt HQ1.out, below_then HB.out HB.out.size HB2.out⟩
        | false =>
          rw [hq] at hcall
          have HQ1 := am_ hq
          clear hq
          go_wp2_with (go_at_fn g; refine (hcall.out _ (by exact HB.out)).mono ?_; rintro e w' ⟨rfl, hb⟩; have HB2 := am_ hb; clear hb)
          go_roundg (n - (kk + 1))
          case measure => have := HG.out; omega
          case rel =>
            refine ⟨kk + 1, by go_num, ⟨by omega⟩, ⟨by omega⟩, ⟨below_then HB.out HB.out.size HB2.out⟩, ⟨fun j hj => ?_⟩⟩
            by_cases e : j = kk
            · subst e; exact HQ1.out
            · exact HQ.out j (by omega)
      · have hltz : ¬ (kk : Int) < (n : Int) := by omega
        have e : kk = n := by have := HK.out; omega
        subst e
        go_wp2
        go_ret
        exact ⟨-1, rfl, hit_none HQ.out, HB.out⟩
set_option maxHeartbeats 2000000 in
theorem containsNums {vals : Nat → Value} {p : Nat → Bool} (A : Option Addr) (n c g : Nat) (lb : Array Value) (eg : ∀ args w, (callFunc g args).run Try.prog w = .ok (.enter g args) w) (w : World) (hn : n ≤ 9223372036854775807)
    (hc : 0 < n → ∃ ad : Addr, A = some ad ∧ ∀ j, j < n → w.cell? (ad.add j) = some (vals j))
    (hp : ∀ j, j < n → ∀ W, Below w.heap.size w W → Calls Try.prog g (#[vals j] ++ lb) W fun e W' => e = .returned (.bool (p j)) ∧ Below W.heap.size W W') :
    Calls Try.prog 104 #[.slice A n c, .func (.func g) #[] lb] w fun e w' => e = .returned (.bool ((List.range n).any p)) ∧ Below w.heap.size w w' := by
  have h := indexNums A n c g lb eg w hn hc hp
  clear hc hp eg
  have HC := am_ h
  clear h
  go_enter Try.func104, Try.ntmps104
  go_wp2_with (go_at_call 128; refine HC.out.mono ?_; rintro e w' ⟨r, rfl, hr, hb⟩; have HR := am_ hr; clear hr; have HB := am_ hb; clear hb)
  go_ret
  have e := HR.out
  unfold Hit at e
  rw [← e]
  exact ⟨rfl, HB.out⟩
def badState (n q : Int) : Bool := !decide (0 ≤ q) || !decide (q ≤ n - 1)
def badRow (n : Int) (row : List Int) : Bool := decide (row.length ≠ 3) || row.any (badState n)
def validD (acc : List Bool) (nxt : List (List Int)) : Bool := decide (1 ≤ acc.length) && decide (acc.length ≤ 40) && decide (nxt.length = acc.length) && !(nxt.any (badRow acc.length))
set_option maxHeartbeats 2000000 in
theorem inner (q : Int) (n : Int) (B : Nat) (hn0 : 1 ≤ n) (hn : n ≤ 40) (w : World) (hc : w.cell? ⟨B, 0, none⟩ = some (.int .i64 n)) :
    Calls Try.prog 105 #[.int .i64 q, .pointer (some ⟨B, 0, none⟩)] w fun e w' => e = .returned (.bool (badState n q)) ∧ Below w.heap.size w w' := by
  have H1 := fun W => impl_within.calls q 0 (n - 1) (decide (0 ≤ q) && decide (q ≤ n - 1)) W (by unfold impl_within.f; by_cases h : q ≥ 0 <;> simp [h])
  have HC := am_ H1
  clear H1
  go_enter Try.func105, Try.ntmps105
  go_wp2_with (go_at_call 101; refine (HC.out _).mono ?_; rintro e w' ⟨rfl, ⟨m, rfl⟩⟩)
  go_ret
  exact ⟨rfl, (Drawn0.below ⟨⟨_, rfl⟩⟩)⟩
theorem cellsInt {k : IntKind} {w : World} {A : Option Addr} {n : Nat} {xs : List Int} (h : Kd.C (Kd.int k) w A n xs) : 0 < n → ∃ ad : Addr, A = some ad ∧ ∀ j, j < n → w.cell? (ad.add j) = some (.int k (xs.getD j 0)) := by
  intro h0
  obtain ⟨ad, e, hc⟩ := h.2.2 h0
  refine ⟨ad, e, fun j hj => ?_⟩
  have hl : j < xs.length := by rw [h.1]; exact hj
  obtain ⟨c, hs, hr, hcell⟩ := hc j xs[j] (List.getElem?_eq_getElem hl)
  have hr' : c = [.int k xs[j]] := hr
  subst hr'
  have := hcell 0 _ rfl
  rw [show (Kd.int k).sz = 1 from rfl, Nat.mul_one, Nat.add_zero] at this
  rw [this, List.getD_eq_getElem?_getD, List.getElem?_eq_getElem hl]
  rfl
theorem cellsRows {e : Nat} {w : World} {A : Option Addr} {n : Nat} {xs : List (List Int)} (h : Kd.C (Kd.slice e (Kd.int .i64)) w A n xs) : 0 < n → ∃ ad : Addr, A = some ad ∧ ∀ j, j < n → ∃ A0 c0, w.cell? (ad.add j) = some (.slice A0 (xs.getD j []).length c0) ∧ Kd.C (Kd.int .i64) w A0 (xs.getD j []).length (xs.getD j []) := by
  intro h0
  obtain ⟨ad, ea, hc⟩ := h.2.2 h0
  refine ⟨ad, ea, fun j hj => ?_⟩
  have hl : j < xs.length := by rw [h.1]; exact hj
  obtain ⟨c, hs, hr, hcell⟩ := hc j xs[j] (List.getElem?_eq_getElem hl)
  obtain ⟨A0, c0, rfl, h1, h2⟩ := hr
  have := hcell 0 _ rfl
  rw [show (Kd.slice e (Kd.int .i64)).sz = 1 from rfl, Nat.mul_one, Nat.add_zero] at this
  rw [List.getD_eq_getElem?_getD, List.getElem?_eq_getElem hl]
  exact ⟨A0, c0, this, h2⟩
theorem any_range {α : Type} (z : α) (xs : List α) (f : α → Bool) : (List.range xs.length).any (fun j => f (xs.getD j z)) = xs.any f := by
  rw [Bool.eq_iff_iff, List.any_eq_true, List.any_eq_true]
  constructor
  · rintro ⟨j, hj, h⟩
    have hl := List.mem_range.mp hj
    rw [List.getD_eq_getElem?_getD, List.getElem?_eq_getElem hl] at h
    exact ⟨xs[j], List.getElem_mem _, h⟩
  · rintro ⟨x, hx, h⟩
    obtain ⟨j, hj, rfl⟩ := List.mem_iff_getElem.mp hx
    refine ⟨j, List.mem_range.mpr hj, ?_⟩
    rw [List.getD_eq_getElem?_getD, List.getElem?_eq_getElem hj]
    exact h
set_option maxHeartbeats 2000000 in
theorem outer (row : List Int) (A : Option Addr) (c : Nat) (n : Int) (B : Nat) (hn0 : 1 ≤ n) (hn : n ≤ 40) (w : World) (hB : B < w.heap.size) (hc : w.cell? ⟨B, 0, none⟩ = some (.int .i64 n)) (hr : Kd.C (Kd.int .i64) w A row.length row) :
    Calls Try.prog 103 #[.slice A row.length c, .pointer (some ⟨B, 0, none⟩)] w fun e w' => e = .returned (.bool (badRow n row)) ∧ Below w.heap.size w w' := by
  have hlen := hr.2.1
  by_cases h3 : row.length = 3
  · have hp : ∀ j, j < row.length → ∀ W, Below w.heap.size w W → Calls Try.prog 105 (#[.int .i64 (row.getD j 0)] ++ #[.pointer (some ⟨B, 0, none⟩)]) W fun e W' => e = .returned (.bool (badState n (row.getD j 0))) ∧ Below W.heap.size W W' :=
      fun j hj W hb => inner _ n B hn0 hn W ((hb.cell (p := ⟨B, 0, none⟩) hB).trans hc)
    have hcon := fun W (hb : Below w.heap.size w W) => containsNums (vals := fun j => .int .i64 (row.getD j 0)) (p := fun j => badState n (row.getD j 0)) A row.length c 105 #[.pointer (some ⟨B, 0, none⟩)]
      (enters_of Try.func105 (by kernel_rfl) rfl) W hlen (cellsInt (Kd.C_below hr hb)) (fun j hj W' hb' => hp j hj W' (below_then hb hb.size hb'))
    have HC := am_ hcon
    have e3 : badRow n row = (List.range row.length).any (fun j => badState n (row.getD j 0)) := by
      rw [any_range 0 row (badState n)]
      simp [badRow, h3]
    have E3 := am_ e3
    clear hcon hp hr hc e3
    have t3 : ((row.length : Int) != 3) = false := by rw [bne_eq_false_iff_eq]; omega
    clear h3 hlen
    go_enter Try.func103, Try.ntmps103
    go_wp2_with (go_at_call 104; refine (HC.out _ (by exact Below.refl _ _)).mono ?_; rintro e w' ⟨rfl, hb⟩; have HB := am_ hb; clear hb)
    go_ret
    rw [E3.out]
    exact ⟨rfl, HB.out⟩
  · have e3 : badRow n row = true := by simp [badRow, h3]
    have E3 := am_ e3
    have t3 : ((row.length : Int) != 3) = true := by rw [bne_iff_ne]; omega
    clear h3 e3 hr
    go_enter Try.func103, Try.ntmps103
    go_wp2
    go_ret
    rw [E3.out]
    exact ⟨rfl, Below.refl _ _⟩
theorem rowsContain (A1 : Option Addr) (c1 : Nat) (l1 : List (List Int)) (n : Int) (hn0 : 1 ≤ n) (hn : n ≤ 40) (w : World) (hr1 : Kd.C (Kd.slice 3 (Kd.int .i64)) w A1 l1.length l1) (B : Nat) (W : World) (hb : Below w.heap.size w W) (hB : B < W.heap.size) (hc : W.cell? ⟨B, 0, none⟩ = some (.int .i64 n)) :
    Calls Try.prog 102 #[.slice A1 l1.length c1, .func (.func 103) #[] #[.pointer (some ⟨B, 0, none⟩)]] W fun e w' => e = .returned (.bool (l1.any (badRow n))) ∧ Below W.heap.size W w' := by
  have hl := hr1.2.1
  have hW := Kd.C_below hr1 hb
  rw [← any_range [] l1 (badRow n)]
  rcases Nat.eq_zero_or_pos l1.length with h0 | h0
  · refine containsRows (vals := fun _ => .bool false) (p := fun j => badRow n (l1.getD j [])) A1 l1.length c1 103 _ (enters_of Try.func103 (by kernel_rfl) rfl) W hl (fun h => by omega) (fun j hj => by omega)
  · obtain ⟨ad, rfl, hcell⟩ := cellsRows hW h0
    refine containsRows (vals := fun j => (W.cell? (ad.add j)).getD (.bool false)) (p := fun j => badRow n (l1.getD j [])) _ l1.length c1 103 _ (enters_of Try.func103 (by kernel_rfl) rfl) W hl (fun _ => ⟨ad, rfl, fun j hj => ?_⟩) (fun j hj W' hb' => ?_)
    · obtain ⟨Aj, cj, h1, _⟩ := hcell j hj
      rw [h1]
      rfl
    · obtain ⟨Aj, cj, h1, h2⟩ := hcell j hj
      simp only [h1, Option.getD_some]
      exact outer (l1.getD j []) Aj cj n B hn0 hn W' (Nat.lt_of_lt_of_le hB hb'.size) ((hb'.cell (p := ⟨B, 0, none⟩) hB).trans hc) (Kd.C_below h2 hb')
set_option maxHeartbeats 2000000 in
theorem validCalls (A0 : Option Addr) (c0 : Nat) (l0 : List Bool) (A1 : Option Addr) (c1 : Nat) (l1 : List (List Int)) (w : World) (hr0 : Kd.C Kd.bool w A0 l0.length l0) (hr1 : Kd.C (Kd.slice 3 (Kd.int .i64)) w A1 l1.length l1) :
    Calls Try.prog 39 #[.agg #[.slice A0 l0.length c0, .slice A1 l1.length c1]] w fun e w' => e = .returned (.bool (validD l0 l1)) ∧ Below w.heap.size w w' := by
  have hu := Try.underlying27
  have hl0 := hr0.2.1
  have hl1 := hr1.2.1
  have hwi := fun W => impl_within.calls (l0.length : Int) 1 40 (decide (1 ≤ l0.length) && decide (l0.length ≤ 40)) W (by
    unfold impl_within.f
    by_cases h : 1 ≤ l0.length
    · rw [if_pos (show (l0.length : Int) ≥ 1 by omega), decide_eq_true h, Bool.true_and]
      exact congrArg some (decide_eq_decide.mpr (by omega))
    · rw [if_neg (show ¬ (l0.length : Int) ≥ 1 by omega), decide_eq_false h, Bool.false_and])
  have hV := validD.eq_def l0 l1
  by_cases h1 : (decide (1 ≤ l0.length) && decide (l0.length ≤ 40)) = true
  · rw [h1] at hwi
    by_cases h2 : l1.length = l0.length
    · have hcon := rowsContain A1 c1 l1 (l0.length : Int) (by simp at h1; omega) (by simp at h1; omega) w hr1
      have t2 : ((l1.length : Int) != (l0.length : Int)) = false := by rw [bne_eq_false_iff_eq]; omega
      rw [h1, decide_eq_true h2, Bool.true_and, Bool.true_and] at hV
      have HW := am_ hwi
      have HC := am_ hcon
      have HV := am_ hV
      clear hwi hcon h1 h2 hr0 hr1 hl0 hl1 hV
      go_enter Try.func39, Try.ntmps39
      go_wp2_with (first | (go_at_call 101; refine (HW.out _).mono ?_; rintro e w' ⟨rfl, ⟨m, rfl⟩⟩) | (go_at_call 102; refine (HC.out (w.heap.size + 1) _ ?q1 ?q2 ?q3).mono ?_; (case q1 => exact pw_below_drewN (below_alloc (below_alloc (Below.refl _ _) _) _) _); (case q2 => simp); (case q3 => simp); rintro e w' ⟨rfl, hb⟩; have HB := am_ hb; clear hb))
      go_ret
      rw [HV.out]
      exact ⟨rfl, below_then (pw_below_drewN (below_alloc (below_alloc (Below.refl _ _) _) _) _) (by simp; omega) HB.out⟩
    · have t2 : ((l1.length : Int) != (l0.length : Int)) = true := by rw [bne_iff_ne]; omega
      rw [h1, decide_eq_false h2, Bool.true_and, Bool.false_and] at hV
      have HW := am_ hwi
      have HV := am_ hV
      clear hwi h1 h2 hr0 hr1 hl0 hl1 hV
      go_enter Try.func39, Try.ntmps39
      go_wp2_with (go_at_call 101; refine (HW.out _).mono ?_; rintro e w' ⟨rfl, ⟨m, rfl⟩⟩)
      go_ret
      rw [HV.out]
      exact ⟨rfl, pw_below_drewN (below_alloc (below_alloc (Below.refl _ _) _) _) _⟩
  · have h1' : (decide (1 ≤ l0.length) && decide (l0.length ≤ 40)) = false := by simpa using h1
    rw [h1'] at hwi
    rw [h1', Bool.false_and, Bool.false_and] at hV
    have HW := am_ hwi
    have HV := am_ hV
    clear hwi h1 h1' hr0 hr1 hl0 hl1 hV
    go_enter Try.func39, Try.ntmps39
    go_wp2_with (go_at_call 101; refine (HW.out _).mono ?_; rintro e w' ⟨rfl, ⟨m, rfl⟩⟩)
    go_ret
    rw [HV.out]
    exact ⟨rfl, pw_below_drewN (below_alloc (below_alloc (Below.refl _ _) _) _) _⟩
end Go.Proofs.Ytogamkblkoobkaa.Wk
end
section
namespace Go.Proofs.Ytogamkblkoobkaa.P
open Go.RowKit Go.Proofs.YtogamkblkoobkaaW.PrintWords Go.Proofs.YtogamkblkoobkaaW.PrintLast Go.Proofs.YtogamkblkoobkaaW.PrintMore
attribute [local go_sem] max2_int min2_int max_two min_two max_three min_three max_four min_four
set_option linter.unusedVariables false
set_option linter.unusedSimpArgs false
def impl_IsValidDfa.f (l0_0 : List Bool) (l0_1 : List (List Int)) : Option (Bool) := some (Wk.validD l0_0 l0_1)
theorem impl_IsValidDfa.calls (A0_0 : Option Addr) (c0_0 : Nat) (l0_0 : List Bool) (A0_1 : Option Addr) (c0_1 : Nat) (l0_1 : List (List Int)) (r : Bool) (w : World) (hr0_0 : Kd.C Kd.bool w A0_0 l0_0.length l0_0) (hc0_0 : l0_0.length ≤ c0_0) (hr0_1 : Kd.C (Kd.slice 3 (Kd.int .i64)) w A0_1 l0_1.length l0_1) (hc0_1 : l0_1.length ≤ c0_1) (h : impl_IsValidDfa.f l0_0 l0_1 = some r) :
    Calls Try.prog 39 #[.agg #[.slice A0_0 l0_0.length c0_0, .slice A0_1 l0_1.length c0_1]] w fun e w' => e = .returned (.bool r) ∧ Below w.heap.size w w' := by
  obtain rfl := Option.some.inj h
  exact Wk.validCalls A0_0 c0_0 l0_0 A0_1 c0_1 l0_1 w hr0_0 hr0_1
end Go.Proofs.Ytogamkblkoobkaa.P
end
section
namespace Go.Proofs.Ytogamkblkoobkaa.Pl
open Go.RowKit Go.Proofs.YtogamkblkoobkaaW.PrintWords Go.Proofs.YtogamkblkoobkaaW.PrintLast Go.Proofs.YtogamkblkoobkaaW.PrintMore
set_option linter.unusedVariables false
set_option linter.unusedSimpArgs false
theorem next {α : Type} {g : Nat → Option α} {r : α} (h : Ev (fun k => g (k + 1)) r) : Ev g r := by
  obtain ⟨K, hK⟩ := h
  refine ⟨K + 1, fun k hk => ?_⟩
  obtain ⟨m, rfl⟩ : ∃ m, k = m + 1 := ⟨k - 1, by omega⟩
  exact hK m (by omega)
theorem ev_some {α : Type} {a b : α} (h : a = b) : Ev (fun _ => some a) b := by subst h; exact Ev.now a
theorem ev_eq {α : Type} {g : Nat → Option α} {a b : α} (h : Ev g a) (e : a = b) : Ev g b := e ▸ h
theorem w64 {x : Int} (h0 : -9223372036854775808 ≤ x) (h1 : x ≤ 9223372036854775807) : wrap64 x = x := by
  unfold wrap64
  omega
theorem up1 {i : Nat} (h : i < 9223372036854775807) : wrap64 ((i : Int) + 1) = ((i + 1 : Nat) : Int) := by
  rw [w64 (by omega) (by omega)]
  omega
theorem rd_get (xs : List Int) (i : Nat) (h : i < xs.length) : rd xs i = xs[i] := by
  simp [rd, List.getD_eq_getElem?_getD, h]
theorem rdOf_get {α : Type} (z : α) (xs : List α) (i : Nat) (h : i < xs.length) : rdOf z xs i = xs[i] := by
  simp [rdOf, List.getD_eq_getElem?_getD, h]
theorem len_bytes (s : ByteArray) : (bytesOf s).length = s.size := by
  simp only [bytesOf, List.length_map]
  exact Array.length_toList
theorem bt_get (s : ByteArray) (i : Nat) (h : i < s.size) : bt s i = (bytesOf s)[i]'(by rw [len_bytes]; exact h) := by
  simp only [bt, Int.toNat_natCast, h, dif_pos, bytesOf, List.getElem_map, Array.getElem_toList]
  rfl
theorem drop_cons (s : ByteArray) (i : Nat) (h : i < s.size) : (bytesOf s).drop i = bt s i :: (bytesOf s).drop (i + 1) := by
  rw [List.drop_eq_getElem_cons (by rw [len_bytes]; exact h), bt_get s i h]
theorem drop_end (s : ByteArray) (i : Nat) (h : s.size ≤ i) : (bytesOf s).drop i = [] := List.drop_eq_nil_of_le (by rw [len_bytes]; exact h)
theorem bytes_append (a b : ByteArray) : bytesOf (a ++ b) = bytesOf a ++ bytesOf b := by
  simp [bytesOf, ByteArray.data_append]
end Go.Proofs.Ytogamkblkoobkaa.Pl
end
section
namespace Go.Proofs.Ytogamkblkoobkaa.Mp
open Go.RowKit Go.Maps Go.Proofs.YtogamkblkoobkaaW.PrintWords Go.Proofs.YtogamkblkoobkaaW.PrintLast Go.Proofs.YtogamkblkoobkaaW.PrintMore
set_option linter.unusedVariables false
set_option linter.unusedSimpArgs false
structure MapTy (P : Program) (t k e : TypeId) (q : IntKind) {α : Type} (enc : α → Value) (ok : α → Prop) : Prop where
  K : Keyed P k
  ht : P.underlying t = some (.map k e)
  he : P.underlying e = some (.int q)
  hz : ∀ w, (zeroValue e).run P w = .ok (.int q 0) w
  key : ∀ x, ok x → ∃ l, keyOf P k (enc x) = some l
  inj : ∀ x y, enc x = enc y → x = y
def MapIs (P : Program) (k e : TypeId) (q : IntKind) {α : Type} (enc : α → Value) (ok : α → Prop) (w : World) (b : Nat) (m : α → Option Int) (c : Nat) : Prop :=
  ∃ D : DataW Unit, w.ownsMap P k (plainElem P e) b c D ∧ Maps.size D = c ∧ ∀ x l, ok x → keyOf P k (enc x) = some l → Maps.has D l = (m x).isSome ∧ ∀ v, m x = some v → ∀ z, D.atKey l z = .lit (.int q v)
section
variable {P : Program} {t k e : TypeId} {q : IntKind} {α : Type} {enc : α → Value} {ok : α → Prop} {w w' : World} {b c : Nat} {m : α → Option Int}
theorem MapIs.lt (h : MapIs P k e q enc ok w b m c) : b < w.heap.size := by
  obtain ⟨D, ho, _⟩ := h
  exact ho.lt
theorem MapIs.kept {row : Option Nat} (h : MapIs P k e q enc ok w b m c) (hg : w.grownBy w' row) (hne : some b ≠ row) : MapIs P k e q enc ok w' b m c := by
  obtain ⟨D, ho, hs⟩ := h
  exact ⟨D, ho.kept hg hne, hs⟩
theorem grown_below (hb : Below w.heap.size w w') : w.grownBy w' none := ⟨hb.os, hb.tape, hb.output, hb.size, fun i hi _ => hb.block i hi⟩
theorem MapIs.below (h : MapIs P k e q enc ok w b m c) (hb : Below w.heap.size w w') : MapIs P k e q enc ok w' b m c := h.kept (grown_below hb) (by simp)
theorem MapIs.made (w : World) : MapIs P k e q enc ok (w.alloc (.map #[] 0)) w.heap.size (fun _ => none) 0 :=
  ⟨.map [], World.ownsMap_made _ _ _ _, rfl, fun x l _ _ => ⟨rfl, fun v h => by cases h⟩⟩
theorem MapIs.not_row (h : MapIs P k e q enc ok w b m c) {v : Value} {e' : TypeId} (hty : ∀ g, v.ownBlock = some g → ∃ cells, w.heap[g]? = some (.cells cells e' (0, 0))) : some b ≠ v.ownBlock := by
  intro he
  obtain ⟨D, ⟨es, clock, hb, _⟩, _⟩ := h
  obtain ⟨cells, hc⟩ := hty b he.symm
  rw [hb] at hc
  cases hc
theorem R_over_map {β : Type} {d : Kd β} {e' base : Nat} {okk : Nat → Prop} {v : Value} {xs : List β} (h : d.R e' w base okk v xs) (hM : MapIs P k e q enc ok w b m c) (hg : w.grownBy w' (some b)) : d.R e' w' base okk v xs := by
  refine Kd.R_mono (Kd.R_move (Kd.R_bound h) (fun k hk => hg.block k hk.2.2.1 (fun he => ?_))) (fun _ hk => hk.1)
  obtain ⟨_, _, _, q, hq, cells, hc⟩ := hk
  obtain ⟨D, ⟨es, clock, hb, _⟩, _⟩ := hM
  injection he with he
  subst he
  rw [hb] at hc
  cases hc
theorem below_map {w0 : World} (h : Below w0.heap.size w0 w) (hg : w.grownBy w' (some b)) (hb : w0.heap.size ≤ b) : Below w0.heap.size w0 w' := h.grown hg h.size (fun k hk => by injection hk with hk; omega)
theorem put_new (T : MapTy P t k e q enc ok) (x : α) (hx : ok x) {l : Lit} (hl : keyOf P k (enc x) = some l) (v : Int) {D : DataW Unit} (h : w.ownsMap P k (plainElem P e) b c D) (hs : Maps.size D = c)
    (hm : ∀ x l, ok x → keyOf P k (enc x) = some l → Maps.has D l = (m x).isSome ∧ ∀ v, m x = some v → ∀ z, D.atKey l z = .lit (.int q v)) :
    Maps.size (D.put l (.lit (.int q v))) = (if (m x).isSome then c else c + 1) ∧
    ∀ y l', ok y → keyOf P k (enc y) = some l' → Maps.has (D.put l (.lit (.int q v))) l' = (open Classical in if y = x then some v else m y).isSome ∧ ∀ u, (open Classical in if y = x then some v else m y) = some u → ∀ z, (D.put l (.lit (.int q v))).atKey l' z = .lit (.int q u) := by
  refine ⟨?_, fun y l' hy hl' => ?_⟩
  · rw [size_put (h.tidy T.K), hs, (hm x l hx hl).1]
  · by_cases hyx : y = x
    · subst hyx
      obtain rfl : l' = l := Option.some.inj (hl'.symm.trans hl)
      rw [if_pos rfl]
      refine ⟨has_put_same h.isMap (T.K.key hl) _, fun u hu z => ?_⟩
      obtain rfl := Option.some.inj hu
      exact atKey_put_same h.isMap (T.K.key hl) _ _
    · rw [if_neg hyx]
      have hne : l' ≠ l := fun e1 => hyx (T.inj _ _ (T.K.inj (hl'.trans (congrArg some e1)) hl))
      refine ⟨(has_put_other hne _).trans (hm y l' hy hl').1, fun u hu z => ?_⟩
      rw [atKey_put_other hne]
      exact (hm y l' hy hl').2 u hu z
open Classical in
noncomputable def upd (m : α → Option Int) (x : α) (v : Int) : α → Option Int := fun y => if y = x then some v else m y
theorem MapIs.run (T : MapTy P t k e q enc ok) (h : MapIs P k e q enc ok w b m c) (hn : c < maxLen) (x : α) (hx : ok x) (v : Int) (hv : (Lit.int q v).wf = true) :
    ∃ w', (Instr.mapUpdate t (.map (some b)) (enc x) (.int q v)).run P w = .ok () w' ∧ MapIs P k e q enc ok w' b (upd m x v) (if (m x).isSome then c else c + 1) ∧ w.grownBy w' (some b) := by
  obtain ⟨l, hl⟩ := T.key x hx
  obtain ⟨D, ho, hs, hm⟩ := h
  obtain ⟨w', hrun, ho', hg⟩ := ho.update T.K T.ht hn hl (plainElem_int T.he hv)
  obtain ⟨h1, h2⟩ := put_new T x hx hl v ho hs hm
  refine ⟨w', hrun, ⟨_, ?_, h1, h2⟩, hg⟩
  obtain ⟨es, clock, hb, F, hsz, hD⟩ := ho'
  refine ⟨es, clock, hb, F, ?_, hD⟩
  rw [← h1, hD, size_eq, length_sorted]
  simp
variable {ops : Array Oper} {rest : List Oper} {o : Oper} {a : Act} {Q : Exit → Act → World → Prop}
theorem wp_update (T : MapTy P t k e q enc ok) (hg : o.guard = none) (mm xx vv : Operand) (hop : o.op = Op.mapUpdate t mm xx vv) (b c : Nat) (m : α → Option Int) (h : MapIs P k e q enc ok w b m c) (hn : c < maxLen)
    (hm : a.eval mm = .map (some b)) (x : α) (hx : a.eval xx = enc x) (hk : ok x) (v : Int) (hv : a.eval vv = .int q v) (hw : (Lit.int q v).wf = true)
    (hK : ∀ w', MapIs P k e q enc ok w' b (upd m x v) (if (m x).isSome then c else c + 1) → w.grownBy w' (some b) → wpList P ops Q rest (a.put o.dst undef) w') :
    wpList P ops Q (o :: rest) a w := by
  refine wpList_plain hg fun K' hK' => ?_
  obtain ⟨w', hrun, r1, r2⟩ := h.run T hn x hk v hw
  unfold Oper.wp
  simp [execOp, hop, hm, hx, hv, hrun, Result.andThen]
  exact hK' _ _ (hK w' r1 r2)
theorem wp_insert (T : MapTy P t k e q enc ok) (hg : o.guard = none) (mm xx vv : Operand) (hop : o.op = Op.insert t mm xx vv) (b c : Nat) (m : α → Option Int) (h : MapIs P k e q enc ok w b m c) (hn : c < maxLen)
    (hm : a.eval mm = .map (some b)) (x : α) (hx : a.eval xx = enc x) (hk : ok x) (v : Int) (hv : a.eval vv = .int q v) (hw : (Lit.int q v).wf = true)
    (hK : ∀ w', MapIs P k e q enc ok w' b (upd m x v) (if (m x).isSome then c else c + 1) → w.grownBy w' (some b) → wpList P ops Q rest (a.put o.dst undef) w') :
    wpList P ops Q (o :: rest) a w := by
  refine wpList_plain hg fun K' hK' => ?_
  obtain ⟨w', hrun, r1, r2⟩ := h.run T hn x hk v hw
  unfold Oper.wp
  simp [execOp, hop, hm, hx, hv, hrun, Result.andThen]
  exact hK' _ _ (hK w' r1 r2)
theorem wp_make (hg : o.guard = none) (hop : o.op = Op.makeMap t none)
    (hK : ∀ w', MapIs P k e q enc ok w' w.heap.size (fun _ => none) 0 → Below w.heap.size w w' → wpList P ops Q rest (a.put o.dst (.map (some w.heap.size))) w') :
    wpList P ops Q (o :: rest) a w := by
  refine wpList_plain hg fun K' hK' => ?_
  unfold Oper.wp
  simp [execOp, hop, run_makeMap, Result.andThen]
  exact hK' _ _ (hK _ (MapIs.made w) ((Below.refl _ _).alloc (Nat.le_refl _) _))
theorem wp_look_ok (T : MapTy P t k e q enc ok) (hg : o.guard = none) (mm xx : Operand) (hop : o.op = Op.lookup t mm xx true) (b c : Nat) (m : α → Option Int) (h : MapIs P k e q enc ok w b m c)
    (hm : a.eval mm = .map (some b)) (x : α) (hx : a.eval xx = enc x) (hk : ok x)
    (hK : wpList P ops Q rest (a.put o.dst (.tuple #[.int q ((m x).getD 0), .bool (m x).isSome])) w) : wpList P ops Q (o :: rest) a w := by
  obtain ⟨l, hl⟩ := T.key x hk
  obtain ⟨D, ho, hs, hD⟩ := h
  refine wpList_lookup_own_ok_int w hg mm xx t hop k e q T.K T.ht T.he (T.hz w) b c D hm ho _ l hx hl (fun v hat hw => ?_)
  obtain ⟨h1, h2⟩ := hD x l hk hl
  rw [h1]
  cases hmx : m x with
  | none =>
    rw [hmx] at h1
    rw [atKey_of_not_has h1] at hat
    injection hat with hat
    injection hat with _ hat
    subst hat
    rw [hmx] at hK
    exact hK
  | some u =>
    rw [h2 u hmx] at hat
    injection hat with hat
    injection hat with _ hat
    subst hat
    rw [hmx] at hK
    exact hK
theorem wp_look (T : MapTy P t k e q enc ok) (hg : o.guard = none) (mm xx : Operand) (hop : o.op = Op.lookup t mm xx false) (b c : Nat) (m : α → Option Int) (h : MapIs P k e q enc ok w b m c)
    (hm : a.eval mm = .map (some b)) (x : α) (hx : a.eval xx = enc x) (hk : ok x)
    (hK : wpList P ops Q rest (a.put o.dst (.int q ((m x).getD 0))) w) : wpList P ops Q (o :: rest) a w := by
  obtain ⟨l, hl⟩ := T.key x hk
  obtain ⟨D, ho, hs, hD⟩ := h
  refine wpList_lookup_own_int w hg mm xx t hop k e q T.K T.ht T.he (T.hz w) b c D hm ho _ l hx hl (fun v hat hw => ?_)
  obtain ⟨h1, h2⟩ := hD x l hk hl
  cases hmx : m x with
  | none =>
    rw [hmx] at h1
    rw [atKey_of_not_has h1] at hat
    injection hat with hat
    injection hat with _ hat
    subst hat
    rw [hmx] at hK
    exact hK
  | some u =>
    rw [h2 u hmx] at hat
    injection hat with hat
    injection hat with _ hat
    subst hat
    rw [hmx] at hK
    exact hK
theorem wp_len (T : MapTy P t k e q enc ok) (hg : o.guard = none) (mm : Operand) (hop : o.op = Op.call { callee := Callee.builtin Builtin.len, args := #[mm], argTypes := #[t] }) (b c : Nat) (m : α → Option Int) (h : MapIs P k e q enc ok w b m c)
    (hm : a.eval mm = .map (some b)) (hK : wpList P ops Q rest (a.put o.dst (.int .i64 c)) w) : wpList P ops Q (o :: rest) a w := by
  obtain ⟨D, ho, hs, hD⟩ := h
  refine wpList_len_own w hg mm t hop k e T.ht _ b c D hm ho ?_
  rw [hs]
  exact hK
end
theorem R_here {β : Type} (d : Kd β) (W : World) (base e : Nat) {xs : List β} {inner : List Value} {okp : Nat → Prop} (hrep : Reps (d.M W base okp) d.sz xs inner) (hbase : base ≤ W.heap.size) (hm : xs.length ≤ 9223372036854775807) :
    d.R e (W.alloc (.cells inner.toArray e)) base (fun _ => True) (.slice (some ⟨W.heap.size, 0, none⟩) xs.length xs.length) xs := by
  refine ⟨fun k hk => trivial, inner, ?_, ?_⟩
  · have h2 := World.ownsRow_lit (base := base) (e := e) (size := d.sz) W inner.toArray xs.length hbase (by simpa [maxLen] using hm) (by simpa using hrep.1)
    simpa using h2
  · refine hrep.imp_ (fun p c hp => d.M_mono (fun k hk => ⟨trivial, fun he => ?_⟩) (Kd.M_below (d.M_bound hp) (below_alloc (Below.refl _ _) _)))
    have h3 : k = W.heap.size := by simpa [Value.ownBlock] using he
    have := hk.2.2.1
    omega
theorem int_ty (P : Program) {t k e : TypeId} {q q' : IntKind} (ht : P.underlying t = some (.map k e)) (hk : P.underlying k = some (.int q')) (he : P.underlying e = some (.int q)) (hz : ∀ w, (zeroValue e).run P w = .ok (.int q 0) w) :
    MapTy P t k e q (Value.int q') (fun x => (Lit.int q' x).wf = true) :=
  ⟨int_keyed hk, ht, he, hz, fun x hx => ⟨_, keyOf_int_mk hk hx⟩, fun x y h => by injection h⟩
end Go.Proofs.Ytogamkblkoobkaa.Mp
end
section
namespace Go.Proofs.Ytogamkblkoobkaa.Bf
open Go.RowKit Go.Proofs.Ytogamkblkoobkaa.Pl Go.Proofs.Ytogamkblkoobkaa.Mp Go.Proofs.YtogamkblkoobkaaW.PrintWords Go.Proofs.YtogamkblkoobkaaW.PrintLast Go.Proofs.YtogamkblkoobkaaW.PrintMore
set_option linter.unusedVariables false
set_option linter.unusedSimpArgs false
set_option linter.unusedSectionVars false
def pc (j : Nat) : ByteArray := (⟨#[97, 98, 99]⟩ : ByteArray).extract j (j + 1)
theorem size_pc (j : Nat) (h : j < 3) : (pc j).size = 1 := by
  match j, h with
  | 0, _ => rfl
  | 1, _ => rfl
  | 2, _ => rfl
section
variable {α : Type} [DecidableEq α]
def idx (s : List α) : α → Option Int := fun y => if y ∈ s then some (s.idxOf y : Int) else none
theorem idx_some {s : List α} {y : α} : (idx s y).isSome = decide (y ∈ s) := by unfold idx; split <;> simp_all
theorem idx_in {s : List α} {y : α} (h : y ∈ s) : (idx s y).isSome = true := by rw [idx_some]; exact decide_eq_true h
theorem idx_out {s : List α} {y : α} (h : y ∉ s) : (idx s y).isSome = false := by rw [idx_some]; exact decide_eq_false h
theorem idx_upd {s : List α} {y : α} (h : y ∉ s) : upd (idx s) y (s.length : Int) = idx (s ++ [y]) := by
  funext z
  unfold upd idx
  by_cases hz : z = y
  · subst hz
    rw [if_pos rfl, if_pos (by simp), List.idxOf_append, if_neg h]
    simp
  · rw [if_neg hz]
    by_cases hm : z ∈ s
    · rw [if_pos hm, if_pos (by simp [hm]), List.idxOf_append, if_pos hm]
    · rw [if_neg hm, if_neg (by simp [hm, hz])]
theorem idx_one (x : α) : upd (fun _ => none) x 0 = idx [x] := by
  funext z
  unfold upd idx
  by_cases hz : z = x
  · subst hz; simp
  · rw [if_neg hz, if_neg (by simp [hz])]
abbrev St (α : Type) := List α × List ByteArray
def put (y : α) (wd : ByteArray) (p : St α) : St α := if y ∈ p.1 then p else (p.1 ++ [y], p.2 ++ [wd])
def ex (nx : α → Nat → α) (x : α) (wd : ByteArray) : Nat → Nat → St α → St α
  | 0, _, p => p
  | d + 1, j, p => ex nx x wd d (j + 1) (put (nx x j) (wd ++ pc j) p)
def bfs (good : α → Bool) (nx : α → Nat → α) : Nat → St α → Nat → ByteArray × Bool
  | 0, _, _ => (⟨#[]⟩, false)
  | d + 1, p, i => if h : i < p.1.length then (if good p.1[i] = true then (p.2.getD i ByteArray.empty, true) else bfs good nx d (ex nx p.1[i] (p.2.getD i ByteArray.empty) 3 0 p) (i + 1)) else (⟨#[]⟩, false)
end
section
variable {α : Type}
structure Fit (dom : α → Prop) (N : Nat) (p : St α) : Prop where
  nd : p.1.Nodup
  all : ∀ x ∈ p.1, dom x
  len : p.2.length = p.1.length
  size : ∀ j, (p.2.getD j ByteArray.empty).size ≤ j
  card : ∀ s : List α, s.Nodup → (∀ x ∈ s, dom x) → s.length ≤ N
theorem Fit.le {dom : α → Prop} {N : Nat} {p : St α} (h : Fit dom N p) : p.1.length ≤ N := h.card _ h.nd h.all
theorem Fit.snoc {dom : α → Prop} {N : Nat} {p : St α} (h : Fit dom N p) {y : α} (hy : dom y) (hn : y ∉ p.1) {wd : ByteArray} (hw : wd.size ≤ p.1.length) : Fit dom N (p.1 ++ [y], p.2 ++ [wd]) where
  nd := by
    rw [List.nodup_append]
    refine ⟨h.nd, by simp, ?_⟩
    intro a ha b hb
    rw [List.mem_singleton] at hb
    subst hb
    rintro rfl
    exact hn ha
  all := fun x hx => by
    rcases List.mem_append.mp hx with q | q
    · exact h.all x q
    · rw [List.mem_singleton] at q
      subst q
      exact hy
  len := by simp [h.len]
  size := fun j => by
    have hl := h.len
    simp only [List.getD_eq_getElem?_getD]
    by_cases hj : j < p.2.length
    · rw [List.getElem?_append_left hj]
      have := h.size j
      simpa only [List.getD_eq_getElem?_getD] using this
    · rw [List.getElem?_append_right (by omega)]
      by_cases hj2 : j - p.2.length = 0
      · rw [hj2]
        simp
        omega
      · rw [List.getElem?_eq_none (by simp; omega)]
        simp [ByteArray.size]
  card := h.card
theorem fit0 {dom : α → Prop} {N : Nat} {x : α} (hx : dom x) (hc : ∀ s : List α, s.Nodup → (∀ x ∈ s, dom x) → s.length ≤ N) : Fit dom N ([x], [(⟨#[]⟩ : ByteArray)]) where
  nd := by simp
  all := fun y hy => by rw [List.mem_singleton] at hy; subst hy; exact hx
  len := rfl
  size := fun j => by cases j <;> simp [ByteArray.size]
  card := hc
end
section
variable {α : Type} [DecidableEq α]
theorem fit_put {dom : α → Prop} {N : Nat} {p : St α} (h : Fit dom N p) {y : α} (hy : dom y) {wd : ByteArray} (hw : wd.size ≤ p.1.length) : Fit dom N (put y wd p) := by
  unfold put
  split
  · exact h
  · rename_i hn
    exact h.snoc hy hn hw
theorem put_len (y : α) (wd : ByteArray) (p : St α) : p.1.length ≤ (put y wd p).1.length := by
  unfold put
  split <;> simp
theorem fit_ex {dom : α → Prop} {N : Nat} {nx : α → Nat → α} {x : α} (hx : dom x) (hd : ∀ x j, dom x → j < 3 → dom (nx x j)) {wd : ByteArray} : ∀ (d j : Nat) (p : St α), j + d ≤ 3 → Fit dom N p → wd.size + 1 ≤ p.1.length → Fit dom N (ex nx x wd d j p) ∧ p.1.length ≤ (ex nx x wd d j p).1.length
  | 0, j, p, _, h, _ => ⟨h, Nat.le_refl _⟩
  | d + 1, j, p, hj, h, hw => by
    have h1 : Fit dom N (put (nx x j) (wd ++ pc j) p) := fit_put h (hd x j hx (by omega)) (by rw [ByteArray.size_append, size_pc j (by omega)]; exact hw)
    have h2 := put_len (nx x j) (wd ++ pc j) p
    obtain ⟨h3, h4⟩ := fit_ex hx hd d (j + 1) _ (by omega) h1 (Nat.le_trans hw h2)
    exact ⟨h3, Nat.le_trans h2 h4⟩
end
end Go.Proofs.Ytogamkblkoobkaa.Bf
end
section
namespace Go.Proofs.Ytogamkblkoobkaa.Wk
open Go.RowKit Go.Shelf Go.Proofs.Ytogamkblkoobkaa.P Go.Proofs.Ytogamkblkoobkaa.Pl Go.Proofs.Ytogamkblkoobkaa.Mp Go.Proofs.Ytogamkblkoobkaa.Bf Go.Proofs.YtogamkblkoobkaaW.PrintWords Go.Proofs.YtogamkblkoobkaaW.PrintLast Go.Proofs.YtogamkblkoobkaaW.PrintMore
set_option linter.unusedVariables false
set_option linter.unusedSimpArgs false
abbrev wfI (x : Int) : Prop := (Lit.int .i64 x).wf = true
theorem mapInt : MapTy Try.prog 118 3 3 .i64 (Value.int .i64) wfI := int_ty Try.prog Try.underlying118 Try.underlying3 Try.underlying3 (fun w => by kernel_rfl)
abbrev IsM (w : World) (b : Nat) (m : Int → Option Int) (c : Nat) : Prop := MapIs Try.prog 3 3 .i64 (Value.int .i64) wfI w b m c
end Go.Proofs.Ytogamkblkoobkaa.Wk
end
section
namespace Go.Proofs.Ytogamkblkoobkaa.Bf
open Go.Proofs.Ytogamkblkoobkaa.Pl
theorem nodup_le {α : Type} [DecidableEq α] : ∀ (s t : List α), s.Nodup → (∀ x ∈ s, x ∈ t) → s.length ≤ t.length
  | [], t, _, _ => Nat.zero_le _
  | a :: s, t, hn, hs => by
    rw [List.nodup_cons] at hn
    have hm := hs a List.mem_cons_self
    have h1 := nodup_le s (t.erase a) hn.2 (fun x hx => by
      have hne : x ≠ a := by rintro rfl; exact hn.1 hx
      exact (List.mem_erase_of_ne hne).mpr (hs x (List.mem_cons_of_mem _ hx)))
    rw [List.length_erase_of_mem hm] at h1
    have := List.length_pos_of_mem hm
    simp only [List.length_cons]
    omega
theorem card_range (n : Nat) (s : List Int) (hn : s.Nodup) (h : ∀ x ∈ s, 0 ≤ x ∧ x < n) : s.length ≤ n := by
  have := nodup_le s ((List.range n).map fun (i : Nat) => (i : Int)) hn (fun x hx => by
    have := h x hx
    exact List.mem_map.mpr ⟨x.toNat, List.mem_range.mpr (by omega), by omega⟩)
  simpa using this
end Go.Proofs.Ytogamkblkoobkaa.Bf
namespace Go.Proofs.Ytogamkblkoobkaa.Wk
open Go.RowKit Go.Shelf Go.Proofs.Ytogamkblkoobkaa.P Go.Proofs.Ytogamkblkoobkaa.Pl Go.Proofs.Ytogamkblkoobkaa.Mp Go.Proofs.Ytogamkblkoobkaa.Bf Go.Proofs.YtogamkblkoobkaaW.PrintWords Go.Proofs.YtogamkblkoobkaaW.PrintLast Go.Proofs.YtogamkblkoobkaaW.PrintMore
set_option linter.unusedVariables false
set_option linter.unusedSimpArgs false
def nxD (l1 : List (List Int)) (x : Int) (j : Nat) : Int := rd (l1.getD x.toNat []) j
theorem badState_eq2 (n q : Int) : badState n q = !(decide (0 ≤ q) && decide (q ≤ n - 1)) := by
  unfold badState
  cases decide (0 ≤ q) <;> cases decide (q ≤ n - 1) <;> rfl
theorem validD_facts {l0 : List Bool} {l1 : List (List Int)} (h : validD l0 l1 = true) : 1 ≤ l0.length ∧ l0.length ≤ 40 ∧ l1.length = l0.length ∧ ∀ r ∈ l1, r.length = 3 ∧ ∀ q ∈ r, 0 ≤ q ∧ q < l0.length := by
  simp only [validD, Bool.and_eq_true, decide_eq_true_eq, Bool.not_eq_true', List.any_eq_false] at h
  obtain ⟨⟨⟨h1, h2⟩, h3⟩, h4⟩ := h
  refine ⟨h1, h2, h3, fun r hr => ?_⟩
  have := h4 r hr
  simp only [badRow, Bool.or_eq_true, decide_eq_true_eq, not_or, List.any_eq_true, not_exists, not_and] at this
  refine ⟨by omega, fun x hx => ?_⟩
  have hb := this.2 x hx
  rw [badState_eq2] at hb
  simp at hb
  omega
end Go.Proofs.Ytogamkblkoobkaa.Wk
end
section
namespace Go.Proofs.Ytogamkblkoobkaa.Wk
open Go.RowKit Go.Proofs.Ytogamkblkoobkaa.P Go.Proofs.Ytogamkblkoobkaa.Mp Go.Proofs.Ytogamkblkoobkaa.Bf Go.Proofs.YtogamkblkoobkaaW.PrintWords Go.Proofs.YtogamkblkoobkaaW.PrintLast Go.Proofs.YtogamkblkoobkaaW.PrintMore
set_option linter.unusedVariables false
set_option linter.unusedSimpArgs false
abbrev Q4 := Int × Int × Int × Int
def enc4 (x : Q4) : Value := .agg #[.int .i64 x.1, .int .i64 x.2.1, .int .i64 x.2.2.1, .int .i64 x.2.2.2]
abbrev wf4 (x : Q4) : Prop := wfI x.1 ∧ wfI x.2.1 ∧ wfI x.2.2.1 ∧ wfI x.2.2.2
theorem laidOut4 : laidOutB Try.prog = true := by kernel_rfl
theorem arr4 : Go.WideMaps.ArrKey Try.prog 120 3 4 := ⟨Try.underlying120, by kernel_rfl, by kernel_rfl, by kernel_rfl⟩
theorem keyOf_four {P : Program} {k e : TypeId} {q : IntKind} (A : Go.WideMaps.ArrKey P k e 4) (he : P.underlying e = some (.int q)) (hsz : ∃ m, P.types.size = m + 1) {a b c d : Int} (wa : (Lit.int q a).wf = true) (wb : (Lit.int q b).wf = true) (wc : (Lit.int q c).wf = true) (wd : (Lit.int q d).wf = true) :
    keyOf P k (.agg #[.int q a, .int q b, .int q c, .int q d]) = some (.string (keyBytes [.int q a, .int q b, .int q c, .int q d])) := by
  have hkt := A.keyType hsz
  obtain ⟨m, hm⟩ := hsz
  unfold keyOf
  simp only [A.hu]
  rw [if_pos (by simp [hkt, Value.formed, A.hu, A.size]), hm]
  unfold Program.keyLits
  simp only [A.hu, Value.cells]
  rw [if_pos (by rw [A.size]; rfl), show List.range 4 = [0, 1, 2, 3] from rfl, List.mapM_cons, List.mapM_cons, List.mapM_cons, List.mapM_cons, List.mapM_nil]
  simp [A.one, Program.keyLits, he, wa, wb, wc, wd]
theorem key4 (x : Q4) (h : wf4 x) : ∃ l, keyOf Try.prog 120 (enc4 x) = some l := ⟨_, keyOf_four arr4 Try.underlying3 ⟨Try.prog.types.size - 1, by have : 0 < Try.prog.types.size := of_decide_eq_true (by kernel_rfl); omega⟩ h.1 h.2.1 h.2.2.1 h.2.2.2⟩
theorem map4 : MapTy Try.prog 119 120 3 .i64 enc4 wf4 where
  K := Go.Maps.Keyed.of_law (deep_law_laid laidOut4 (m := 2) (by omega) (of_decide_eq_true (by kernel_rfl)) (by kernel_rfl) (by rw [Try.underlying120]))
  ht := Try.underlying119
  he := Try.underlying3
  hz := fun w => by kernel_rfl
  key := key4
  inj := fun x y h => by
    unfold enc4 at h
    injection h with h
    have h1 := congrArg (fun z : Array Value => z[0]?) h
    have h2 := congrArg (fun z : Array Value => z[1]?) h
    have h3 := congrArg (fun z : Array Value => z[2]?) h
    have h4 := congrArg (fun z : Array Value => z[3]?) h
    simp at h1 h2 h3 h4
    obtain ⟨a, b, c, d⟩ := x
    obtain ⟨a', b', c', d'⟩ := y
    dsimp only at h1 h2 h3 h4
    rw [h1, h2, h3, h4]
abbrev IsM4 (w : World) (b : Nat) (m : Q4 → Option Int) (c : Nat) : Prop := MapIs Try.prog 120 3 .i64 enc4 wf4 w b m c
end Go.Proofs.Ytogamkblkoobkaa.Wk
end
section
namespace Go.Proofs.Ytogamkblkoobkaa.Lg
set_option linter.unusedVariables false
set_option linter.unusedSectionVars false
theorem nodup_len {α : Type} [DecidableEq α] : ∀ (s t : List α), s.Nodup → (∀ x ∈ s, x ∈ t) → s.length ≤ t.length
  | [], t, _, _ => Nat.zero_le _
  | a :: s, t, hn, hs => by
    rw [List.nodup_cons] at hn
    have hm := hs a List.mem_cons_self
    have h1 := nodup_len s (t.erase a) hn.2 (fun x hx => by
      have hne : x ≠ a := by rintro rfl; exact hn.1 hx
      exact (List.mem_erase_of_ne hne).mpr (hs x (List.mem_cons_of_mem _ hx)))
    rw [List.length_erase_of_mem hm] at h1
    have := List.length_pos_of_mem hm
    simp only [List.length_cons]
    omega
section
variable {α : Type} [DecidableEq α]
def add (L : List α) (y : α) : List α := if y ∈ L then L else L ++ [y]
def adds (L ys : List α) : List α := ys.foldl add L
inductive Runs (succ : α → List α) : List α → Nat → List α → Prop
  | stop {L : List α} {i : Nat} (h : L.length ≤ i) : Runs succ L i L
  | step {L R : List α} {i : Nat} (h : i < L.length) (hr : Runs succ (adds L (succ L[i])) (i + 1) R) : Runs succ L i R
theorem mem_add {L : List α} {y z : α} : z ∈ add L y ↔ z ∈ L ∨ z = y := by
  unfold add
  split
  · rename_i h
    constructor
    · exact Or.inl
    · rintro (q | rfl)
      · exact q
      · exact h
  · simp
theorem mem_adds {ys : List α} : ∀ {L : List α} {z : α}, z ∈ adds L ys ↔ z ∈ L ∨ z ∈ ys := by
  induction ys with
  | nil => intro L z; simp [adds]
  | cons y ys ih =>
    intro L z
    show z ∈ adds (add L y) ys ↔ _
    rw [ih, mem_add]
    simp only [List.mem_cons]
    constructor
    · rintro ((h | h) | h) <;> simp [h]
    · rintro (h | h | h) <;> simp [h]
theorem adds_nil (L : List α) : adds L [] = L := rfl
theorem adds_cons (L : List α) (y : α) (ys : List α) : adds L (y :: ys) = adds (add L y) ys := rfl
theorem adds_append (L ys zs : List α) : adds L (ys ++ zs) = adds (adds L ys) zs := by simp [adds, List.foldl_append]
theorem add_in {L : List α} {y : α} (h : y ∈ L) : add L y = L := by unfold add; rw [if_pos h]
theorem add_out {L : List α} {y : α} (h : y ∉ L) : add L y = L ++ [y] := by unfold add; rw [if_neg h]
theorem adds_in {ys : List α} : ∀ {L : List α}, (∀ y ∈ ys, y ∈ L) → adds L ys = L := by
  induction ys with
  | nil => intro L _; rfl
  | cons y ys ih =>
    intro L h
    rw [adds_cons, add_in (h y List.mem_cons_self)]
    exact ih fun z hz => h z (List.mem_cons_of_mem _ hz)
theorem add_pre (L : List α) (y : α) : L <+: add L y := by
  unfold add
  split
  · exact List.prefix_refl _
  · exact List.prefix_append _ _
theorem adds_pre (ys : List α) : ∀ L : List α, L <+: adds L ys := by
  induction ys with
  | nil => intro L; exact List.prefix_refl _
  | cons y ys ih => intro L; exact (add_pre L y).trans (ih _)
theorem nodup_add {L : List α} (h : L.Nodup) (y : α) : (add L y).Nodup := by
  unfold add
  split
  · exact h
  · rename_i hn
    rw [List.nodup_append]
    refine ⟨h, by simp, ?_⟩
    rintro a ha b hb rfl
    rw [List.mem_singleton] at hb
    subst hb
    exact hn ha
theorem nodup_adds (ys : List α) : ∀ {L : List α}, L.Nodup → (adds L ys).Nodup := by
  induction ys with
  | nil => intro L h; exact h
  | cons y ys ih => intro L h; exact ih (nodup_add h y)
theorem Runs.det {succ : α → List α} {L R R' : List α} {i : Nat} (h : Runs succ L i R) (h' : Runs succ L i R') : R = R' := by
  induction h with
  | stop h =>
    cases h' with
    | stop _ => rfl
    | step h2 _ => omega
  | step h _ ih =>
    cases h' with
    | stop h2 => omega
    | step _ hr => exact ih hr
theorem Runs.pre {succ : α → List α} {L R : List α} {i : Nat} (h : Runs succ L i R) : L <+: R := by
  induction h with
  | stop h => exact List.prefix_refl _
  | step h _ ih => exact (adds_pre _ _).trans ih
theorem Runs.nodup {succ : α → List α} {L R : List α} {i : Nat} (h : Runs succ L i R) : L.Nodup → R.Nodup := by
  induction h with
  | stop h => exact id
  | step h _ ih => exact fun hn => ih (nodup_adds _ hn)
theorem Runs.all {succ : α → List α} {L R : List α} {i : Nat} (h : Runs succ L i R) {p : α → Prop} (hp : ∀ x, p x → ∀ y ∈ succ x, p y) : (∀ x ∈ L, p x) → ∀ x ∈ R, p x := by
  induction h with
  | stop h => exact id
  | step h _ ih =>
    refine fun ha => ih fun x hx => ?_
    rcases mem_adds.mp hx with q | q
    · exact ha x q
    · exact hp _ (ha _ (List.getElem_mem h)) x q
theorem Runs.closed {succ : α → List α} {L R : List α} {i : Nat} (h : Runs succ L i R) (hc : ∀ j (hj : j < L.length), j < i → ∀ y ∈ succ L[j], y ∈ L) : ∀ x ∈ R, ∀ y ∈ succ x, y ∈ R := by
  induction h with
  | stop h =>
    intro x hx y hy
    obtain ⟨j, hj, rfl⟩ := List.mem_iff_getElem.mp hx
    exact hc j hj (by omega) y hy
  | @step L R i h _ ih =>
    refine ih fun j hj hji y hy => ?_
    have hpre := adds_pre (succ L[i]) L
    by_cases hjl : j < L.length
    · have e : (adds L (succ L[i]))[j] = L[j] := (hpre.getElem hjl).symm
      rw [e] at hy
      by_cases hj2 : j < i
      · exact hpre.subset (hc j hjl hj2 y hy)
      · obtain rfl : j = i := by omega
        exact mem_adds.mpr (Or.inr hy)
    · omega
theorem Runs.ends {succ : α → List α} {dom : α → Prop} {N : Nat} (hd : ∀ x, dom x → ∀ y ∈ succ x, dom y) (hcard : ∀ s : List α, s.Nodup → (∀ x ∈ s, dom x) → s.length ≤ N) : ∀ (d : Nat) (L : List α) (i : Nat), L.Nodup → (∀ x ∈ L, dom x) → i ≤ L.length → N ≤ d + i → ∃ R, Runs succ L i R
  | 0, L, i, hn, ha, hi, hd0 => ⟨L, .stop (by have := hcard L hn ha; omega)⟩
  | d + 1, L, i, hn, ha, hi, hd0 => by
    by_cases h : i < L.length
    · have ha2 : ∀ x ∈ adds L (succ L[i]), dom x := fun x hx => by
        rcases mem_adds.mp hx with q | q
        · exact ha x q
        · exact hd _ (ha _ (List.getElem_mem h)) x q
      obtain ⟨R, hR⟩ := Runs.ends hd hcard d (adds L (succ L[i])) (i + 1) (nodup_adds _ hn) ha2 (by have := (adds_pre (succ L[i]) L).length_le; omega) (by omega)
      exact ⟨R, .step h hR⟩
    · exact ⟨L, .stop (by omega)⟩
end
section
variable {α β : Type} [DecidableEq α] [DecidableEq β]
def dd (l : List β) : List β := adds [] l
theorem dd_snoc (l : List β) (y : β) : dd (l ++ [y]) = add (dd l) y := by unfold dd; rw [adds_append]; rfl
theorem mem_dd {l : List β} {y : β} : y ∈ dd l ↔ y ∈ l := by unfold dd; rw [mem_adds]; simp
theorem dd_append (l m : List β) : dd (l ++ m) = adds (dd l) m := adds_append _ _ _
theorem dd_nodup (l : List β) : (dd l).Nodup := nodup_adds _ (by simp)
theorem dd_id {l : List β} (h : l.Nodup) : dd l = l := by
  suffices H : ∀ (m k : List β), (k ++ m).Nodup → adds k m = k ++ m from H l [] (by simpa using h)
  intro m
  induction m with
  | nil => intro k _; simp [adds_nil]
  | cons y m ih =>
    intro k hk
    have hny : y ∉ k := by
      intro hm
      rw [List.nodup_append] at hk
      exact hk.2.2 y hm y List.mem_cons_self rfl
    rw [adds_cons, add_out hny, ih]
    · simp
    · simpa using hk
theorem dd_adds (f : α → β) (xs : List α) : ∀ L : List α, dd ((adds L xs).map f) = adds (dd (L.map f)) (xs.map f) := by
  induction xs with
  | nil => intro L; rfl
  | cons x xs ih =>
    intro L
    rw [adds_cons, ih, List.map_cons, adds_cons]
    congr 1
    by_cases h : x ∈ L
    · rw [add_in h, add_in (mem_dd.mpr (List.mem_map_of_mem h))]
    · rw [add_out h, List.map_append, List.map_singleton, dd_snoc]
theorem Runs.map {succ : α → List α} {succ' : β → List β} {f : α → β} {dom : α → Prop} (hd : ∀ x, dom x → ∀ y ∈ succ x, dom y) (hf : ∀ x, dom x → (succ x).map f = succ' (f x)) {L R : List α} {i : Nat} (h : Runs succ L i R)
    (hall : ∀ x ∈ L, dom x) (hi : i ≤ L.length) (hc : ∀ j (hj : j < L.length), j < i → ∀ y ∈ succ L[j], y ∈ L) : Runs succ' (dd (L.map f)) (dd ((L.take i).map f)).length (dd (R.map f)) := by
  induction h with
  | @stop L i h =>
    have e : L.take i = L := List.take_of_length_le h
    rw [e]
    exact .stop (Nat.le_refl _)
  | @step L R i h hr ih =>
    have hpre := adds_pre (succ L[i]) L
    have hdi := hall _ (List.getElem_mem h)
    have ha2 : ∀ x ∈ adds L (succ L[i]), dom x := fun x hx => by
      rcases mem_adds.mp hx with q | q
      · exact hall x q
      · exact hd _ hdi x q
    have hc2 : ∀ j (hj : j < (adds L (succ L[i])).length), j < i + 1 → ∀ y ∈ succ (adds L (succ L[i]))[j], y ∈ adds L (succ L[i]) := fun j hj hji y hy => by
      have hjl : j < L.length := by omega
      have e : (adds L (succ L[i]))[j] = L[j] := (hpre.getElem hjl).symm
      rw [e] at hy
      by_cases hj2 : j < i
      · exact hpre.subset (hc j hjl hj2 y hy)
      · obtain rfl : j = i := by omega
        exact mem_adds.mpr (Or.inr hy)
    have IH := ih ha2 (by have := hpre.length_le; omega) hc2
    rw [dd_adds, hf _ hdi] at IH
    have et : (adds L (succ L[i])).take (i + 1) = L.take i ++ [L[i]] := by
      obtain ⟨t, ht⟩ := hpre
      have h2 : (adds L (succ L[i])).take (i + 1) = L.take (i + 1) := by rw [← ht, List.take_append_of_le_length (by omega)]
      rw [h2, List.take_succ_eq_append_getElem h]
    rw [et, List.map_append, List.map_singleton, dd_snoc] at IH
    have hpm : dd ((L.take i).map f ++ [f L[i]]) <+: dd (L.map f) := by
      have e2 : L.map f = ((L.take i).map f ++ [f L[i]]) ++ (L.drop (i + 1)).map f := by
        rw [← List.map_singleton, ← List.map_append, ← List.map_append, ← List.take_succ_eq_append_getElem h, List.take_append_drop]
      have h3 := adds_pre ((L.drop (i + 1)).map f) (dd ((L.take i).map f ++ [f L[i]]))
      rw [← dd_append, ← e2] at h3
      exact h3
    rw [dd_snoc] at hpm
    by_cases hm : f L[i] ∈ dd ((L.take i).map f)
    · rw [add_in hm] at IH
      obtain ⟨x, hx, hxe⟩ := List.mem_map.mp (mem_dd.mp hm)
      obtain ⟨j, hj, rfl⟩ := List.mem_iff_getElem.mp hx
      have hj' : j < i := by simp only [List.length_take] at hj; omega
      have hjl : j < L.length := by omega
      have eL : (L.take i)[j] = L[j] := List.getElem_take
      have : adds (dd (L.map f)) (succ' (f L[i])) = dd (L.map f) := by
        refine adds_in fun y hy => ?_
        rw [← hxe, eL, ← hf _ (hall _ (List.getElem_mem hjl))] at hy
        obtain ⟨z, hz, rfl⟩ := List.mem_map.mp hy
        exact mem_dd.mpr (List.mem_map_of_mem (hc j hjl hj' z hz))
      rw [this] at IH
      exact IH
    · rw [add_out hm] at IH hpm
      have hlt : (dd ((L.take i).map f)).length < (dd (L.map f)).length := by
        have := hpm.length_le
        simp only [List.length_append, List.length_singleton] at this
        omega
      have eg : (dd (L.map f))[(dd ((L.take i).map f)).length] = f L[i] := by
        rw [← hpm.getElem (by simp)]
        simp
      refine .step hlt ?_
      rw [eg]
      rw [List.length_append, List.length_singleton] at IH
      exact IH
theorem Runs.map0 {succ : α → List α} {succ' : β → List β} {f : α → β} {dom : α → Prop} (hd : ∀ x, dom x → ∀ y ∈ succ x, dom y) (hf : ∀ x, dom x → (succ x).map f = succ' (f x)) {x0 : α} {R : List α} (h : Runs succ [x0] 0 R) (h0 : dom x0) : Runs succ' [f x0] 0 (dd (R.map f)) := by
  have := h.map hd hf (fun x hx => by rw [List.mem_singleton] at hx; subst hx; exact h0) (Nat.zero_le _) (fun j _ hj => by omega)
  simpa [dd, adds, add] using this
end
end Go.Proofs.Ytogamkblkoobkaa.Lg
end
section
namespace Go.Proofs.Ytogamkblkoobkaa.Mn
open Go.RowKit Go.Proofs.Ytogamkblkoobkaa Go.Proofs.Ytogamkblkoobkaa.Lg Go.Proofs.Ytogamkblkoobkaa.Pl Go.Proofs.Ytogamkblkoobkaa.Mp Go.Proofs.Ytogamkblkoobkaa.Bf Go.Proofs.YtogamkblkoobkaaW.PrintWords Go.Proofs.YtogamkblkoobkaaW.PrintLast Go.Proofs.YtogamkblkoobkaaW.PrintMore
set_option linter.unusedVariables false
set_option linter.unusedSimpArgs false
set_option linter.unusedSectionVars false
theorem set_mid {α : Type} (A : List α) (z y : α) (B : List α) : (A ++ z :: B).set A.length y = A ++ [y] ++ B := by
  induction A with
  | nil => rfl
  | cons a A ih => simp
def rowOf (l1 : List (List Int)) (q : Int) : List Int := l1.getD q.toNat []
def ordF (l1 : List (List Int)) : Nat → List Int → Nat → List Int
  | 0, os, _ => os
  | d + 1, os, i => if h : i < os.length then ordF l1 d (adds os (rowOf l1 os[i])) (i + 1) else os
def cls0 (l0 : List Bool) (q : Int) : Int := if rdOf false l0 q = true then 1 else 0
def pl (os : List Int) (x : Int) : Int := (idx os x).getD 0
def pk (cl os row : List Int) (m j : Nat) : Int := if m < j then rd cl (pl os (rd row (m : Int))) else 0
abbrev K4 := Int × Int × Int × Int
def keyAt (l1 : List (List Int)) (os cl : List Int) (i : Nat) : K4 :=
  (cl.getD i 0, rd cl (pl os (rd (rowOf l1 (os.getD i 0)) 0)), rd cl (pl os (rd (rowOf l1 (os.getD i 0)) 1)), rd cl (pl os (rd (rowOf l1 (os.getD i 0)) 2)))
def keys (l1 : List (List Int)) (os cl : List Int) : List K4 := (List.range os.length).map (keyAt l1 os cl)
def nmF {α : Type} [DecidableEq α] : List α → List α → List Int → List α × List Int
  | [], ks, out => (ks, out)
  | k :: r, ks, out => nmF r (add ks k) (out ++ [((add ks k).idxOf k : Int)])
def refF (l1 : List (List Int)) (os : List Int) : Nat → List Int → Nat → List Int
  | 0, cl, _ => cl
  | d + 1, cl, c => if (nmF (keys l1 os cl) [] []).1.length = c then (nmF (keys l1 os cl) [] []).2 else refF l1 os d (nmF (keys l1 os cl) [] []).2 (nmF (keys l1 os cl) [] []).1.length
def ldF : List Int → Nat → List Int → List Int → List Int × List Int
  | [], _, ns, ls => (ns, ls)
  | c :: r, i, ns, ls => if c ∈ ns then ldF r (i + 1) ns ls else ldF r (i + 1) (ns ++ [c]) (ls ++ [(i : Int)])
def outRow (l1 : List (List Int)) (os cl ns : List Int) (i : Int) : List Int := (rowOf l1 (rd os i)).map fun x => (idx ns (rd cl (pl os x))).getD 0
def outD (l0 : List Bool) (l1 : List (List Int)) (os cl : List Int) : List Bool × List (List Int) :=
  ((ldF cl 0 [] []).2.map (fun i => rdOf false l0 (rd os i)), (ldF cl 0 [] []).2.map (outRow l1 os cl (ldF cl 0 [] []).1))
def minT (l0 : List Bool) (l1 : List (List Int)) (os : List Int) : List Bool × List (List Int) := outD l0 l1 os (refF l1 os (os.length + 2) (os.map (cls0 l0)) 0)
def minD (l0 : List Bool) (l1 : List (List Int)) (st : Int) : List Bool × List (List Int) := minT l0 l1 (ordF l1 (l0.length + 2) [st] 0)
theorem idx_nil {α : Type} [DecidableEq α] : (fun _ => none : α → Option Int) = idx [] := by
  funext x
  simp [idx]
theorem idx_val {α : Type} [DecidableEq α] {s : List α} {x : α} (h : x ∈ s) : ((s.idxOf x : Nat) : Int) = (idx s x).getD 0 := by
  unfold idx
  rw [if_pos h]
  rfl
theorem pl_bound {os : List Int} (h : 1 ≤ os.length) (x : Int) : 0 ≤ pl os x ∧ pl os x < (os.length : Int) := by
  unfold pl idx
  split
  · rename_i hm
    have := List.idxOf_lt_length_of_mem hm
    simp only [Option.getD_some]
    omega
  · simp only [Option.getD_none]
    omega
section
variable {α β : Type} [DecidableEq α] [DecidableEq β]
theorem idxOf_pre {L R : List α} (h : L <+: R) {x : α} (hx : x ∈ L) : R.idxOf x = L.idxOf x := by
  obtain ⟨t, rfl⟩ := h
  rw [List.idxOf_append, if_pos hx]
theorem dd_map_le (f : α → β) (l : List α) : (dd (l.map f)).length ≤ (dd l).length := by
  have := nodup_len (dd (l.map f)) ((dd l).map f) (dd_nodup _) (fun x hx => by
    obtain ⟨y, hy, rfl⟩ := List.mem_map.mp (mem_dd.mp hx)
    exact List.mem_map_of_mem (mem_dd.mpr hy))
  simpa using this
theorem dd_len_le (l : List α) : (dd l).length ≤ l.length := nodup_len _ _ (dd_nodup l) (fun x hx => mem_dd.mp hx)
end
theorem nmF_eq {α : Type} [DecidableEq α] : ∀ (K ks : List α) (out : List Int), nmF K ks out = (adds ks K, out ++ K.map (fun k => ((adds ks K).idxOf k : Int)))
  | [], ks, out => by simp [nmF, adds_nil]
  | k :: r, ks, out => by
    rw [nmF, nmF_eq r, adds_cons, List.map_cons]
    have hp := adds_pre r (add ks k)
    rw [idxOf_pre hp (mem_add.mpr (Or.inr rfl))]
    simp
theorem nm_eq {α : Type} [DecidableEq α] (K : List α) : nmF K [] [] = (dd K, K.map (fun k => ((dd K).idxOf k : Int))) := by rw [nmF_eq]; simp [dd]
theorem nm_bound {α : Type} [DecidableEq α] (K : List α) : ∀ x ∈ (nmF K [] []).2, 0 ≤ x ∧ x < ((dd K).length : Int) := by
  rw [nm_eq]
  intro x hx
  obtain ⟨y, hy, rfl⟩ := List.mem_map.mp hx
  have := List.idxOf_lt_length_of_mem (mem_dd.mpr hy)
  omega
theorem keys_len (l1 : List (List Int)) (os cl : List Int) : (keys l1 os cl).length = os.length := by simp [keys]
theorem keys_more {l1 : List (List Int)} {os cl : List Int} (h : cl.length = os.length) : (dd cl).length ≤ (dd (keys l1 os cl)).length := by
  have e : (keys l1 os cl).map (fun k => k.1) = cl := by
    apply List.ext_getElem
    · simp [keys, h]
    · intro i h1 h2
      simp [keys, keyAt, List.getD_eq_getElem?_getD, List.getElem?_eq_getElem h2]
  have := dd_map_le (fun k : K4 => k.1) (keys l1 os cl)
  rw [e] at this
  exact this
theorem nm_classes {α : Type} [DecidableEq α] [Inhabited α] (K : List α) : (dd (nmF K [] []).2).length = (dd K).length := by
  rw [nm_eq]
  dsimp only
  refine Nat.le_antisymm (dd_map_le _ K) ?_
  have e : (K.map (fun k => ((dd K).idxOf k : Int))).map (fun z : Int => (dd K)[z.toNat]?) = K.map some := by
    rw [List.map_map]
    apply List.map_congr_left
    intro k hk
    have hm : k ∈ dd K := mem_dd.mpr hk
    have hl := List.idxOf_lt_length_of_mem hm
    simp only [Function.comp, Int.toNat_natCast]
    rw [List.getElem?_eq_getElem hl, List.getElem_idxOf]
  have h1 := dd_map_le (fun z : Int => (dd K)[z.toNat]?) (K.map (fun k => ((dd K).idxOf k : Int)))
  rw [e] at h1
  have h2 : (dd K).length ≤ (dd (K.map some)).length := by
    have := dd_map_le (fun o : Option α => o.getD default) (K.map some)
    rw [List.map_map, show ((fun o : Option α => o.getD default) ∘ some) = id from rfl, List.map_id] at this
    exact this
  omega
end Go.Proofs.Ytogamkblkoobkaa.Mn
end
