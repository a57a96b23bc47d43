/- Texts of the proof of FnShortest, put together. No condition. -/
import Derived.Test.YtogamkblkoobkaaQFnShortest2
import Derived.Test.YtogamkblkoobkaaQFnShortest5
import Derived.Test.YtogamkblkoobkaaQFnShortest6
import Derived.Test.YtogamkblkoobkaaQFnShortest7
import Derived.Test.YtogamkblkoobkaaQFnShortest4
import Derived.WalkLawsBesides
section
namespace Go.Proofs.Ytogamkblkoobkaa.P
open Go.RowKit Go.Proofs.YtogamkblkoobkaaW.PrintWords Go.Proofs.YtogamkblkoobkaaW.PrintLast Go.Proofs.YtogamkblkoobkaaW.PrintMore
attribute [local go_sem] max2_int min2_int max_two min_two max_three min_three max_four min_four
set_option linter.unusedVariables false
set_option linter.unusedSimpArgs false
theorem zp52_0_ {p q g1 : Prop} (h : p) (h1 : g1) (c : p → g1 → q := by intro h_ h1_; repeat (first | (with_reducible first | exact h_ | apply below_alloc | apply pw_below_drewN | apply below_drew1 | refine below_set ?_ h1_) | exact h_)) : q := c h h1
theorem zp52_1_ {p q g1 : Prop} (h : p) (h1 : g1) (c : p → g1 → q := by intro h_ h1_; repeat (first | (with_reducible first | exact h_ | apply IsS125.alloc | apply IsS125.drewN | apply IsS125.drew | apply IsS125.set_1 | apply IsS125.set_2 | refine IsS125.far ?_ h1_ _) | exact h_)) : q := c h h1
theorem zp52_2_ {p q g1 g2 : Prop} (h : p) (h1 : g1) (h2 : g2) (c : p → g1 → g2 → q := by intro h_ h1_ h2_; repeat (first | (with_reducible first | exact h_ | apply below_alloc | apply pw_below_drewN | apply below_drew1 | refine below_set ?_ h1_ | refine below_set ?_ h2_) | exact h_)) : q := c h h1 h2
def spec_DrawMinimizeDfa.f (k : Nat) (l0 : List Int) : Option (List Bool × (List (List Int))) := (spec_l1New.f k l0).bind fun bt1116 => ((spec_l1Once.f bt1116.1 bt1116.2.1 bt1116.2.2 8).bind fun bt1120 => (if bt1120.1 = true then ((spec_l5Bent.f k bt1116.1 bt1120.2.1 bt1120.2.2).bind fun bt1123 => (some (bt1123.1, bt1123.2.1))) else ((spec_l5Draw.f k bt1116.1 bt1120.2.1 bt1120.2.2 6).bind fun bt1131 => (some (bt1131.1, bt1131.2.1)))))
theorem spec_DrawMinimizeDfa.mono : ∀ a0 k, LeO (spec_DrawMinimizeDfa.f k a0) (spec_DrawMinimizeDfa.f (k + 1) a0) := by
 intro a0 k
 unfold spec_DrawMinimizeDfa.f
 repeat' first
   | (with_reducible exact spec_l1New.mono _ _)
   | (with_reducible exact spec_l5Bent.mono _ _ _ _)
   | (with_reducible exact spec_l5Draw.mono _ _ _ _ _)
   | (with_reducible exact LeO.refl _)
   | (with_reducible exact LeO.none _)
   | (with_reducible refine LeO.ite ?_ ?_)
   | (with_reducible refine LeO.bind ?_ (fun _ => ?_))
   | exact spec_l1New.mono _ _
   | exact spec_l5Bent.mono _ _ _ _
   | exact spec_l5Draw.mono _ _ _ _ _
   | exact LeO.none _
   | refine LeO.ite ?_ ?_
   | refine LeO.bind ?_ (fun _ => ?_)
set_option maxHeartbeats 8000000 in
set_option maxRecDepth 100000 in
theorem spec_DrawMinimizeDfa.calls (k : Nat) (A0 : Option Addr) (c0 : Nat) (l0 : List Int) (r1 : List Bool) (r2 : List (List Int)) (w : World) (hr0 : Kd.C (Kd.int .u8) w A0 l0.length l0) (hc0 : l0.length ≤ c0) (h : spec_DrawMinimizeDfa.f k l0 = some (r1, r2)) :
  Calls Try.prog 111 #[.slice A0 l0.length c0] w fun e w' => ∃ v0_ v1_ : Value, e = .returned (.agg #[v0_, v1_]) ∧ Kd.R Kd.bool 4 w' w.heap.size (fun _ => True) v0_ r1 ∧ Kd.S (Kd.slice 3 (Kd.int .i64)) 67 w' w.heap.size (fun _ => True) v1_ r2 ∧ Below w.heap.size w w' := by
 have hu27 := Try.underlying27
 have HR0 := am_ hr0
 have HC0 := am_ hc0
 clear hr0 hc0
 have HB := am_ (Below.refl w.heap.size w)
 have H : ((spec_l1New.f k l0).bind fun bt1116 => ((spec_l1Once.f bt1116.1 bt1116.2.1 bt1116.2.2 8).bind fun bt1120 => (if bt1120.1 = true then ((spec_l5Bent.f k bt1116.1 bt1120.2.1 bt1120.2.2).bind fun bt1123 => (some (bt1123.1, bt1123.2.1))) else ((spec_l5Draw.f k bt1116.1 bt1120.2.1 bt1120.2.2 6).bind fun bt1131 => (some (bt1131.1, bt1131.2.1)))))) = some (r1, r2) := h
 clear h
 replace H := Option.bind_eq_some_iff.mp H
 obtain ⟨⟨t1116, t1117, t1118⟩, A20, H⟩ := H
 have A2 := am_ A20
 clear A20
 replace H := Option.bind_eq_some_iff.mp H
 obtain ⟨⟨t1120, t1121, t1122⟩, A30, H⟩ := H
 have A3 := am_ A30
 clear A30
 by_cases c4 : t1120 = true
 ·subst c4
  have H1 : ((spec_l5Bent.f k t1116 t1121 t1122).bind fun bt1123 => (some (bt1123.1, bt1123.2.1))) = some (r1, r2) := by rw [if_pos rfl] at H; exact H
  clear H
  have H := H1
  clear H1
  replace H := Option.bind_eq_some_iff.mp H
  obtain ⟨⟨t1123, t1126, t1129, t1130⟩, A50, H⟩ := H
  replace H : (some (t1123, t1126)) = some (r1, r2) := H
  have A5 := am_ A50
  clear A50
  simp only [Option.some.injEq, Prod.mk.injEq] at H
  obtain ⟨rfl, rfl⟩ := H
  go_enter Try.func111, Try.ntmps111
  go_wp2_with (first | ((with_reducible refine gate_dst (N := 2) rfl ?_); refine box_event ?hg (N := 2) ?hd (cs := #[.slice none 0 0, .slice none 0 0]) (t := 27) ?hr ?_; (case hd => rfl); (case hg => rfl); (case hr => first | (go_simp; done) | (go_simp; rfl)); intro gb1115 hg w6 hbox hb; replace BK1115 := am_ (hbox); replace GW1115 := am_ ((by rw [hg]; exact (below_size (b0_ HB.out)) : w.heap.size ≤ gb1115)); replace GE1115 := am_ ((by rw [hg]; exact (below_size (b0_ HB.out)) : w.heap.size ≤ gb1115)); replace HB := am_ (below_step (b0_ HB.out) hb); clear hb hbox hg) | ((with_reducible refine gate_callee (f := 85) rfl ?_); refine gL_ (some 5) Try.func85 #[.slice A0 l0.length c0] ?_; (with_reducible refine (spec_l1New.calls k _ _ l0 t1116 t1117 t1118 w _ ?side1 ?side2 ?side3 A2.out).mono ?_); (case side1 => exact zp52_0_ HB.out GE1115.out); (case side2 => exact HR0.out); (case side3 => exact HC0.out); rintro e w7 ⟨g1119, rfl, hi, hb, hb2⟩; refine ⟨_, rfl, ?_⟩; have n0_ := am_ (blk_below (rb_ BK1115.out) hb2); have n1_ := am_ (hb); have n2_ := am_ (hi); have n3_ := am_ (IsS125.ne_blk hi (blk_below (rb_ BK1115.out) hb2) (by decide)); have n4_ := am_ (Ne.symm (IsS125.ne_blk hi (blk_below (rb_ BK1115.out) hb2) (by decide))); clear BK1115; clear HB; have BK1115 := n0_; have HB := n1_; have HI1119 := n2_; have NB1119_1115 := n3_; have NB1115_1119 := n4_; clear n0_ n1_ n2_ n3_ n4_; (try clear hb); (try clear hb2); (try clear hk); (try clear hi)) | ((with_reducible refine gate_callee (f := 87) rfl ?_); refine gL_ (some 7) Try.func87 #[.pointer (some ⟨g1119, 0, none⟩), .int .i64 8] ?_; (with_reducible refine (spec_l1Once.calls g1119 t1116 t1117 t1118 8 true t1121 t1122 w _ ?side1 ?side2 A3.out).mono ?_); (case side1 => exact zp52_1_ HI1119.out NB1119_1115.out); (case side2 => exact zp52_2_ HB.out (IsS125.ge HI1119.out) GE1115.out); rintro e w8 ⟨rfl, hi, hb, hk⟩; refine ⟨_, rfl, ?_⟩; have n0_ := am_ (KeepBut.blk hk (g' := gb1115) (o := .cells #[.slice none 0 0, .slice none 0 0] 27 (0, 0)) (rb_ BK1115.out) NB1115_1119.out (by simp)); have n1_ := am_ (hb); have n2_ := am_ (hi); clear BK1115; clear HB; clear HI1119; have BK1115 := n0_; have HB := n1_; have HI1119 := n2_; clear n0_ n1_ n2_; (try clear hb); (try clear hb2); (try clear hk); (try clear hi)) | ((with_reducible refine gate_callee (f := 88) rfl ?_); refine gL_ (some 9) Try.func88 #[.pointer (some ⟨g1119, 0, none⟩)] ?_; (with_reducible refine (spec_l5Bent.calls k g1119 t1116 t1121 t1122 t1123 t1126 t1129 t1130 w _ ?side1 ?side2 A5.out).mono ?_); (case side1 => exact zp52_1_ HI1119.out NB1119_1115.out); (case side2 => exact zp52_2_ HB.out (IsS125.ge HI1119.out) GE1115.out); rintro e w9 ⟨v1124, v1127, rfl, ho0, ho1, hi, hb, hk⟩; refine ⟨_, rfl, ?_⟩; have n0_ := am_ (KeepBut.blk hk (g' := gb1115) (o := .cells #[.slice none 0 0, .slice none 0 0] 27 (0, 0)) (rb_ BK1115.out) NB1115_1119.out (by simp)); have n1_ := am_ (Kd.R_lower ho0 (below_size (b2_ HB.out (IsS125.ge HI1119.out) GE1115.out))); have n2_ := am_ (Kd.S_lower ho1 (below_size (b2_ HB.out (IsS125.ge HI1119.out) GE1115.out))); have n3_ := am_ (hb); have n4_ := am_ (hi); clear BK1115; clear HB; clear HI1119; have BK1115 := n0_; have HO1125 := n1_; have HO1128 := n2_; have HB := n3_; have HI1119 := n4_; clear n0_ n1_ n2_ n3_ n4_; (try clear hb); (try clear hb2); (try clear hk); (try clear hi); (try clear ho0); (try clear ho1); obtain ⟨Ao10, co10, eo10⟩ := Kd.R_slice HO1125.out; subst eo10; have hnb11 := NB1115_1119.out; have hnc11 := NB1119_1115.out; have hcz12_0 : w9.cell? ⟨gb1115, 0, none⟩ = some (.slice none 0 0) := (blk_cell BK1115.out 0).trans rfl; have hcz12_1 : w9.cell? ⟨gb1115, 1, none⟩ = some (.slice none 0 0) := (blk_cell BK1115.out 1).trans rfl; have hfz12_0 := blk_frozen BK1115.out 0; have hfz12_1 := blk_frozen BK1115.out 1; obtain ⟨Ao13, co13, eo13⟩ := Kd.S_slice HO1128.out; subst eo13))
  refine bodyPost_ret (results_cell_row rfl _ _ gb1115 27 #[.slice Ao10 t1123.length co10, .slice Ao13 t1126.length co13] (0, 0) _ rfl (by refine rb_ ?_; refine blk_put (cs := #[.slice Ao10 t1123.length co10, .slice none 0 0]) ?_ 1 _ rfl; refine rb_ ?_; refine blk_put (cs := #[.slice none 0 0, .slice none 0 0]) ?_ 0 _ rfl; refine rb_ ?_; exact BK1115.out) Try.underlying27 rfl (by kernel_rfl)) rfl ?_
  exact ⟨_, _, by first | rfl | (simp [errW_none, errW_some] <;> rfl) | (simp [*, errW_none, errW_some] <;> rfl), by refine rr_ ?_; exact Kd.R_mono (Kd.R_far (p := ⟨gb1115, 1, none⟩) (Kd.R_far (p := ⟨gb1115, 0, none⟩) (Kd.R_types HO1125.out BK1115.out (by decide)) (fun _ hk => hk.2) (.slice Ao10 t1123.length co10)) (fun _ hk => hk.2) (.slice Ao13 t1126.length co13)) (fun _ hk => trivial), by refine rs_ ?_; exact Kd.S_mono (Kd.S_far (p := ⟨gb1115, 1, none⟩) (Kd.S_far (p := ⟨gb1115, 0, none⟩) (Kd.S_types HO1128.out BK1115.out (by decide)) (fun _ hk => hk.2) (.slice Ao10 t1123.length co10)) (fun _ hk => hk.2) (.slice Ao13 t1126.length co13)) (fun _ hk => trivial), by exact zp52_2_ HB.out (IsS125.ge HI1119.out) GE1115.out⟩
 ·replace c4 := Bool.eq_false_iff.mpr c4
  subst c4
  have H1 : ((spec_l5Draw.f k t1116 t1121 t1122 6).bind fun bt1131 => (some (bt1131.1, bt1131.2.1))) = some (r1, r2) := by rw [if_neg (show ¬ (false = true) by decide)] at H; exact H
  clear H
  have H := H1
  clear H1
  replace H := Option.bind_eq_some_iff.mp H
  obtain ⟨⟨t1131, t1134, t1137, t1138⟩, A140, H⟩ := H
  replace H : (some (t1131, t1134)) = some (r1, r2) := H
  have A14 := am_ A140
  clear A140
  simp only [Option.some.injEq, Prod.mk.injEq] at H
  obtain ⟨rfl, rfl⟩ := H
  go_enter Try.func111, Try.ntmps111
  go_wp2_with (first | ((with_reducible refine gate_dst (N := 2) rfl ?_); refine box_event ?hg (N := 2) ?hd (cs := #[.slice none 0 0, .slice none 0 0]) (t := 27) ?hr ?_; (case hd => rfl); (case hg => rfl); (case hr => first | (go_simp; done) | (go_simp; rfl)); intro gb1115 hg w15 hbox hb; replace BK1115 := am_ (hbox); replace GW1115 := am_ ((by rw [hg]; exact (below_size (b0_ HB.out)) : w.heap.size ≤ gb1115)); replace GE1115 := am_ ((by rw [hg]; exact (below_size (b0_ HB.out)) : w.heap.size ≤ gb1115)); replace HB := am_ (below_step (b0_ HB.out) hb); clear hb hbox hg) | ((with_reducible refine gate_callee (f := 85) rfl ?_); refine gL_ (some 5) Try.func85 #[.slice A0 l0.length c0] ?_; (with_reducible refine (spec_l1New.calls k _ _ l0 t1116 t1117 t1118 w _ ?side1 ?side2 ?side3 A2.out).mono ?_); (case side1 => exact zp52_0_ HB.out GE1115.out); (case side2 => exact HR0.out); (case side3 => exact HC0.out); rintro e w16 ⟨g1119, rfl, hi, hb, hb2⟩; refine ⟨_, rfl, ?_⟩; have n0_ := am_ (blk_below (rb_ BK1115.out) hb2); have n1_ := am_ (hb); have n2_ := am_ (hi); have n3_ := am_ (IsS125.ne_blk hi (blk_below (rb_ BK1115.out) hb2) (by decide)); have n4_ := am_ (Ne.symm (IsS125.ne_blk hi (blk_below (rb_ BK1115.out) hb2) (by decide))); clear BK1115; clear HB; have BK1115 := n0_; have HB := n1_; have HI1119 := n2_; have NB1119_1115 := n3_; have NB1115_1119 := n4_; clear n0_ n1_ n2_ n3_ n4_; (try clear hb); (try clear hb2); (try clear hk); (try clear hi)) | ((with_reducible refine gate_callee (f := 87) rfl ?_); refine gL_ (some 7) Try.func87 #[.pointer (some ⟨g1119, 0, none⟩), .int .i64 8] ?_; (with_reducible refine (spec_l1Once.calls g1119 t1116 t1117 t1118 8 false t1121 t1122 w _ ?side1 ?side2 A3.out).mono ?_); (case side1 => exact zp52_1_ HI1119.out NB1119_1115.out); (case side2 => exact zp52_2_ HB.out (IsS125.ge HI1119.out) GE1115.out); rintro e w17 ⟨rfl, hi, hb, hk⟩; refine ⟨_, rfl, ?_⟩; have n0_ := am_ (KeepBut.blk hk (g' := gb1115) (o := .cells #[.slice none 0 0, .slice none 0 0] 27 (0, 0)) (rb_ BK1115.out) NB1115_1119.out (by simp)); have n1_ := am_ (hb); have n2_ := am_ (hi); clear BK1115; clear HB; clear HI1119; have BK1115 := n0_; have HB := n1_; have HI1119 := n2_; clear n0_ n1_ n2_; (try clear hb); (try clear hb2); (try clear hk); (try clear hi)) | ((with_reducible refine gate_callee (f := 86) rfl ?_); refine gL_ (some 11) Try.func86 #[.pointer (some ⟨g1119, 0, none⟩), .int .i64 6] ?_; (with_reducible refine (spec_l5Draw.calls k g1119 t1116 t1121 t1122 6 t1131 t1134 t1137 t1138 w _ ?side1 ?side2 A14.out).mono ?_); (case side1 => exact zp52_1_ HI1119.out NB1119_1115.out); (case side2 => exact zp52_2_ HB.out (IsS125.ge HI1119.out) GE1115.out); rintro e w18 ⟨v1132, v1135, rfl, ho0, ho1, hi, hb, hk⟩; refine ⟨_, rfl, ?_⟩; have n0_ := am_ (KeepBut.blk hk (g' := gb1115) (o := .cells #[.slice none 0 0, .slice none 0 0] 27 (0, 0)) (rb_ BK1115.out) NB1115_1119.out (by simp)); have n1_ := am_ (Kd.R_lower ho0 (below_size (b2_ HB.out (IsS125.ge HI1119.out) GE1115.out))); have n2_ := am_ (Kd.S_lower ho1 (below_size (b2_ HB.out (IsS125.ge HI1119.out) GE1115.out))); have n3_ := am_ (hb); have n4_ := am_ (hi); clear BK1115; clear HB; clear HI1119; have BK1115 := n0_; have HO1133 := n1_; have HO1136 := n2_; have HB := n3_; have HI1119 := n4_; clear n0_ n1_ n2_ n3_ n4_; (try clear hb); (try clear hb2); (try clear hk); (try clear hi); (try clear ho0); (try clear ho1); obtain ⟨Ao19, co19, eo19⟩ := Kd.R_slice HO1133.out; subst eo19; have hnb20 := NB1115_1119.out; have hnc20 := NB1119_1115.out; have hcz21_0 : w18.cell? ⟨gb1115, 0, none⟩ = some (.slice none 0 0) := (blk_cell BK1115.out 0).trans rfl; have hcz21_1 : w18.cell? ⟨gb1115, 1, none⟩ = some (.slice none 0 0) := (blk_cell BK1115.out 1).trans rfl; have hfz21_0 := blk_frozen BK1115.out 0; have hfz21_1 := blk_frozen BK1115.out 1; obtain ⟨Ao22, co22, eo22⟩ := Kd.S_slice HO1136.out; subst eo22))
  refine bodyPost_ret (results_cell_row rfl _ _ gb1115 27 #[.slice Ao19 t1131.length co19, .slice Ao22 t1134.length co22] (0, 0) _ rfl (by refine rb_ ?_; refine blk_put (cs := #[.slice Ao19 t1131.length co19, .slice none 0 0]) ?_ 1 _ rfl; refine rb_ ?_; refine blk_put (cs := #[.slice none 0 0, .slice none 0 0]) ?_ 0 _ rfl; refine rb_ ?_; exact BK1115.out) Try.underlying27 rfl (by kernel_rfl)) rfl ?_
  exact ⟨_, _, by first | rfl | (simp [errW_none, errW_some] <;> rfl) | (simp [*, errW_none, errW_some] <;> rfl), by refine rr_ ?_; exact Kd.R_mono (Kd.R_far (p := ⟨gb1115, 1, none⟩) (Kd.R_far (p := ⟨gb1115, 0, none⟩) (Kd.R_types HO1133.out BK1115.out (by decide)) (fun _ hk => hk.2) (.slice Ao19 t1131.length co19)) (fun _ hk => hk.2) (.slice Ao22 t1134.length co22)) (fun _ hk => trivial), by refine rs_ ?_; exact Kd.S_mono (Kd.S_far (p := ⟨gb1115, 1, none⟩) (Kd.S_far (p := ⟨gb1115, 0, none⟩) (Kd.S_types HO1136.out BK1115.out (by decide)) (fun _ hk => hk.2) (.slice Ao19 t1131.length co19)) (fun _ hk => hk.2) (.slice Ao22 t1134.length co22)) (fun _ hk => trivial), by exact zp52_2_ HB.out (IsS125.ge HI1119.out) GE1115.out⟩
def spec_DrawShortestWord.f (k : Nat) (l0 : List Int) : Option (List Bool × (List (List Int))) := (spec_DrawMinimizeDfa.f k l0).bind fun bt1140 => (some (bt1140.1, bt1140.2))
theorem spec_DrawShortestWord.mono : ∀ a0 k, LeO (spec_DrawShortestWord.f k a0) (spec_DrawShortestWord.f (k + 1) a0) := by
  intro a0 k
  unfold spec_DrawShortestWord.f
  repeat' first
      | (with_reducible exact spec_DrawMinimizeDfa.mono _ _)
      | (with_reducible exact LeO.refl _)
      | (with_reducible exact LeO.none _)
      | (with_reducible refine LeO.ite ?_ ?_)
      | (with_reducible refine LeO.bind ?_ (fun _ => ?_))
      | exact spec_DrawMinimizeDfa.mono _ _
      | exact LeO.none _
      | refine LeO.ite ?_ ?_
      | refine LeO.bind ?_ (fun _ => ?_)
set_option maxHeartbeats 8000000 in
set_option maxRecDepth 100000 in
theorem spec_DrawShortestWord.calls (k : Nat) (A0 : Option Addr) (c0 : Nat) (l0 : List Int) (r1 : List Bool) (r2 : List (List Int)) (w : World) (hr0 : Kd.C (Kd.int .u8) w A0 l0.length l0) (hc0 : l0.length ≤ c0) (h : spec_DrawShortestWord.f k l0 = some (r1, r2)) :
    Calls Try.prog 46 #[.slice A0 l0.length c0] w fun e w' => ∃ v0_ v1_ : Value, e = .returned (.agg #[v0_, v1_]) ∧ Kd.R Kd.bool 4 w' w.heap.size (fun _ => True) v0_ r1 ∧ Kd.S (Kd.slice 3 (Kd.int .i64)) 67 w' w.heap.size (fun _ => True) v1_ r2 ∧ Below w.heap.size w w' := by
  have hu27 := Try.underlying27
  have HR0 := am_ hr0
  have HC0 := am_ hc0
  clear hr0 hc0
  have HB := am_ (Below.refl w.heap.size w)
  have H : ((spec_DrawMinimizeDfa.f k l0).bind fun bt1140 => (some (bt1140.1, bt1140.2))) = some (r1, r2) := h
  clear h
  replace H := Option.bind_eq_some_iff.mp H
  obtain ⟨⟨t1140, t1143⟩, A20, H⟩ := H
  replace H : (some (t1140, t1143)) = some (r1, r2) := H
  have A2 := am_ A20
  clear A20
  simp only [Option.some.injEq, Prod.mk.injEq] at H
  obtain ⟨rfl, rfl⟩ := H
  go_enter Try.func46, Try.ntmps46
  go_wp2_with (first | ((with_reducible refine gate_dst (N := 2) rfl ?_); refine box_event ?hg (N := 2) ?hd (cs := #[.slice none 0 0, .slice none 0 0]) (t := 27) ?hr ?_; (case hd => rfl); (case hg => rfl); (case hr => first | (go_simp; done) | (go_simp; rfl)); intro gb1139 hg w3 hbox hb; replace BK1139 := am_ (hbox); replace GW1139 := am_ ((by rw [hg]; exact (below_size (b0_ HB.out)) : w.heap.size ≤ gb1139)); replace GE1139 := am_ ((by rw [hg]; exact (below_size (b0_ HB.out)) : w.heap.size ≤ gb1139)); replace HB := am_ (below_step (b0_ HB.out) hb); clear hb hbox hg) | ((with_reducible refine gate_callee (f := 111) rfl ?_); refine gL_ (some 4) Try.func111 #[.slice A0 l0.length c0] ?_; (with_reducible refine (spec_DrawMinimizeDfa.calls k _ _ l0 t1140 t1143 _ ?side1 ?side2 A2.out).mono ?_); (case side1 => exact rc_ (Kd.C_below HR0.out HB.out)); (case side2 => exact HC0.out); rintro e w4 ⟨v1141, v1144, rfl, ho0, ho1, hb⟩; refine ⟨_, rfl, ?_⟩; have n0_ := am_ (Kd.R_lower ho0 (below_size (b1_ HB.out GE1139.out))); have n1_ := am_ (Kd.S_lower ho1 (below_size (b1_ HB.out GE1139.out))); have n2_ := am_ (blk_below (rb_ BK1139.out) hb); have n3_ := am_ (below_step (b1_ HB.out GE1139.out) hb); clear BK1139; clear HB; have HO1142 := n0_; have HO1145 := n1_; have BK1139 := n2_; have HB := n3_; clear n0_ n1_ n2_ n3_; (try clear hb); (try clear hb2); (try clear hk); (try clear hi); (try clear ho0); (try clear ho1); obtain ⟨Ao5, co5, eo5⟩ := Kd.R_slice HO1142.out; subst eo5; have hcz6_0 : w4.cell? ⟨gb1139, 0, none⟩ = some (.slice none 0 0) := (blk_cell BK1139.out 0).trans rfl; have hcz6_1 : w4.cell? ⟨gb1139, 1, none⟩ = some (.slice none 0 0) := (blk_cell BK1139.out 1).trans rfl; have hfz6_0 := blk_frozen BK1139.out 0; have hfz6_1 := blk_frozen BK1139.out 1; obtain ⟨Ao7, co7, eo7⟩ := Kd.S_slice HO1145.out; subst eo7))
  refine bodyPost_ret (results_cell_row rfl _ _ gb1139 27 #[.slice Ao5 t1140.length co5, .slice Ao7 t1143.length co7] (0, 0) _ rfl (by refine rb_ ?_; refine blk_put (cs := #[.slice Ao5 t1140.length co5, .slice none 0 0]) ?_ 1 _ rfl; refine rb_ ?_; refine blk_put (cs := #[.slice none 0 0, .slice none 0 0]) ?_ 0 _ rfl; refine rb_ ?_; exact BK1139.out) Try.underlying27 rfl (by kernel_rfl)) rfl ?_
  exact ⟨_, _, by first | rfl | (simp [errW_none, errW_some] <;> rfl) | (simp [*, errW_none, errW_some] <;> rfl), by refine rr_ ?_; exact Kd.R_mono (Kd.R_far (p := ⟨gb1139, 1, none⟩) (Kd.R_far (p := ⟨gb1139, 0, none⟩) (Kd.R_types HO1142.out BK1139.out (by decide)) (fun _ hk => hk.2) (.slice Ao5 t1140.length co5)) (fun _ hk => hk.2) (.slice Ao7 t1143.length co7)) (fun _ hk => trivial), by refine rs_ ?_; exact Kd.S_mono (Kd.S_far (p := ⟨gb1139, 1, none⟩) (Kd.S_far (p := ⟨gb1139, 0, none⟩) (Kd.S_types HO1145.out BK1139.out (by decide)) (fun _ hk => hk.2) (.slice Ao5 t1140.length co5)) (fun _ hk => hk.2) (.slice Ao7 t1143.length co7)) (fun _ hk => trivial), by exact zp52_0_ HB.out GE1139.out⟩
end Go.Proofs.Ytogamkblkoobkaa.P
end
section
namespace Go.Proofs.Ytogamkblkoobkaa.P
open Go.RowKit Go.Proofs.YtogamkblkoobkaaW.PrintWords Go.Proofs.YtogamkblkoobkaaW.PrintLast Go.Proofs.YtogamkblkoobkaaW.PrintMore
attribute [local go_sem] max2_int min2_int max_two min_two max_three min_three max_four min_four
set_option linter.unusedVariables false
set_option linter.unusedSimpArgs false
def impl_ShortestWord.f (l0_0 : List Bool) (l0_1 : List (List Int)) : Option (ByteArray × Bool) := some (Wk.shW l0_0 l0_1)
theorem impl_ShortestWord.calls (A0_0 : Option Addr) (c0_0 : Nat) (l0_0 : List Bool) (A0_1 : Option Addr) (c0_1 : Nat) (l0_1 : List (List Int)) (r1 : ByteArray) (r2 : Bool) (w : World) (hr0_0 : Kd.C Kd.bool w A0_0 l0_0.length l0_0) (hc0_0 : l0_0.length ≤ c0_0) (hr0_1 : Kd.C (Kd.slice 3 (Kd.int .i64)) w A0_1 l0_1.length l0_1) (hc0_1 : l0_1.length ≤ c0_1) (h : impl_ShortestWord.f l0_0 l0_1 = some (r1, r2)) :
    Calls Try.prog 47 #[.agg #[.slice A0_0 l0_0.length c0_0, .slice A0_1 l0_1.length c0_1]] w fun e w' => e = .returned (.tuple #[.string r1, .bool r2]) ∧ Below w.heap.size w w' := by
  have h := Option.some.inj h
  have e1 : (Wk.shW l0_0 l0_1).1 = r1 := by rw [h]
  have e2 : (Wk.shW l0_0 l0_1).2 = r2 := by rw [h]
  rw [← e1, ← e2]
  exact Wk.shCalls A0_0 c0_0 l0_0 A0_1 c0_1 l0_1 w hr0_0 hr0_1
end Go.Proofs.Ytogamkblkoobkaa.P
end
section
namespace Go.Proofs.Ytogamkblkoobkaa.P
open Go.RowKit Go.Proofs.YtogamkblkoobkaaW.PrintWords Go.Proofs.YtogamkblkoobkaaW.PrintLast Go.Proofs.YtogamkblkoobkaaW.PrintMore
attribute [local go_sem] max2_int min2_int max_two min_two max_three min_three max_four min_four
set_option linter.unusedVariables false
set_option linter.unusedSimpArgs false
mutual
def spec_l7First.l0 : Nat → List Bool → List Int → List ByteArray → Int → List Bool → List (List Int) → Option (ByteArray × Bool)
  | 0, _, _, _, _, _, _ => none
  | k + 1, x1, x6, x7, x8, x713000, x713001 => if x8 < (x6.length : Int) then (if 0 ≤ x8 then (if 0 ≤ (rd x6 x8) then (if (rd x6 x8) < (x1.length : Int) then (if rdOf false x1 (rd x6 x8) = true then (if x8 < (x7.length : Int) then (some (rdOf ByteArray.empty x7 x8, true)) else (none)) else (spec_l7First.l1 k x1 x6 x7 x8 0 x713000 x713001)) else (none)) else (none)) else (none)) else (some ((⟨#[]⟩ : ByteArray), false))
def spec_l7First.l1 : Nat → List Bool → List Int → List ByteArray → Int → Int → List Bool → List (List Int) → Option (ByteArray × Bool)
  | 0, _, _, _, _, _, _, _ => none
  | k + 1, x1, x6, x7, x8, x9, x713000, x713001 => if x9 < 3 then (if 0 ≤ x8 then (if x8 < (x6.length : Int) then (if 0 ≤ (rd x6 x8) then (if (rd x6 x8) < (x713001.length : Int) then (if 0 ≤ x9 then (if x9 < ((rd_L1 x713001 (rd x6 x8)).length : Int) then ((spec_l5Find.f k x6 (rd (rd_L1 x713001 (rd x6 x8)) x9)).bind fun t725 => (if t725 < 0 then (if x6.length < 17592186044416 then (if x8 < (x7.length : Int) then (if x9 ≤ (wrap64 (x9 + 1)) then (if (wrap64 (x9 + 1)) ≤ 3 then (if (rdOf ByteArray.empty x7 x8).size + ((⟨#[97, 98, 99]⟩ : ByteArray).extract (x9 : Int).toNat ((wrap64 (x9 + 1)) : Int).toNat).size ≤ 9223372036854775807 then (if x7.length < 8796093022208 then (spec_l7First.l1 k x1 (x6 ++ [rd (rd_L1 x713001 (rd x6 x8)) x9]) (x7 ++ [(rdOf ByteArray.empty x7 x8) ++ ((⟨#[97, 98, 99]⟩ : ByteArray).extract (x9 : Int).toNat ((wrap64 (x9 + 1)) : Int).toNat)]) x8 (wrap64 (x9 + 1)) x713000 x713001) else (none)) else (none)) else (none)) else (none)) else (none)) else (none)) else (spec_l7First.l1 k x1 x6 x7 x8 (wrap64 (x9 + 1)) x713000 x713001))) else (none)) else (none)) else (none)) else (none)) else (none)) else (none)) else (spec_l7First.l0 k x1 x6 x7 (wrap64 (x8 + 1)) x713000 x713001)
end
def spec_l7First.f (k : Nat) (l0_0 : List Bool) (l0_1 : List (List Int)) (l1 : List Bool) : Option (ByteArray × Bool) := spec_l7First.l0 k l1 (([0] : List Int)) (([(⟨#[]⟩ : ByteArray)] : List ByteArray)) 0 l0_0 l0_1
theorem spec_l7First.mono_l : ∀ k, (∀ y0 y1 y2 y3 y4 y5, LeO (spec_l7First.l0 k y0 y1 y2 y3 y4 y5) (spec_l7First.l0 (k + 1) y0 y1 y2 y3 y4 y5)) ∧ (∀ y0 y1 y2 y3 y4 y5 y6, LeO (spec_l7First.l1 k y0 y1 y2 y3 y4 y5 y6) (spec_l7First.l1 (k + 1) y0 y1 y2 y3 y4 y5 y6))
 | 0 => ⟨fun _ _ _ _ _ _ r h => by simp [spec_l7First.l0] at h, fun _ _ _ _ _ _ _ r h => by simp [spec_l7First.l1] at h⟩
 | k + 1 => by
  obtain ⟨ih0, ih1⟩ := spec_l7First.mono_l k
  refine ⟨?_, ?_⟩
  ·intro y0 y1 y2 y3 y4 y5
   unfold spec_l7First.l0
   repeat' first
   | (with_reducible exact ih0 _ _ _ _ _ _)
   | (with_reducible exact ih1 _ _ _ _ _ _ _)
   | (with_reducible exact spec_l5Find.mono _ _ _)
   | (with_reducible exact LeO.refl _)
   | (with_reducible exact LeO.none _)
   | (with_reducible refine LeO.ite ?_ ?_)
   | (with_reducible refine LeO.bind ?_ (fun _ => ?_))
   | exact ih0 _ _ _ _ _ _
   | exact ih1 _ _ _ _ _ _ _
   | exact spec_l5Find.mono _ _ _
   | exact LeO.none _
   | refine LeO.ite ?_ ?_
   | refine LeO.bind ?_ (fun _ => ?_)
  ·intro y0 y1 y2 y3 y4 y5 y6
   unfold spec_l7First.l1
   repeat' first
   | (with_reducible exact ih0 _ _ _ _ _ _)
   | (with_reducible exact ih1 _ _ _ _ _ _ _)
   | (with_reducible exact spec_l5Find.mono _ _ _)
   | (with_reducible exact LeO.refl _)
   | (with_reducible exact LeO.none _)
   | (with_reducible refine LeO.ite ?_ ?_)
   | (with_reducible refine LeO.bind ?_ (fun _ => ?_))
   | exact ih0 _ _ _ _ _ _
   | exact ih1 _ _ _ _ _ _ _
   | exact spec_l5Find.mono _ _ _
   | exact LeO.none _
   | refine LeO.ite ?_ ?_
   | refine LeO.bind ?_ (fun _ => ?_)
theorem spec_l7First.mono : ∀ a0 a1 a2 k, LeO (spec_l7First.f k a0 a1 a2) (spec_l7First.f (k + 1) a0 a1 a2) := by
 intro a0 a1 a2 k
 obtain ⟨ih0, ih1⟩ := spec_l7First.mono_l k
 unfold spec_l7First.f
 repeat' first
   | (with_reducible exact ih0 _ _ _ _ _ _)
   | (with_reducible exact ih1 _ _ _ _ _ _ _)
   | (with_reducible exact spec_l5Find.mono _ _ _)
   | (with_reducible exact LeO.refl _)
   | (with_reducible exact LeO.none _)
   | (with_reducible refine LeO.ite ?_ ?_)
   | (with_reducible refine LeO.bind ?_ (fun _ => ?_))
   | exact ih0 _ _ _ _ _ _
   | exact ih1 _ _ _ _ _ _ _
   | exact spec_l5Find.mono _ _ _
   | exact LeO.none _
   | refine LeO.ite ?_ ?_
   | refine LeO.bind ?_ (fun _ => ?_)
def spec_l7First.T11 : Bool × List (List Nat × List Nat) := (true, [([], []), ([0], [0]), ([], []), ([], []), ([2, 3], [2, 3]), ([4], [4]), ([1, 5], [1, 5]), ([6], [6]), ([], []), ([7, 8], [7, 8]), ([9], [9]), ([10, 0, 1, 2, 3, 4, 5, 6, 7, 8, 9, 10], [10])])
def spec_l7First.B11 : List Nat := [0, 1, 0, 0, 12, 28, 63, 127, 0, 511, 1023, 2047]
theorem spec_l7First.tab11 : rtab .any (opsOf Try.f92 11) = spec_l7First.T11 := by kernel_rfl
theorem spec_l7First.bits11 : waitsOk spec_l7First.T11.2 spec_l7First.B11 = true := by kernel_rfl
def spec_l7First.T14 : Bool × List (List Nat × List Nat) := (true, [([], []), ([], []), ([], []), ([1, 2], [1, 2]), ([3], [3]), ([], []), ([], []), ([6], [6]), ([5, 7], [5, 7]), ([4, 8], [4, 8]), ([9], [9]), ([0, 10], [0, 10]), ([11, 11, 0, 1, 2, 3, 4, 5, 6, 7, 8, 9, 10, 11], [0, 1, 11])])
def spec_l7First.B14 : List Nat := [0, 0, 0, 6, 14, 0, 0, 64, 224, 510, 1022, 2047, 4095]
theorem spec_l7First.tab14 : rtab .any (opsOf Try.f92 14) = spec_l7First.T14 := by kernel_rfl
theorem spec_l7First.bits14 : waitsOk spec_l7First.T14.2 spec_l7First.B14 = true := by kernel_rfl
theorem zp37_0_ {p q g1 : Prop} (h : p) (h1 : g1) (c : p → g1 → q := by intro h_ h1_; repeat (first | (with_reducible first | exact h_ | apply below_alloc | apply pw_below_drewN | apply below_drew1 | refine below_set ?_ h1_) | exact h_)) : q := c h h1
set_option maxHeartbeats 8000000 in
set_option maxRecDepth 100000 in
theorem spec_l7First.calls (k : Nat) (A0_0 : Option Addr) (c0_0 : Nat) (l0_0 : List Bool) (A0_1 : Option Addr) (c0_1 : Nat) (l0_1 : List (List Int)) (A1 : Option Addr) (c1 : Nat) (l1 : List Bool) (r1 : ByteArray) (r2 : Bool) (w : World) (hr0_0 : Kd.C Kd.bool w A0_0 l0_0.length l0_0) (hc0_0 : l0_0.length ≤ c0_0) (hr0_1 : Kd.C (Kd.slice 3 (Kd.int .i64)) w A0_1 l0_1.length l0_1) (hc0_1 : l0_1.length ≤ c0_1) (hr1 : Kd.C Kd.bool w A1 l1.length l1) (hc1 : l1.length ≤ c1) (h : spec_l7First.f k l0_0 l0_1 l1 = some (r1, r2)) :
  Calls Try.prog 92 #[.agg #[.slice A0_0 l0_0.length c0_0, .slice A0_1 l0_1.length c0_1], .slice A1 l1.length c1] w fun e w' => e = .returned (.tuple #[.string r1, .bool r2]) ∧ Below w.heap.size w w' := by
 have hu27 := Try.underlying27
 have HR0_0 := am_ hr0_0
 have HC0_0 := am_ hc0_0
 clear hr0_0 hc0_0
 have HR0_1 := am_ hr0_1
 have HC0_1 := am_ hc0_1
 clear hr0_1 hc0_1
 have HR1 := am_ hr1
 have HC1 := am_ hc1
 clear hr1 hc1
 have HB := am_ (Below.refl w.heap.size w)
 have H : (spec_l7First.l0 k l1 (([0] : List Int)) (([(⟨#[]⟩ : ByteArray)] : List ByteArray)) 0 l0_0 l0_1) = some (r1, r2) := h
 clear h
 obtain ⟨y713, hy713⟩ : ∃ y_ : List Int, y_ = (([0] : List Int)) := ⟨_, rfl⟩
 replace H : (spec_l7First.l0 k l1 y713 (([(⟨#[]⟩ : ByteArray)] : List ByteArray)) 0 l0_0 l0_1) = some (r1, r2) := by first | (rw [hy713]; with_reducible exact H) | (have H2_ := (Option.bind_some _ _).symm.trans H; rw [hy713]; with_reducible exact H2_) | (have H2_ := (Option.bind_some _ _).symm.trans H; with_reducible exact H2_) | with_reducible exact H | (rw [hy713]; exact H) | exact H
 have Ny713 := am_ hy713
 clear hy713
 obtain ⟨y716, hy716⟩ : ∃ y_ : List ByteArray, y_ = (([(⟨#[]⟩ : ByteArray)] : List ByteArray)) := ⟨_, rfl⟩
 replace H : (spec_l7First.l0 k l1 y713 y716 0 l0_0 l0_1) = some (r1, r2) := by first | (rw [hy716]; with_reducible exact H) | (have H2_ := (Option.bind_some _ _).symm.trans H; rw [hy716]; with_reducible exact H2_) | (have H2_ := (Option.bind_some _ _).symm.trans H; with_reducible exact H2_) | with_reducible exact H | (rw [hy716]; exact H) | exact H
 have Ny716 := am_ hy716
 clear hy716
 have H' := am_ H
 clear H
 go_enter Try.func92, Try.ntmps92
 go_wp2_with (first | ((with_reducible refine gate_dst (N := 2) rfl ?_); refine box_event ?hg (N := 2) ?hd (cs := #[.slice A0_0 l0_0.length c0_0, .slice A0_1 l0_1.length c0_1]) (t := 27) ?hr ?_; (case hd => rfl); (case hg => rfl); (case hr => first | (go_simp; done) | (go_simp; rfl)); intro gb712 hg w3 hbox hb; replace BK712 := am_ (hbox); replace GW712 := am_ ((by rw [hg]; exact (below_size (b0_ HB.out)) : w.heap.size ≤ gb712)); replace GE712 := am_ ((by rw [hg]; exact (below_size (b0_ HB.out)) : w.heap.size ≤ gb712)); replace HB := am_ (below_step (b0_ HB.out) hb); clear hb hbox hg) | ((with_reducible refine gate_dst (N := 11) rfl ?_); refine Kd.R_lit (Kd.int .i64) _ 3 ?hg (N := 11) ?hd (xs := ([0] : List Int)) (inner := [.int .i64 0]) (ok := fun _ => True) (okp := fun _ => True) ?hr ?hp (fun _ hk => hk) trivial (Below.refl _ _) (Nat.le_refl _) (by simp) ?_; (case hd => rfl); (case hg => rfl); (case hr => first | (go_simp; done) | (go_simp; rfl)); (case hp => exact (Reps.one (show Kd.M (Kd.int .i64) _ _ _ 0 [.int .i64 0] from rfl) (Reps.none _ _))); intro v714 w4 ho5 hb hg_ hnew_; clear hg_ hnew_; (first | rw [← Ny713.out] at ho5 | (simp only [Int.reduceToNat] at ho5; rw [← Ny713.out] at ho5)); have n0_ := am_ (Kd.R_lower ho5 (below_size (b1_ HB.out GE712.out))); have n1_ := am_ (blk_below (rb_ BK712.out) hb); have n2_ := am_ (below_step (b1_ HB.out GE712.out) hb); clear BK712; clear HB; have HO715 := n0_; have BK712 := n1_; have HB := n2_; clear n0_ n1_ n2_; clear hb ho5) | ((with_reducible refine gate_dst (N := 12) rfl ?_); refine Kd.R_lit Kd.string _ 9 ?hg (N := 12) ?hd (xs := ([(⟨#[]⟩ : ByteArray)] : List ByteArray)) (inner := [.string (⟨#[]⟩ : ByteArray)]) (ok := fun _ => True) (okp := fun _ => True) ?hr ?hp (fun _ hk => hk) trivial (Below.refl _ _) (Nat.le_refl _) (by simp) ?_; (case hd => rfl); (case hg => rfl); (case hr => first | (go_simp; done) | (go_simp; rfl)); (case hp => exact (Reps.one (show Kd.M Kd.string _ _ _ (⟨#[]⟩ : ByteArray) [.string (⟨#[]⟩ : ByteArray)] from rfl) (Reps.none _ _))); intro v717 w6 ho7 hb hg_ hnew_; clear hg_ hnew_; (first | rw [← Ny716.out] at ho7 | (simp only [Int.reduceToNat] at ho7; rw [← Ny716.out] at ho7)); have n0_ := am_ (Kd.R_below (rr_ HO715.out) hb); have n1_ := am_ (Kd.R_lower ho7 (below_size (b1_ HB.out GE712.out))); have n2_ := am_ (blk_below (rb_ BK712.out) hb); have n3_ := am_ (below_step (b1_ HB.out GE712.out) hb); clear HO715; clear BK712; clear HB; have HO715 := n0_; have HO718 := n1_; have BK712 := n2_; have HB := n3_; clear n0_ n1_ n2_ n3_; clear hb ho7))
 go_loopg [6, 7, 8] k (fun kq v6 v7 v8 w' => ∃ (x6_1 : List Int) (x7_1 : List ByteArray) (x8_1 : Int), v8 = .int .i64 x8_1 ∧ Aside0 (spec_l7First.l0 kq l1 x6_1 x7_1 x8_1 l0_0 l0_1 = some (r1, r2)) ∧ Aside0 (kq ≤ k) ∧ Aside0 (Kd.R (Kd.int .i64) 3 w' w.heap.size (fun _ => True) v6 x6_1) ∧ Aside0 (Kd.R Kd.string 9 w' w.heap.size (fun _ => True) v7 x7_1) ∧ Aside0 (w'.heap[gb712]? = some (.cells #[(.slice A0_0 l0_0.length c0_0), (.slice A0_1 l0_1.length c0_1)] 27 (0, 0))) ∧ Aside0 (Below w.heap.size w w'))
 case atStart => exact ⟨(y713), (y716), (0), (by first | rfl | (simp; done) | (simp [*]; done)), H', ⟨Nat.le_refl _⟩, ⟨by refine rr_ ?_; exact HO715.out⟩, ⟨by refine rr_ ?_; exact HO718.out⟩, ⟨by refine rb_ ?_; exact BK712.out⟩, ⟨by exact zp37_0_ HB.out GE712.out⟩⟩
 case round =>
  clear H'
  try clear c1
  try clear p2
  obtain ⟨x6_1, x7_1, x8_1, rfl, HA, HK1, HO_6, HO_7, BK712, HB⟩ := hrel
  cases gk with
  | zero => exact absurd HA.out (by simp [spec_l7First.l0])
  | succ k1 =>
   have H := HA.out
   clear HA
   simp only [spec_l7First.l0] at H
   by_cases c8 : x8_1 < (x6_1.length : Int)
   ·rw [if_pos c8] at H
    have c8b0 : decide (x8_1 < (x6_1.length : Int)) = true := decide_eq_true c8
    clear c8
    by_cases c9 : 0 ≤ x8_1
    ·rw [if_pos c9] at H
     have c9b0 : decide (0 ≤ x8_1) = true := decide_eq_true c9
     clear c9
     by_cases c10 : 0 ≤ (rd x6_1 x8_1)
     ·rw [if_pos c10] at H
      have c10b0 : decide (0 ≤ (rd x6_1 x8_1)) = true := decide_eq_true c10
      clear c10
      by_cases c11 : (rd x6_1 x8_1) < (l1.length : Int)
      ·rw [if_pos c11] at H
       have c11b0 : decide ((rd x6_1 x8_1) < (l1.length : Int)) = true := decide_eq_true c11
       clear c11
       obtain ⟨bq12, hbq12⟩ : ∃ b_ : Bool, b_ = (rdOf false l1 (rd x6_1 x8_1)) := ⟨_, rfl⟩
       replace H : (if bq12 = true then (if x8_1 < (x7_1.length : Int) then (some (rdOf ByteArray.empty x7_1 x8_1, true)) else (none)) else (spec_l7First.l1 k1 l1 x6_1 x7_1 x8_1 0 l0_0 l0_1)) = some (r1, r2) := by rw [← hbq12] at H; exact H
       have Nbq12 := am_ hbq12
       clear hbq12
       by_cases c13 : bq12 = true
       ·subst c13
        have H1 : (if x8_1 < (x7_1.length : Int) then (some (rdOf ByteArray.empty x7_1 x8_1, true)) else (none)) = some (r1, r2) := by rw [if_pos rfl] at H; exact H
        clear H
        have H := H1
        clear H1
        by_cases c14 : x8_1 < (x7_1.length : Int)
        ·rw [if_pos c14] at H
         have c14b0 : decide (x8_1 < (x7_1.length : Int)) = true := decide_eq_true c14
         clear c14
         simp only [Option.some.injEq, Prod.mk.injEq] at H
         obtain ⟨rfl, rfl⟩ := H
         obtain ⟨Ao15, co15, eo15⟩ := Kd.R_slice HO_6.out
         subst eo15
         have p719 : 0 ≤ (x8_1 : Int) := of_decide_eq_true ah_
         have q719 : x8_1 < (x6_1.length : Int) := of_decide_eq_true ah_
         obtain ⟨ad719, e719, hx719_0⟩ := Kd.at_int (Kd.R_reads' HO_6.out).2.2 x8_1 p719 q719
         cases e719
         replace p719 := eq_true p719
         replace q719 := eq_true q719
         have p720 : 0 ≤ ((rd x6_1 x8_1) : Int) := of_decide_eq_true ah_
         have q720 : (rd x6_1 x8_1) < (l1.length : Int) := of_decide_eq_true ah_
         obtain ⟨ad720, e720, hx720_0⟩ := Kd.at_bool HR1.out (rd x6_1 x8_1) p720 q720
         (try rw [← Nbq12.out] at hx720_0)
         cases e720
         replace hx720_0 := (HB.out.cell (World.block_lt_of_cell? w _ hx720_0)).trans hx720_0
         replace p720 := eq_true p720
         replace q720 := eq_true q720
         obtain ⟨Ao16, co16, eo16⟩ := Kd.R_slice HO_7.out
         subst eo16
         have p721 : 0 ≤ (x8_1 : Int) := of_decide_eq_true ah_
         have q721 : x8_1 < (x7_1.length : Int) := of_decide_eq_true ah_
         obtain ⟨ad721, e721, hx721_0⟩ := Kd.at_string (Kd.R_reads' HO_7.out).2.2 x8_1 p721 q721
         cases e721
         replace p721 := eq_true p721
         replace q721 := eq_true q721
         go_wp2
         go_ret2
         exact ⟨by first | rfl | (simp [errW_none, errW_some] <;> rfl) | (simp [*, errW_none, errW_some] <;> rfl), by exact zp37_0_ HB.out GE712.out⟩
        ·rw [if_neg c14] at H
         exact absurd H (by simp)
       ·replace c13 := Bool.eq_false_iff.mpr c13
        subst c13
        have H1 : (spec_l7First.l1 k1 l1 x6_1 x7_1 x8_1 0 l0_0 l0_1) = some (r1, r2) := by rw [if_neg (show ¬ (false = true) by decide)] at H; exact H
        clear H
        have H := H1
        clear H1
        have H' := am_ H
        clear H
        obtain ⟨Ao17, co17, eo17⟩ := Kd.R_slice HO_6.out
        subst eo17
        have p719 : 0 ≤ (x8_1 : Int) := of_decide_eq_true ah_
        have q719 : x8_1 < (x6_1.length : Int) := of_decide_eq_true ah_
        obtain ⟨ad719, e719, hx719_0⟩ := Kd.at_int (Kd.R_reads' HO_6.out).2.2 x8_1 p719 q719
        cases e719
        replace p719 := eq_true p719
        replace q719 := eq_true q719
        have p720 : 0 ≤ ((rd x6_1 x8_1) : Int) := of_decide_eq_true ah_
        have q720 : (rd x6_1 x8_1) < (l1.length : Int) := of_decide_eq_true ah_
        obtain ⟨ad720, e720, hx720_0⟩ := Kd.at_bool HR1.out (rd x6_1 x8_1) p720 q720
        (try rw [← Nbq12.out] at hx720_0)
        cases e720
        replace hx720_0 := (HB.out.cell (World.block_lt_of_cell? w _ hx720_0)).trans hx720_0
        replace p720 := eq_true p720
        replace q720 := eq_true q720
        go_wp2
        go_loopg [6, 7, 9] k1 (fun kq v6 v7 v9 w' => ∃ (x6_2 : List Int) (x7_2 : List ByteArray) (x9_2 : Int), v9 = .int .i64 x9_2 ∧ Aside0 (spec_l7First.l1 kq l1 x6_2 x7_2 x8_1 x9_2 l0_0 l0_1 = some (r1, r2)) ∧ Aside0 (kq ≤ k1) ∧ Aside0 (Kd.R (Kd.int .i64) 3 w' w.heap.size (fun _ => True) v6 x6_2) ∧ Aside0 (Kd.R Kd.string 9 w' w.heap.size (fun _ => True) v7 x7_2) ∧ Aside0 (w'.heap[gb712]? = some (.cells #[(.slice A0_0 l0_0.length c0_0), (.slice A0_1 l0_1.length c0_1)] 27 (0, 0))) ∧ Aside0 (Below w.heap.size w w'))
        case atStart => exact ⟨(x6_1), (x7_1), (0), (by first | rfl | (simp; done) | (simp [*]; done)), H', ⟨Nat.le_refl _⟩, ⟨by refine rr_ ?_; exact HO_6.out⟩, ⟨by refine rr_ ?_; exact HO_7.out⟩, ⟨by refine rb_ ?_; exact BK712.out⟩, ⟨by exact zp37_0_ HB.out GE712.out⟩⟩
        case round =>
         clear H'
         try clear c1
         try clear q1
         try clear p2
         try clear p7
         try clear q7
         try clear hx7
         try clear c8
         try clear c8b0
         try clear c9
         try clear c9b0
         try clear c10
         try clear c10b0
         try clear c11
         try clear c11b0
         try clear q12
         try clear c13
         try clear c14
         try clear c14b0
         try clear hx719_0
         try clear hx720_0
         try clear hx721_0
         try clear p2
         try clear p719
         try clear p720
         try clear p721
         try clear q719
         try clear q720
         try clear q721
         obtain ⟨x6_2, x7_2, x9_2, rfl, HA, HK2, HO_6, HO_7, BK712, HB⟩ := hrel
         cases gk with
         | zero => exact absurd HA.out (by simp [spec_l7First.l1])
         | succ k2 =>
          have H := HA.out
          clear HA
          simp only [spec_l7First.l1] at H
          by_cases c18 : x9_2 < 3
          ·rw [if_pos c18] at H
           have c18b0 : decide (x9_2 < 3) = true := decide_eq_true c18
           clear c18
           by_cases c19 : 0 ≤ x8_1
           ·rw [if_pos c19] at H
            have c19b0 : decide (0 ≤ x8_1) = true := decide_eq_true c19
            clear c19
            by_cases c20 : x8_1 < (x6_2.length : Int)
            ·rw [if_pos c20] at H
             have c20b0 : decide (x8_1 < (x6_2.length : Int)) = true := decide_eq_true c20
             clear c20
             by_cases c21 : 0 ≤ (rd x6_2 x8_1)
             ·rw [if_pos c21] at H
              have c21b0 : decide (0 ≤ (rd x6_2 x8_1)) = true := decide_eq_true c21
              clear c21
              by_cases c22 : (rd x6_2 x8_1) < (l0_1.length : Int)
              ·rw [if_pos c22] at H
               have c22b0 : decide ((rd x6_2 x8_1) < (l0_1.length : Int)) = true := decide_eq_true c22
               clear c22
               by_cases c23 : 0 ≤ x9_2
               ·rw [if_pos c23] at H
                have c23b0 : decide (0 ≤ x9_2) = true := decide_eq_true c23
                clear c23
                by_cases c24 : x9_2 < ((rd_L1 l0_1 (rd x6_2 x8_1)).length : Int)
                ·rw [if_pos c24] at H
                 have c24b0 : decide (x9_2 < ((rd_L1 l0_1 (rd x6_2 x8_1)).length : Int)) = true := decide_eq_true c24
                 clear c24
                 replace H := Option.bind_eq_some_iff.mp H
                 obtain ⟨t725, A250, H⟩ := H
                 have A25 := am_ A250
                 clear A250
                 by_cases c26 : t725 < 0
                 ·rw [if_pos c26] at H
                  have c26b0 : decide (t725 < 0) = true := decide_eq_true c26
                  clear c26
                  by_cases c27 : x6_2.length < 17592186044416
                  ·rw [if_pos c27] at H
                   have LMc27 := am_ c27
                   clear c27
                   obtain ⟨y726, hy726⟩ : ∃ y_ : List Int, y_ = (x6_2 ++ [rd (rd_L1 l0_1 (rd x6_2 x8_1)) x9_2]) := ⟨_, rfl⟩
                   replace H : (if x8_1 < (x7_2.length : Int) then (if x9_2 ≤ (wrap64 (x9_2 + 1)) then (if (wrap64 (x9_2 + 1)) ≤ 3 then (if (rdOf ByteArray.empty x7_2 x8_1).size + ((⟨#[97, 98, 99]⟩ : ByteArray).extract (x9_2 : Int).toNat ((wrap64 (x9_2 + 1)) : Int).toNat).size ≤ 9223372036854775807 then (if x7_2.length < 8796093022208 then (spec_l7First.l1 k2 l1 y726 (x7_2 ++ [(rdOf ByteArray.empty x7_2 x8_1) ++ ((⟨#[97, 98, 99]⟩ : ByteArray).extract (x9_2 : Int).toNat ((wrap64 (x9_2 + 1)) : Int).toNat)]) x8_1 (wrap64 (x9_2 + 1)) l0_0 l0_1) else (none)) else (none)) else (none)) else (none)) else (none)) = some (r1, r2) := by first | (rw [hy726]; with_reducible exact H) | (have H2_ := (Option.bind_some _ _).symm.trans H; rw [hy726]; with_reducible exact H2_) | (have H2_ := (Option.bind_some _ _).symm.trans H; with_reducible exact H2_) | with_reducible exact H | (rw [hy726]; exact H) | exact H
                   have Ny726 := am_ hy726
                   clear hy726
                   by_cases c28 : x8_1 < (x7_2.length : Int)
                   ·rw [if_pos c28] at H
                    have c28b0 : decide (x8_1 < (x7_2.length : Int)) = true := decide_eq_true c28
                    clear c28
                    have c29b0 := eq_true (of_decide_eq_true ah_ : 0 ≤ x9_2)
                    by_cases c30 : x9_2 ≤ (wrap64 (x9_2 + 1))
                    ·rw [if_pos c30] at H
                     have c30b0 := eq_true c30
                     have c30b1 : decide (x9_2 ≤ (wrap64 (x9_2 + 1))) = true := decide_eq_true c30
                     by_cases c31 : (wrap64 (x9_2 + 1)) ≤ 3
                     ·rw [if_pos c31] at H
                      have c31b0 := eq_true c31
                      have c31b1 : decide ((wrap64 (x9_2 + 1)) ≤ 3) = true := decide_eq_true c31
                      by_cases c32 : (rdOf ByteArray.empty x7_2 x8_1).size + ((⟨#[97, 98, 99]⟩ : ByteArray).extract (x9_2 : Int).toNat ((wrap64 (x9_2 + 1)) : Int).toNat).size ≤ 9223372036854775807
                      ·rw [if_pos c32] at H
                       have c32b0 := eq_true c32
                       have c32b1 : decide ((rdOf ByteArray.empty x7_2 x8_1).size + ((⟨#[97, 98, 99]⟩ : ByteArray).extract (x9_2 : Int).toNat ((wrap64 (x9_2 + 1)) : Int).toNat).size ≤ 9223372036854775807) = true := decide_eq_true c32
                       try have c32b2 : (9223372036854775807 < (rdOf ByteArray.empty x7_2 x8_1).size + ((⟨#[97, 98, 99]⟩ : ByteArray).extract (x9_2 : Int).toNat ((wrap64 (x9_2 + 1)) : Int).toNat).size) = False := eq_false (Nat.not_lt.2 c32)
                       try have c32b3 : (9223372036854775807 < (rdOf ByteArray.empty x7_2 x8_1).size + (((wrap64 (x9_2 + 1)) : Int).toNat - (x9_2 : Int).toNat)) = False := eq_false (by have h_ := c32; rw [ByteArray.size_extract, show (⟨#[97, 98, 99]⟩ : ByteArray).size = 3 from rfl] at h_; omega)
                       try have c32b5 : (9223372036854775807 < (rdOf ByteArray.empty x7_2 x8_1).size + ((⟨#[97, 98, 99]⟩ : ByteArray).extract (x9_2 : Int).toNat ((wrap64 (x9_2 + 1)) : Int).toNat).size) = False := eq_false (by have h_ := c32; simp only [ByteArray.size_append, ByteArray.size_extract, show (⟨#[97, 98, 99]⟩ : ByteArray).size = 3 from rfl] at h_; first | omega | (simp only [decide_eq_true_eq] at *; omega))
                       by_cases c33 : x7_2.length < 8796093022208
                       ·rw [if_pos c33] at H
                        have LMc33 := am_ c33
                        clear c33
                        obtain ⟨y730, hy730⟩ : ∃ y_ : List ByteArray, y_ = (x7_2 ++ [(rdOf ByteArray.empty x7_2 x8_1) ++ ((⟨#[97, 98, 99]⟩ : ByteArray).extract (x9_2 : Int).toNat ((wrap64 (x9_2 + 1)) : Int).toNat)]) := ⟨_, rfl⟩
                        replace H : (spec_l7First.l1 k2 l1 y726 y730 x8_1 (wrap64 (x9_2 + 1)) l0_0 l0_1) = some (r1, r2) := by first | (rw [hy730]; with_reducible exact H) | (have H2_ := (Option.bind_some _ _).symm.trans H; rw [hy730]; with_reducible exact H2_) | (have H2_ := (Option.bind_some _ _).symm.trans H; with_reducible exact H2_) | with_reducible exact H | (rw [hy730]; exact H) | exact H
                        have Ny730 := am_ hy730
                        clear hy730
                        have H' := am_ H
                        clear H
                        try go_wp2
                        replace HO_6 := am_ (Kd.R_drew HO_6.out)
                        replace HO_7 := am_ (Kd.R_drew HO_7.out)
                        replace BK712 := am_ (blk_drew BK712.out)
                        replace HB := am_ (below_drew1 HB.out)
                        obtain ⟨Ao35, co35, eo35⟩ := Kd.R_slice HO_6.out
                        (first | subst eo35 | (injection eo35 with f1_ f2_ f3_; have f4_ := f1_.symm; have f5_ := f3_.symm; clear f1_ f2_ f3_; subst f4_; subst f5_))
                        have p722 : 0 ≤ (x8_1 : Int) := of_decide_eq_true ah_
                        have q722 : x8_1 < (x6_2.length : Int) := of_decide_eq_true ah_
                        obtain ⟨ad722, e722, hx722_0⟩ := Kd.at_int (Kd.R_reads' HO_6.out).2.2 x8_1 p722 q722
                        cases e722
                        replace p722 := eq_true p722
                        replace q722 := eq_true q722
                        have p723 : 0 ≤ ((rd x6_2 x8_1) : Int) := of_decide_eq_true ah_
                        have q723 : (rd x6_2 x8_1) < (l0_1.length : Int) := of_decide_eq_true ah_
                        obtain ⟨ad723, A723_0, c723_0, e723, hx723_0, hl723_0, hi723_0⟩ := at_L1 HR0_1.out (rd x6_2 x8_1) p723 q723
                        have hw723_0 := hx723_0
                        cases e723
                        replace hx723_0 := (HB.out.cell (World.block_lt_of_cell? w _ hx723_0)).trans hx723_0
                        have HR723_0 := am_ hi723_0
                        have HC723_0 := am_ hl723_0
                        clear hi723_0 hl723_0
                        replace p723 := eq_true p723
                        replace q723 := eq_true q723
                        have p724 : 0 ≤ (x9_2 : Int) := of_decide_eq_true ah_
                        have q724 : x9_2 < ((rd_L1 l0_1 (rd x6_2 x8_1)).length : Int) := of_decide_eq_true ah_
                        obtain ⟨ad724, e724, hx724_0⟩ := Kd.at_int HR723_0.out x9_2 p724 q724
                        have hw724_0 := hx724_0
                        cases e724
                        replace hx724_0 := (HB.out.cell (World.block_lt_of_cell? w _ hx724_0)).trans hx724_0
                        replace p724 := eq_true p724
                        replace q724 := eq_true q724
                        refine start_ (n := 12) (S := fun w' => w'.cell? ⟨gb712, 0, none⟩ = some (.slice A0_0 l0_0.length c0_0) ∧ w'.cell? ⟨gb712, 1, none⟩ = some (.slice (some ad723) l0_1.length c0_1) ∧ w'.cell? (ad722.add (x8_1).toNat) = some (.int .i64 (rd x6_2 x8_1)) ∧ w'.cell? (ad723.add ((rd x6_2 x8_1)).toNat) = some (.slice (some ad724) (rd_L1 l0_1 (rd x6_2 x8_1)).length c723_0) ∧ w'.cell? (ad724.add (x9_2).toNat) = some (.int .i64 (rd (rd_L1 l0_1 (rd x6_2 x8_1)) x9_2))) (ds := []) (bl 12 0) (by kernel_rfl) rfl rfl ⟨(blk_cell BK712.out 0).trans rfl, (blk_cell BK712.out 1).trans rfl, hx722_0, ((HB.out.cell (World.block_lt_of_cell? w _ hw723_0)).trans hw723_0), ((HB.out.cell (World.block_lt_of_cell? w _ hw724_0)).trans hw724_0)⟩ (fun hHeld => ?_); refine with_tabW spec_l7First.tab11 spec_l7First.bits11 (fun HT_ HW_ => ?_)
                        generalize wr.drew = w34 at HO_6 HO_7 BK712 HB HR723_0 hx722_0 hx723_0 hx724_0 hHeld ⊢
                        refine pu_ 0 34 (bl 12 1) HT_ ?_
                        refine pu_ 2 36 (bl 12 5) HT_ ?_
                        refine pu_ 3 37 (bl 12 13) HT_ ?_
                        refine pu_ 4 38 (bl 12 29) HT_ ?_
                        refine pu_ 8 42 (bl 12 285) HT_ ?_
                        refine tk_ 1 35 (bl 12 287) HT_ HW_ hHeld ?_
                        refine tk_ 5 39 (bl 12 319) HT_ HW_ hHeld ?_
                        refine pu_ 6 40 (bl 12 383) HT_ ?_
                        refine tk_ 7 41 (bl 12 511) HT_ HW_ hHeld ?_
                        refine pu_ 9 43 (bl 12 1023) HT_ ?_
                        refine tk_ 10 44 (bl 12 2047) HT_ HW_ hHeld ?_
                        refine pu_ 11 10 (bl 12 4095) HT_ ?_
                        refine done_ (done_of HT_.out (by kernel_rfl)) ?_
                        try go_wp2_with (first | ((with_reducible refine gate_callee (f := 63) rfl ?_); refine gL_ (some 47) Try.func63 #[.slice (some ad722) x6_2.length co35, .int .i64 (rd (rd_L1 l0_1 (rd x6_2 x8_1)) x9_2)] ?_; (with_reducible refine (spec_l5Find.calls k2 _ _ x6_2 (rd (rd_L1 l0_1 (rd x6_2 x8_1)) x9_2) t725 _ ?side1 ?side2 A25.out).mono ?_); (case side1 => exact rc_ ((Kd.R_reads' HO_6.out).2.2)); (case side2 => exact (Kd.R_reads' HO_6.out).2.1); rintro e w' ⟨rfl, ⟨nd, rfl⟩⟩; refine ⟨_, rfl, ?_⟩) | ((with_reducible refine gate_builtin (b := .append) (xs := #[.tmp 49, .tmp 51]) rfl ?_); at_builtin; refine Kd.R_append (Kd.int .i64) (w0 := w) w.heap.size rfl (.tmp 49) (.tmp 51) 67 3 (.int .i64 0) 8 rfl Try.underlying67 info3 rfl (by decide) (by omega) (.slice (some ad722) x6_2.length co35) x6_2 (rd (rd_L1 l0_1 (rd x6_2 x8_1)) x9_2) [.int .i64 (rd (rd_L1 l0_1 (rd x6_2 x8_1)) x9_2)] (fun _ => True) (fun _ => False) rfl rfl ?aP (fun _ hk => hk.elim) ?aF ?aO ?aB ?aS ?aL ?_; (case aP => exact rfl); (case aB => exact (b1_ HB.out GE712.out)); (case aF => exact (fun _ _ => trivial)); (case aO => exact (rr_ HO_6.out)); (case aS => exact (below_size (b1_ HB.out GE712.out))); (case aL => have := LMc27.out; omega); intro v727 w36 ho hb hg hat; rw [← Ny726.out] at ho; have n0_ := am_ (Kd.R_over' (rr_ HO_7.out) (Kd.R_typed (rr_ HO_6.out)) (by decide) hg); have n1_ := am_ (blk_grown (g := gb712) (o := .cells #[.slice A0_0 l0_0.length c0_0, .slice (some ad723) l0_1.length c0_1] 27 (0, 0)) (rb_ BK712.out) hg (Kd.R_ne HO_6.out BK712.out (by decide))); have n2_ := am_ (hb); have n3_ := am_ (ho); clear HO_7; clear BK712; clear HB; clear HO_6; have HO_7 := n0_; have BK712 := n1_; have HB := n2_; have HO728 := n3_; clear n0_ n1_ n2_ n3_; clear ho hb hg hat))
                        replace HO_7 := am_ (Kd.R_drew HO_7.out)
                        replace HO728 := am_ (Kd.R_drew HO728.out)
                        replace BK712 := am_ (blk_drew BK712.out)
                        replace HB := am_ (below_drew1 HB.out)
                        obtain ⟨Ao38, co38, eo38⟩ := Kd.R_slice HO_7.out
                        (first | subst eo38 | (injection eo38 with f1_ f2_ f3_; have f4_ := f1_.symm; have f5_ := f3_.symm; clear f1_ f2_ f3_; subst f4_; subst f5_))
                        have p729 : 0 ≤ (x8_1 : Int) := of_decide_eq_true ah_
                        have q729 : x8_1 < (x7_2.length : Int) := of_decide_eq_true ah_
                        obtain ⟨ad729, e729, hx729_0⟩ := Kd.at_string (Kd.R_reads' HO_7.out).2.2 x8_1 p729 q729
                        cases e729
                        replace p729 := eq_true p729
                        replace q729 := eq_true q729
                        refine start_ (n := 13) (S := fun w' => w'.cell? (ad729.add (x8_1).toNat) = some (.string (rdOf ByteArray.empty x7_2 x8_1))) (ds := [10, 11]) (bl 13 0) (by kernel_rfl) rfl rfl (hx729_0) (fun hHeld => ?_); refine with_tabW spec_l7First.tab14 spec_l7First.bits14 (fun HT_ HW_ => ?_)
                        generalize w36.drew = w37 at HO_7 HO728 BK712 HB hx729_0 hHeld ⊢
                        refine pu_ 0 53 (bl 13 1) HT_ ?_
                        refine pu_ 1 54 (bl 13 3) HT_ ?_
                        refine pu_ 2 55 (bl 13 7) HT_ ?_
                        refine pu_ 3 56 (bl 13 15) HT_ ?_
                        refine pu_ 5 58 (bl 13 47) HT_ ?_
                        refine pu_ 6 59 (bl 13 111) HT_ ?_
                        refine pu_ 7 60 (bl 13 239) HT_ ?_
                        refine pu_ 8 61 (bl 13 495) HT_ ?_
                        refine tk_ 4 57 (bl 13 511) HT_ HW_ hHeld ?_
                        refine pu_ 9 62 (bl 13 1023) HT_ ?_
                        refine last_ (i := 10) (N := some 63) (bl 13 2047) rfl rfl (one_of HT_.out (by kernel_rfl)) (by decide) (fun K hK => ?_)
                        refine value_ (w1 := ?_) (v := ?_) (by rfl) rfl ?_ ?_
                        rotate_left 2
                        ·go_simp
                         constructor
                         ·rfl
                         ·rfl
                        refine hK.out _ _ ?_
                        clear hK K
                        refine norm_ (a' := ?_) ?_ ?_
                        rotate_left
                        ·show Act.put _ (some 63) _ = _
                         simp only [pn_, sz_, ss_, i64_w, i32_w]
                         rfl
                        refine last_ (i := 11) (N := some 64) (bl 13 4095) rfl rfl (one_of HT_.out (by kernel_rfl)) (by decide) (fun K hK => ?_)
                        refine Kd.R_append_step Kd.string (w0 := w) w.heap.size (by rfl) (.tmp 53) (.tmp 63) 52 9 (.string ⟨#[]⟩) 16 rfl Try.underlying52 info9 rfl (by decide) (by omega) (.slice (some ad729) x7_2.length co38) x7_2 ((rdOf ByteArray.empty x7_2 x8_1) ++ ((⟨#[97, 98, 99]⟩ : ByteArray).extract (x9_2 : Int).toNat ((wrap64 (x9_2 + 1)) : Int).toNat)) [.string ((rdOf ByteArray.empty x7_2 x8_1) ++ ((⟨#[97, 98, 99]⟩ : ByteArray).extract (x9_2 : Int).toNat ((wrap64 (x9_2 + 1)) : Int).toNat))] (fun _ => True) (fun _ => False) rfl rfl ?aP (fun _ hk => hk.elim) ?aF ?aO ?aB ?aS ?aL ?_
                        (case aP => exact rfl)
                        (case aB => exact (b1_ HB.out GE712.out))
                        (case aF => exact (fun _ _ => trivial))
                        (case aO => exact (rr_ HO_7.out))
                        (case aS => exact (below_size (b1_ HB.out GE712.out)))
                        (case aL => have := LMc33.out; omega)
                        intro v731 w39 ho hb hg hat
                        rw [← Ny730.out] at ho
                        replace BK712 := am_ (blk_grown (g := gb712) (o := .cells #[.slice A0_0 l0_0.length c0_0, .slice (some ad723) l0_1.length c0_1] 27 (0, 0)) (rb_ BK712.out) hg (Kd.R_ne HO_7.out BK712.out (by decide)))
                        replace HO728 := am_ (Kd.R_over' (rr_ HO728.out) (Kd.R_typed (rr_ HO_7.out)) (by decide) hg)
                        replace HB := am_ (hb)
                        replace HO732 := am_ (ho)
                        clear HO_7 ho hb hg hat
                        refine hK.out _ _ ?_
                        clear hK K
                        refine norm_ (a' := ?_) ?_ ?_
                        rotate_left
                        ·show Act.put _ (some 64) _ = _
                         simp only [pn_, sz_, ss_, i64_w, i32_w]
                         rfl
                        refine pu_ 12 7 (bl 13 8191) HT_ ?_
                        refine done_ (done_of HT_.out (by kernel_rfl)) ?_
                        try go_wp2
                        go_roundg k2
                        case measure => have := HK1.out; have := HK2.out; omega
                        case rel => exact ⟨(y726), (y730), (wrap64 (x9_2 + 1)), (by first | rfl | (simp; done) | (simp [*]; done)), H', ⟨by have := HK1.out; have := HK2.out; omega⟩, ⟨by refine rr_ ?_; exact HO728.out⟩, ⟨by refine rr_ ?_; exact HO732.out⟩, ⟨by refine rb_ ?_; exact BK712.out⟩, ⟨by exact zp37_0_ HB.out GE712.out⟩⟩
                       ·rw [if_neg c33] at H
                        exact absurd H (by simp)
                      ·rw [if_neg c32] at H
                       exact absurd H (by simp)
                     ·rw [if_neg c31] at H
                      exact absurd H (by simp)
                    ·rw [if_neg c30] at H
                     exact absurd H (by simp)
                   ·rw [if_neg c28] at H
                    exact absurd H (by simp)
                  ·rw [if_neg c27] at H
                   exact absurd H (by simp)
                 ·rw [if_neg c26] at H
                  have c26b0 : decide (t725 < 0) = false := decide_eq_false c26
                  clear c26
                  have H' := am_ H
                  clear H
                  try go_wp2
                  replace HO_6 := am_ (Kd.R_drew HO_6.out)
                  replace HO_7 := am_ (Kd.R_drew HO_7.out)
                  replace BK712 := am_ (blk_drew BK712.out)
                  replace HB := am_ (below_drew1 HB.out)
                  obtain ⟨Ao41, co41, eo41⟩ := Kd.R_slice HO_6.out
                  (first | subst eo41 | (injection eo41 with f1_ f2_ f3_; have f4_ := f1_.symm; have f5_ := f3_.symm; clear f1_ f2_ f3_; subst f4_; subst f5_))
                  have p722 : 0 ≤ (x8_1 : Int) := of_decide_eq_true ah_
                  have q722 : x8_1 < (x6_2.length : Int) := of_decide_eq_true ah_
                  obtain ⟨ad722, e722, hx722_0⟩ := Kd.at_int (Kd.R_reads' HO_6.out).2.2 x8_1 p722 q722
                  cases e722
                  replace p722 := eq_true p722
                  replace q722 := eq_true q722
                  have p723 : 0 ≤ ((rd x6_2 x8_1) : Int) := of_decide_eq_true ah_
                  have q723 : (rd x6_2 x8_1) < (l0_1.length : Int) := of_decide_eq_true ah_
                  obtain ⟨ad723, A723_0, c723_0, e723, hx723_0, hl723_0, hi723_0⟩ := at_L1 HR0_1.out (rd x6_2 x8_1) p723 q723
                  have hw723_0 := hx723_0
                  cases e723
                  replace hx723_0 := (HB.out.cell (World.block_lt_of_cell? w _ hx723_0)).trans hx723_0
                  have HR723_0 := am_ hi723_0
                  have HC723_0 := am_ hl723_0
                  clear hi723_0 hl723_0
                  replace p723 := eq_true p723
                  replace q723 := eq_true q723
                  have p724 : 0 ≤ (x9_2 : Int) := of_decide_eq_true ah_
                  have q724 : x9_2 < ((rd_L1 l0_1 (rd x6_2 x8_1)).length : Int) := of_decide_eq_true ah_
                  obtain ⟨ad724, e724, hx724_0⟩ := Kd.at_int HR723_0.out x9_2 p724 q724
                  have hw724_0 := hx724_0
                  cases e724
                  replace hx724_0 := (HB.out.cell (World.block_lt_of_cell? w _ hx724_0)).trans hx724_0
                  replace p724 := eq_true p724
                  replace q724 := eq_true q724
                  refine start_ (n := 12) (S := fun w' => w'.cell? ⟨gb712, 0, none⟩ = some (.slice A0_0 l0_0.length c0_0) ∧ w'.cell? ⟨gb712, 1, none⟩ = some (.slice (some ad723) l0_1.length c0_1) ∧ w'.cell? (ad722.add (x8_1).toNat) = some (.int .i64 (rd x6_2 x8_1)) ∧ w'.cell? (ad723.add ((rd x6_2 x8_1)).toNat) = some (.slice (some ad724) (rd_L1 l0_1 (rd x6_2 x8_1)).length c723_0) ∧ w'.cell? (ad724.add (x9_2).toNat) = some (.int .i64 (rd (rd_L1 l0_1 (rd x6_2 x8_1)) x9_2))) (ds := []) (bl 12 0) (by kernel_rfl) rfl rfl ⟨(blk_cell BK712.out 0).trans rfl, (blk_cell BK712.out 1).trans rfl, hx722_0, ((HB.out.cell (World.block_lt_of_cell? w _ hw723_0)).trans hw723_0), ((HB.out.cell (World.block_lt_of_cell? w _ hw724_0)).trans hw724_0)⟩ (fun hHeld => ?_); refine with_tabW spec_l7First.tab11 spec_l7First.bits11 (fun HT_ HW_ => ?_)
                  generalize wr.drew = w40 at HO_6 HO_7 BK712 HB HR723_0 hx722_0 hx723_0 hx724_0 hHeld ⊢
                  refine pu_ 0 34 (bl 12 1) HT_ ?_
                  refine pu_ 2 36 (bl 12 5) HT_ ?_
                  refine pu_ 3 37 (bl 12 13) HT_ ?_
                  refine pu_ 4 38 (bl 12 29) HT_ ?_
                  refine pu_ 8 42 (bl 12 285) HT_ ?_
                  refine tk_ 1 35 (bl 12 287) HT_ HW_ hHeld ?_
                  refine tk_ 5 39 (bl 12 319) HT_ HW_ hHeld ?_
                  refine pu_ 6 40 (bl 12 383) HT_ ?_
                  refine tk_ 7 41 (bl 12 511) HT_ HW_ hHeld ?_
                  refine pu_ 9 43 (bl 12 1023) HT_ ?_
                  refine tk_ 10 44 (bl 12 2047) HT_ HW_ hHeld ?_
                  refine pu_ 11 10 (bl 12 4095) HT_ ?_
                  refine done_ (done_of HT_.out (by kernel_rfl)) ?_
                  try go_wp2_with (first | ((with_reducible refine gate_callee (f := 63) rfl ?_); refine gL_ (some 47) Try.func63 #[.slice (some ad722) x6_2.length co41, .int .i64 (rd (rd_L1 l0_1 (rd x6_2 x8_1)) x9_2)] ?_; (with_reducible refine (spec_l5Find.calls k2 _ _ x6_2 (rd (rd_L1 l0_1 (rd x6_2 x8_1)) x9_2) t725 _ ?side1 ?side2 A25.out).mono ?_); (case side1 => exact rc_ ((Kd.R_reads' HO_6.out).2.2)); (case side2 => exact (Kd.R_reads' HO_6.out).2.1); rintro e w' ⟨rfl, ⟨nd, rfl⟩⟩; refine ⟨_, rfl, ?_⟩))
                  go_roundg k2
                  case measure => have := HK1.out; have := HK2.out; omega
                  case rel => exact ⟨(x6_2), (x7_2), (wrap64 (x9_2 + 1)), (by first | rfl | (simp; done) | (simp [*]; done)), H', ⟨by have := HK1.out; have := HK2.out; omega⟩, ⟨by refine rr_ ?_; exact HO_6.out⟩, ⟨by refine rr_ ?_; exact HO_7.out⟩, ⟨by refine rb_ ?_; exact BK712.out⟩, ⟨by exact zp37_0_ HB.out GE712.out⟩⟩
                ·rw [if_neg c24] at H
                 exact absurd H (by simp)
               ·rw [if_neg c23] at H
                exact absurd H (by simp)
              ·rw [if_neg c22] at H
               exact absurd H (by simp)
             ·rw [if_neg c21] at H
              exact absurd H (by simp)
            ·rw [if_neg c20] at H
             exact absurd H (by simp)
           ·rw [if_neg c19] at H
            exact absurd H (by simp)
          ·rw [if_neg c18] at H
           have c18b0 : decide (x9_2 < 3) = false := decide_eq_false c18
           clear c18
           have H' := am_ H
           clear H
           go_wp2
           go_roundg k2
           case measure => have := HK1.out; have := HK2.out; omega
           case rel => exact ⟨(x6_2), (x7_2), (wrap64 (x8_1 + 1)), (by first | rfl | (simp; done) | (simp [*]; done)), H', ⟨by have := HK1.out; have := HK2.out; omega⟩, ⟨by refine rr_ ?_; exact HO_6.out⟩, ⟨by refine rr_ ?_; exact HO_7.out⟩, ⟨by refine rb_ ?_; exact BK712.out⟩, ⟨by exact zp37_0_ HB.out GE712.out⟩⟩
      ·rw [if_neg c11] at H
       exact absurd H (by simp)
     ·rw [if_neg c10] at H
      exact absurd H (by simp)
    ·rw [if_neg c9] at H
     exact absurd H (by simp)
   ·rw [if_neg c8] at H
    have c8b0 : decide (x8_1 < (x6_1.length : Int)) = false := decide_eq_false c8
    clear c8
    simp only [Option.some.injEq, Prod.mk.injEq] at H
    obtain ⟨rfl, rfl⟩ := H
    obtain ⟨Ao42, co42, eo42⟩ := Kd.R_slice HO_6.out
    subst eo42
    go_wp2
    go_ret2
    exact ⟨by first | rfl | (simp [errW_none, errW_some] <;> rfl) | (simp [*, errW_none, errW_some] <;> rfl), by exact zp37_0_ HB.out GE712.out⟩
end Go.Proofs.Ytogamkblkoobkaa.P
end
section
namespace Go.Proofs.Ytogamkblkoobkaa.P
open Go.RowKit Go.Proofs.YtogamkblkoobkaaW.PrintWords Go.Proofs.YtogamkblkoobkaaW.PrintLast Go.Proofs.YtogamkblkoobkaaW.PrintMore
attribute [local go_sem] max2_int min2_int max_two min_two max_three min_three max_four min_four
set_option linter.unusedVariables false
set_option linter.unusedSimpArgs false
def spec_ShortestWord.f (k : Nat) (l0_0 : List Bool) (l0_1 : List (List Int)) : Option (ByteArray × Bool) := (spec_IsValidDfa.f k l0_0 l0_1).bind fun t1147 => (if t1147 = true then ((spec_l7First.f k l0_0 l0_1 l0_0).bind fun bt1148 => (some (bt1148.1, bt1148.2))) else (some ((⟨#[]⟩ : ByteArray), false)))
theorem spec_ShortestWord.mono : ∀ a0 a1 k, LeO (spec_ShortestWord.f k a0 a1) (spec_ShortestWord.f (k + 1) a0 a1) := by
  intro a0 a1 k
  unfold spec_ShortestWord.f
  repeat' first
      | (with_reducible exact spec_IsValidDfa.mono _ _ _)
      | (with_reducible exact spec_l7First.mono _ _ _ _)
      | (with_reducible exact LeO.refl _)
      | (with_reducible exact LeO.none _)
      | (with_reducible refine LeO.ite ?_ ?_)
      | (with_reducible refine LeO.bind ?_ (fun _ => ?_))
      | exact spec_IsValidDfa.mono _ _ _
      | exact spec_l7First.mono _ _ _ _
      | exact LeO.none _
      | refine LeO.ite ?_ ?_
      | refine LeO.bind ?_ (fun _ => ?_)
set_option maxHeartbeats 8000000 in
set_option maxRecDepth 100000 in
theorem spec_ShortestWord.calls (k : Nat) (A0_0 : Option Addr) (c0_0 : Nat) (l0_0 : List Bool) (A0_1 : Option Addr) (c0_1 : Nat) (l0_1 : List (List Int)) (r1 : ByteArray) (r2 : Bool) (w : World) (hr0_0 : Kd.C Kd.bool w A0_0 l0_0.length l0_0) (hc0_0 : l0_0.length ≤ c0_0) (hr0_1 : Kd.C (Kd.slice 3 (Kd.int .i64)) w A0_1 l0_1.length l0_1) (hc0_1 : l0_1.length ≤ c0_1) (h : spec_ShortestWord.f k l0_0 l0_1 = some (r1, r2)) :
    Calls Try.prog 48 #[.agg #[.slice A0_0 l0_0.length c0_0, .slice A0_1 l0_1.length c0_1]] w fun e w' => e = .returned (.tuple #[.string r1, .bool r2]) ∧ Below w.heap.size w w' := by
  have hu27 := Try.underlying27
  have HR0_0 := am_ hr0_0
  have HC0_0 := am_ hc0_0
  clear hr0_0 hc0_0
  have HR0_1 := am_ hr0_1
  have HC0_1 := am_ hc0_1
  clear hr0_1 hc0_1
  have HB := am_ (Below.refl w.heap.size w)
  have H : ((spec_IsValidDfa.f k l0_0 l0_1).bind fun t1147 => (if t1147 = true then ((spec_l7First.f k l0_0 l0_1 l0_0).bind fun bt1148 => (some (bt1148.1, bt1148.2))) else (some ((⟨#[]⟩ : ByteArray), false)))) = some (r1, r2) := h
  clear h
  replace H := Option.bind_eq_some_iff.mp H
  obtain ⟨t1147, A20, H⟩ := H
  have A2 := am_ A20
  clear A20
  by_cases c3 : t1147 = true
  · subst c3
    have H1 : ((spec_l7First.f k l0_0 l0_1 l0_0).bind fun bt1148 => (some (bt1148.1, bt1148.2))) = some (r1, r2) := by rw [if_pos rfl] at H; exact H
    clear H
    have H := H1
    clear H1
    replace H := Option.bind_eq_some_iff.mp H
    obtain ⟨⟨t1148, t1149⟩, A40, H⟩ := H
    replace H : (some (t1148, t1149)) = some (r1, r2) := H
    have A4 := am_ A40
    clear A40
    simp only [Option.some.injEq, Prod.mk.injEq] at H
    obtain ⟨rfl, rfl⟩ := H
    go_enter Try.func48, Try.ntmps48
    go_wp2_with (first | ((with_reducible refine gate_dst (N := 1) rfl ?_); refine box_event ?hg (N := 1) ?hd (cs := #[.slice A0_0 l0_0.length c0_0, .slice A0_1 l0_1.length c0_1]) (t := 27) ?hr ?_; (case hd => rfl); (case hg => rfl); (case hr => first | (go_simp; done) | (go_simp; rfl)); intro gb1146 hg w5 hbox hb; replace BK1146 := am_ (hbox); replace GW1146 := am_ ((by rw [hg]; exact (below_size (b0_ HB.out)) : w.heap.size ≤ gb1146)); replace GE1146 := am_ ((by rw [hg]; exact (below_size (b0_ HB.out)) : w.heap.size ≤ gb1146)); replace HB := am_ (below_step (b0_ HB.out) hb); clear hb hbox hg; have hcz6_0 : w5.cell? ⟨gb1146, 0, none⟩ = some (.slice A0_0 l0_0.length c0_0) := (blk_cell BK1146.out 0).trans rfl; have hcz6_1 : w5.cell? ⟨gb1146, 1, none⟩ = some (.slice A0_1 l0_1.length c0_1) := (blk_cell BK1146.out 1).trans rfl; have hfz6_0 := blk_frozen BK1146.out 0; have hfz6_1 := blk_frozen BK1146.out 1) | ((with_reducible refine gate_callee (f := 35) rfl ?_); refine gL_ (some 7) Try.func35 #[.agg #[.slice A0_0 l0_0.length c0_0, .slice A0_1 l0_1.length c0_1]] ?_; (with_reducible refine (spec_IsValidDfa.calls k _ _ l0_0 _ _ l0_1 true _ ?side1 ?side2 ?side3 ?side4 A2.out).mono ?_); (case side1 => exact rc_ (Kd.C_below HR0_0.out HB.out)); (case side2 => exact HC0_0.out); (case side3 => exact rc_ (Kd.C_below HR0_1.out HB.out)); (case side4 => exact HC0_1.out); rintro e w7 ⟨rfl, hb⟩; refine ⟨_, rfl, ?_⟩; have n0_ := am_ (blk_below (rb_ BK1146.out) hb); have n1_ := am_ (below_step (b1_ HB.out GE1146.out) hb); clear BK1146; clear HB; have BK1146 := n0_; have HB := n1_; clear n0_ n1_; (try clear hb); (try clear hb2); (try clear hk); (try clear hi); have hcz8_0 : w7.cell? ⟨gb1146, 0, none⟩ = some (.slice A0_0 l0_0.length c0_0) := (blk_cell BK1146.out 0).trans rfl; have hcz8_1 : w7.cell? ⟨gb1146, 1, none⟩ = some (.slice A0_1 l0_1.length c0_1) := (blk_cell BK1146.out 1).trans rfl; have hfz8_0 := blk_frozen BK1146.out 0; have hfz8_1 := blk_frozen BK1146.out 1) | ((with_reducible refine gate_callee (f := 92) rfl ?_); refine gL_ (some 13) Try.func92 #[.agg #[.slice A0_0 l0_0.length c0_0, .slice A0_1 l0_1.length c0_1], .slice A0_0 l0_0.length c0_0] ?_; (with_reducible refine (spec_l7First.calls k _ _ l0_0 _ _ l0_1 _ _ l0_0 t1148 t1149 _ ?side1 ?side2 ?side3 ?side4 ?side5 ?side6 A4.out).mono ?_); (case side1 => exact rc_ (Kd.C_below HR0_0.out HB.out)); (case side2 => exact HC0_0.out); (case side3 => exact rc_ (Kd.C_below HR0_1.out HB.out)); (case side4 => exact HC0_1.out); (case side5 => exact rc_ (Kd.C_below HR0_0.out HB.out)); (case side6 => exact HC0_0.out); rintro e w9 ⟨rfl, hb⟩; refine ⟨_, rfl, ?_⟩; have n0_ := am_ (blk_below (rb_ BK1146.out) hb); have n1_ := am_ (below_step (b1_ HB.out GE1146.out) hb); clear BK1146; clear HB; have BK1146 := n0_; have HB := n1_; clear n0_ n1_; (try clear hb); (try clear hb2); (try clear hk); (try clear hi)))
    go_ret2
    exact ⟨by first | rfl | (simp [errW_none, errW_some] <;> rfl) | (simp [*, errW_none, errW_some] <;> rfl), by repeat (first | (with_reducible first | exact HB.out | apply below_alloc | apply pw_below_drewN | apply below_drew1 | refine below_set ?_ GE1146.out) | exact HB.out)⟩
  · replace c3 := Bool.eq_false_iff.mpr c3
    subst c3
    have H1 : (some ((⟨#[]⟩ : ByteArray), false)) = some (r1, r2) := by rw [if_neg (show ¬ (false = true) by decide)] at H; exact H
    clear H
    have H := H1
    clear H1
    simp only [Option.some.injEq, Prod.mk.injEq] at H
    obtain ⟨rfl, rfl⟩ := H
    go_enter Try.func48, Try.ntmps48
    go_wp2_with (first | ((with_reducible refine gate_dst (N := 1) rfl ?_); refine box_event ?hg (N := 1) ?hd (cs := #[.slice A0_0 l0_0.length c0_0, .slice A0_1 l0_1.length c0_1]) (t := 27) ?hr ?_; (case hd => rfl); (case hg => rfl); (case hr => first | (go_simp; done) | (go_simp; rfl)); intro gb1146 hg w10 hbox hb; replace BK1146 := am_ (hbox); replace GW1146 := am_ ((by rw [hg]; exact (below_size (b0_ HB.out)) : w.heap.size ≤ gb1146)); replace GE1146 := am_ ((by rw [hg]; exact (below_size (b0_ HB.out)) : w.heap.size ≤ gb1146)); replace HB := am_ (below_step (b0_ HB.out) hb); clear hb hbox hg; have hcz11_0 : w10.cell? ⟨gb1146, 0, none⟩ = some (.slice A0_0 l0_0.length c0_0) := (blk_cell BK1146.out 0).trans rfl; have hcz11_1 : w10.cell? ⟨gb1146, 1, none⟩ = some (.slice A0_1 l0_1.length c0_1) := (blk_cell BK1146.out 1).trans rfl; have hfz11_0 := blk_frozen BK1146.out 0; have hfz11_1 := blk_frozen BK1146.out 1) | ((with_reducible refine gate_callee (f := 35) rfl ?_); refine gL_ (some 7) Try.func35 #[.agg #[.slice A0_0 l0_0.length c0_0, .slice A0_1 l0_1.length c0_1]] ?_; (with_reducible refine (spec_IsValidDfa.calls k _ _ l0_0 _ _ l0_1 false _ ?side1 ?side2 ?side3 ?side4 A2.out).mono ?_); (case side1 => exact rc_ (Kd.C_below HR0_0.out HB.out)); (case side2 => exact HC0_0.out); (case side3 => exact rc_ (Kd.C_below HR0_1.out HB.out)); (case side4 => exact HC0_1.out); rintro e w12 ⟨rfl, hb⟩; refine ⟨_, rfl, ?_⟩; have n0_ := am_ (blk_below (rb_ BK1146.out) hb); have n1_ := am_ (below_step (b1_ HB.out GE1146.out) hb); clear BK1146; clear HB; have BK1146 := n0_; have HB := n1_; clear n0_ n1_; (try clear hb); (try clear hb2); (try clear hk); (try clear hi)))
    go_ret2
    exact ⟨by first | rfl | (simp [errW_none, errW_some] <;> rfl) | (simp [*, errW_none, errW_some] <;> rfl), by repeat (first | (with_reducible first | exact HB.out | apply below_alloc | apply pw_below_drewN | apply below_drew1 | refine below_set ?_ GE1146.out) | exact HB.out)⟩
def impl_CompareWords.f (a0 : ByteArray) (a1 : ByteArray) : Option (Int) := if (a0.size : Int) < (a1.size : Int) then (some (-1)) else (if (a0.size : Int) > (a1.size : Int) then (some 1) else (if (Op.bytesLess a0.toList a1.toList) = true then (some (-1)) else (if a0.toList = a1.toList then (some 0) else (some 1))))
set_option maxHeartbeats 8000000 in
set_option maxRecDepth 100000 in
theorem impl_CompareWords.calls (a0 : ByteArray) (a1 : ByteArray) (r : Int) (w : World) (h : impl_CompareWords.f a0 a1 = some r) :
    Calls Try.prog 49 #[.string a0, .string a1] w fun e w' => e = .returned (.int .i64 r) ∧ Drawn0 w w' := by
  have H := h
  unfold impl_CompareWords.f at H
  clear h
  by_cases c3 : (a0.size : Int) < (a1.size : Int)
  · rw [if_pos c3] at H
    have c3b0 : decide ((a0.size : Int) < (a1.size : Int)) = true := decide_eq_true c3
    have c3b1 : decide (a0.size < a1.size) = true := decide_eq_true (Int.ofNat_lt.mp c3)
    clear c3
    obtain rfl := Option.some.inj H
    clear H
    go_enter Try.func49, Try.ntmps49
    go_wp2
    go_ret
    exact ⟨rfl, Drawn0.refl _⟩
  · rw [if_neg c3] at H
    have c3b0 : decide ((a0.size : Int) < (a1.size : Int)) = false := decide_eq_false c3
    have c3b1 : decide (a0.size < a1.size) = false := decide_eq_false (fun h => c3 (Int.ofNat_lt.mpr h))
    by_cases c4 : (a0.size : Int) > (a1.size : Int)
    · rw [if_pos c4] at H
      have c4b0 : ((a0.size : Int) == (a1.size : Int)) = false := beq_eq_false_iff_ne.mpr (by omega)
      have c4b1 : (a0.size == a1.size) = false := beq_eq_false_iff_ne.mpr (by omega)
      have c8 : (a0.toList == a1.toList) = false := beq_eq_false_iff_ne.mpr (fun e => by
        have h0 : a0.toList.length = a0.size := by rw [ByteArray.toList_eq]; exact Array.length_toList
        have h1 : a1.toList.length = a1.size := by rw [ByteArray.toList_eq]; exact Array.length_toList
        rw [e] at h0
        omega)
      clear c4 c3
      obtain rfl := Option.some.inj H
      clear H
      go_enter Try.func49, Try.ntmps49
      go_wp2
      go_ret
      exact ⟨rfl, Drawn0.refl _⟩
    · rw [if_neg c4] at H
      have c4b0 : ((a0.size : Int) == (a1.size : Int)) = true := beq_iff_eq.mpr (by omega)
      have c4b1 : (a0.size == a1.size) = true := beq_iff_eq.mpr (by omega)
      clear c4 c3
      by_cases c5 : (Op.bytesLess a0.toList a1.toList) = true
      · rw [if_pos c5] at H
        obtain rfl := Option.some.inj H
        clear H
        go_enter Try.func49, Try.ntmps49
        go_wp2
        go_ret
        exact ⟨rfl, Drawn0.refl _⟩
      · rw [if_neg c5] at H
        have c5b0 : (Op.bytesLess a0.toList a1.toList) = false := by simpa using c5
        clear c5
        by_cases c6 : a0.toList = a1.toList
        · rw [if_pos c6] at H
          obtain rfl := Option.some.inj H
          clear H
          have c8 : (a0.toList == a1.toList) = true := beq_iff_eq.mpr c6
          clear c6
          go_enter Try.func49, Try.ntmps49
          go_wp2
          go_ret
          exact ⟨rfl, Drawn0.refl _⟩
        · rw [if_neg c6] at H
          obtain rfl := Option.some.inj H
          clear H
          have c8 : (a0.toList == a1.toList) = false := beq_eq_false_iff_ne.mpr c6
          clear c6
          go_enter Try.func49, Try.ntmps49
          go_wp2
          go_ret
          exact ⟨rfl, Drawn0.refl _⟩
end Go.Proofs.Ytogamkblkoobkaa.P
end
