/- Texts of the proof of FnMinimal, put together. No condition. -/
import Derived.Test.YtogamkblkoobkaaQFnMinimal2
import Derived.Test.YtogamkblkoobkaaQFnMinimal4
import Derived.Test.YtogamkblkoobkaaQFnMinimal6
import Derived.Test.YtogamkblkoobkaaQFnMinimal8
import Derived.Test.YtogamkblkoobkaaQFnMinimal10
section
namespace Go.Proofs.Ytogamkblkoobkaa.P
open Go.RowKit Go.Proofs.YtogamkblkoobkaaW.PrintWords Go.Proofs.YtogamkblkoobkaaW.PrintLast Go.Proofs.YtogamkblkoobkaaW.PrintMore
attribute [local go_sem] max2_int min2_int max_two min_two max_three min_three max_four min_four
set_option linter.unusedVariables false
set_option linter.unusedSimpArgs false
def laws_FnMinimal.j0 : Nat → ByteArray → Bool → Bool → List Bool → List (List Int) → List Bool → List (List Int) → List Bool → List (List Int) → List Bool → List (List Int) → Option (Bool)
  | 0, _, _, _, _, _, _, _, _, _, _, _ => none
  | k + 1, x7, x8, x55, x808000, x808001, x809000, x809001, x816000, x816001, x823000, x823001 => if x55 = true then (some false) else (if x8 = true then ((impl_AcceptsWord.f k x808000 x808001 x7).bind fun t841 => ((impl_AcceptsWord.f k x809000 x809001 x7).bind fun t842 => (some (t841 != t842)))) else ((spec_IsValidDfa.f k x808000 x808001).bind fun t843 => (if t843 = true then ((spec_IsValidDfa.f k x809000 x809001).bind fun t844 => (if t844 = true then ((impl_EqualDfa.f x816000 x816001 x823000 x823001).bind fun t845 => (some t845)) else (some true))) else (some true))))
def laws_FnMinimal.f (k : Nat) (l0 : List Int) : Option (Bool) := (laws_big.f l0).bind fun t794 => (if t794 = true then (some true) else ((spec_DrawDifferWord.f k l0).bind fun bt795 => ((impl_MinimizeDfa.f bt795.1 bt795.2.1).bind fun bt809 => ((impl_MinimizeDfa.f bt795.2.2.1 bt795.2.2.2).bind fun bt816 => ((impl_DifferWord.f bt795.1 bt795.2.1 bt795.2.2.1 bt795.2.2.2).bind fun bt823 => ((spec_DifferWord.f k bt795.1 bt795.2.1 bt795.2.2.1 bt795.2.2.2).bind fun bt825 => (if (bt823.2 != bt825.2) = true then (laws_FnMinimal.j0 k bt823.1 bt823.2 true bt795.1 bt795.2.1 bt795.2.2.1 bt795.2.2.2 bt809.1 bt809.2 bt816.1 bt816.2) else (if bt823.1.toList = bt825.1.toList then ((spec_MinimizeDfa.f k bt795.1 bt795.2.1).bind fun bt827 => ((spec_EqualDfa.f k bt809.1 bt809.2 bt827.1 bt827.2).bind fun t833 => (if t833 = true then ((impl_MinimizeDfa.f bt809.1 bt809.2).bind fun bt834 => ((spec_EqualDfa.f k bt834.1 bt834.2 bt809.1 bt809.2).bind fun t840 => (laws_FnMinimal.j0 k bt823.1 bt823.2 (!t840) bt795.1 bt795.2.1 bt795.2.2.1 bt795.2.2.2 bt809.1 bt809.2 bt816.1 bt816.2))) else (laws_FnMinimal.j0 k bt823.1 bt823.2 true bt795.1 bt795.2.1 bt795.2.2.1 bt795.2.2.2 bt809.1 bt809.2 bt816.1 bt816.2)))) else (laws_FnMinimal.j0 k bt823.1 bt823.2 true bt795.1 bt795.2.1 bt795.2.2.1 bt795.2.2.2 bt809.1 bt809.2 bt816.1 bt816.2)))))))))
theorem laws_FnMinimal.mono_l : ∀ k, (∀ y0 y1 y2 y3 y4 y5 y6 y7 y8 y9 y10, LeO (laws_FnMinimal.j0 k y0 y1 y2 y3 y4 y5 y6 y7 y8 y9 y10) (laws_FnMinimal.j0 (k + 1) y0 y1 y2 y3 y4 y5 y6 y7 y8 y9 y10))
 | 0 => fun _ _ _ _ _ _ _ _ _ _ _ r h => by simp [laws_FnMinimal.j0] at h
 | k + 1 => by
  have ih0 := laws_FnMinimal.mono_l k
  ·intro y0 y1 y2 y3 y4 y5 y6 y7 y8 y9 y10
   unfold laws_FnMinimal.j0
   repeat' first
   | (with_reducible exact ih0 _ _ _ _ _ _ _ _ _ _ _)
   | (with_reducible exact impl_AcceptsWord.mono _ _ _ _)
   | (with_reducible exact spec_DifferWord.mono _ _ _ _ _)
   | (with_reducible exact spec_DrawDifferWord.mono _ _)
   | (with_reducible exact spec_EqualDfa.mono _ _ _ _ _)
   | (with_reducible exact spec_IsValidDfa.mono _ _ _)
   | (with_reducible exact spec_MinimizeDfa.mono _ _ _)
   | (with_reducible exact LeO.refl _)
   | (with_reducible exact LeO.none _)
   | (with_reducible refine LeO.ite ?_ ?_)
   | (with_reducible refine LeO.bind ?_ (fun _ => ?_))
   | exact ih0 _ _ _ _ _ _ _ _ _ _ _
   | exact impl_AcceptsWord.mono _ _ _ _
   | exact spec_DifferWord.mono _ _ _ _ _
   | exact spec_DrawDifferWord.mono _ _
   | exact spec_EqualDfa.mono _ _ _ _ _
   | exact spec_IsValidDfa.mono _ _ _
   | exact spec_MinimizeDfa.mono _ _ _
   | exact LeO.none _
   | refine LeO.ite ?_ ?_
   | refine LeO.bind ?_ (fun _ => ?_)
theorem laws_FnMinimal.mono : ∀ a0 k, LeO (laws_FnMinimal.f k a0) (laws_FnMinimal.f (k + 1) a0) := by
 intro a0 k
 have ih0 := laws_FnMinimal.mono_l k
 unfold laws_FnMinimal.f
 repeat' first
   | (with_reducible exact ih0 _ _ _ _ _ _ _ _ _ _ _)
   | (with_reducible exact impl_AcceptsWord.mono _ _ _ _)
   | (with_reducible exact spec_DifferWord.mono _ _ _ _ _)
   | (with_reducible exact spec_DrawDifferWord.mono _ _)
   | (with_reducible exact spec_EqualDfa.mono _ _ _ _ _)
   | (with_reducible exact spec_IsValidDfa.mono _ _ _)
   | (with_reducible exact spec_MinimizeDfa.mono _ _ _)
   | (with_reducible exact LeO.refl _)
   | (with_reducible exact LeO.none _)
   | (with_reducible refine LeO.ite ?_ ?_)
   | (with_reducible refine LeO.bind ?_ (fun _ => ?_))
   | exact ih0 _ _ _ _ _ _ _ _ _ _ _
   | exact impl_AcceptsWord.mono _ _ _ _
   | exact spec_DifferWord.mono _ _ _ _ _
   | exact spec_DrawDifferWord.mono _ _
   | exact spec_EqualDfa.mono _ _ _ _ _
   | exact spec_IsValidDfa.mono _ _ _
   | exact spec_MinimizeDfa.mono _ _ _
   | exact LeO.none _
   | refine LeO.ite ?_ ?_
   | refine LeO.bind ?_ (fun _ => ?_)
def laws_FnMinimal.T8 : Bool × List (List Nat × List Nat) := (true, [([], []), ([], []), ([0, 1], [0, 1]), ([2], [2]), ([3], [3]), ([3], [3]), ([4, 5, 3], [3, 4, 5]), ([3, 6], [3, 6]), ([7, 3], [7]), ([8], [8]), ([8], [8]), ([10, 8, 8], [8, 10]), ([9, 11, 11, 8], [8, 9, 11]), ([12, 8], [8, 12]), ([8, 13], [8, 13]), ([14, 12], [14]), ([15], [15]), ([16, 15, 15], [15, 16]), ([15], [15]), ([17, 18, 17, 15], [15, 17, 18]), ([19, 15], [15, 19]), ([15, 20], [15, 20])])
def laws_FnMinimal.B8 : List Nat := [0, 0, 3, 7, 15, 15, 63, 127, 255, 511, 511, 1535, 4095, 8191, 16383, 32767, 65535, 131071, 65535, 524287, 1048575, 2097151]
theorem laws_FnMinimal.tab8 : rtab .any (opsOf Try.f8 8) = laws_FnMinimal.T8 := by kernel_rfl
theorem laws_FnMinimal.bits8 : waitsOk laws_FnMinimal.T8.2 laws_FnMinimal.B8 = true := by kernel_rfl
def laws_FnMinimal.T11 : Bool × List (List Nat × List Nat) := (true, [([], []), ([], []), ([0, 1], [0, 1]), ([], []), ([], []), ([3, 4, 2], [3, 4]), ([2, 5], [2, 5]), ([6, 5, 0, 1, 2, 3, 4, 5, 6], [6])])
def laws_FnMinimal.B11 : List Nat := [0, 0, 3, 0, 0, 31, 63, 127]
theorem laws_FnMinimal.tab11 : rtab .any (opsOf Try.f8 11) = laws_FnMinimal.T11 := by kernel_rfl
theorem laws_FnMinimal.bits11 : waitsOk laws_FnMinimal.T11.2 laws_FnMinimal.B11 = true := by kernel_rfl
theorem zp40_0_ {p q g1 g2 g3 g4 : Prop} (h : p) (h1 : g1) (h2 : g2) (h3 : g3) (h4 : g4) (c : p → g1 → g2 → g3 → g4 → q := by intro h_ h1_ h2_ h3_ h4_; repeat (first | (with_reducible first | exact h_ | apply below_alloc | apply pw_below_drewN | apply below_drew1 | refine below_set ?_ h1_ | refine below_set ?_ h2_ | refine below_set ?_ h3_ | refine below_set ?_ h4_) | exact h_)) : q := c h h1 h2 h3 h4
set_option maxHeartbeats 8000000 in
set_option maxRecDepth 100000 in
theorem laws_FnMinimal.calls (k : Nat) (A0 : Option Addr) (c0 : Nat) (l0 : List Int) (r : Bool) (w : World) (hr0 : Kd.C (Kd.int .u8) w A0 l0.length l0) (hc0 : l0.length ≤ c0) (h : laws_FnMinimal.f k l0 = some r) (hR : r = true) :
  Calls Try.prog 8 #[.slice A0 l0.length c0] w fun e w' => e = .returned (.bool r) ∧ Below w.heap.size w w' := by
 have hu27 := Try.underlying27
 have HR0 := am_ hr0
 have HC0 := am_ hc0
 clear hr0 hc0
 have HB := am_ (Below.refl w.heap.size w)
 have H : ((laws_big.f l0).bind fun t794 => (if t794 = true then (some true) else ((spec_DrawDifferWord.f k l0).bind fun bt795 => ((impl_MinimizeDfa.f bt795.1 bt795.2.1).bind fun bt809 => ((impl_MinimizeDfa.f bt795.2.2.1 bt795.2.2.2).bind fun bt816 => ((impl_DifferWord.f bt795.1 bt795.2.1 bt795.2.2.1 bt795.2.2.2).bind fun bt823 => ((spec_DifferWord.f k bt795.1 bt795.2.1 bt795.2.2.1 bt795.2.2.2).bind fun bt825 => (if (bt823.2 != bt825.2) = true then (laws_FnMinimal.j0 k bt823.1 bt823.2 true bt795.1 bt795.2.1 bt795.2.2.1 bt795.2.2.2 bt809.1 bt809.2 bt816.1 bt816.2) else (if bt823.1.toList = bt825.1.toList then ((spec_MinimizeDfa.f k bt795.1 bt795.2.1).bind fun bt827 => ((spec_EqualDfa.f k bt809.1 bt809.2 bt827.1 bt827.2).bind fun t833 => (if t833 = true then ((impl_MinimizeDfa.f bt809.1 bt809.2).bind fun bt834 => ((spec_EqualDfa.f k bt834.1 bt834.2 bt809.1 bt809.2).bind fun t840 => (laws_FnMinimal.j0 k bt823.1 bt823.2 (!t840) bt795.1 bt795.2.1 bt795.2.2.1 bt795.2.2.2 bt809.1 bt809.2 bt816.1 bt816.2))) else (laws_FnMinimal.j0 k bt823.1 bt823.2 true bt795.1 bt795.2.1 bt795.2.2.1 bt795.2.2.2 bt809.1 bt809.2 bt816.1 bt816.2)))) else (laws_FnMinimal.j0 k bt823.1 bt823.2 true bt795.1 bt795.2.1 bt795.2.2.1 bt795.2.2.2 bt809.1 bt809.2 bt816.1 bt816.2)))))))))) = some r := h
 clear h
 replace H := Option.bind_eq_some_iff.mp H
 obtain ⟨t794, A20, H⟩ := H
 have A2 := am_ A20
 clear A20
 by_cases c3 : t794 = true
 ·subst c3
  have H1 : (some true) = some r := by rw [if_pos rfl] at H; exact H
  clear H
  have H := H1
  clear H1
  obtain rfl := Option.some.inj H
  simp only [Option.some.injEq, Prod.mk.injEq] at H
  obtain ⟨rfl⟩ := H
  go_enter Try.func8, Try.ntmps8
  go_wp2_with (first | ((with_reducible refine gate_callee (f := 27) rfl ?_); refine gL_ (some 12) Try.func27 #[.slice A0 l0.length c0] ?_; (with_reducible refine (laws_big.calls _ _ l0 true _ ?side1 ?side2 A2.out).mono ?_); (case side1 => exact rc_ HR0.out); (case side2 => exact HC0.out); rintro e w' ⟨rfl, ⟨nd, rfl⟩⟩; refine ⟨_, rfl, ?_⟩))
  go_ret
  exact ⟨by first | rfl | (simp [errW_none, errW_some] <;> rfl) | (simp [*, errW_none, errW_some] <;> rfl), by repeat (first | (with_reducible first | exact HB.out | apply below_alloc | apply pw_below_drewN | apply below_drew1) | exact HB.out)⟩
 ·replace c3 := Bool.eq_false_iff.mpr c3
  subst c3
  have H1 : ((spec_DrawDifferWord.f k l0).bind fun bt795 => ((impl_MinimizeDfa.f bt795.1 bt795.2.1).bind fun bt809 => ((impl_MinimizeDfa.f bt795.2.2.1 bt795.2.2.2).bind fun bt816 => ((impl_DifferWord.f bt795.1 bt795.2.1 bt795.2.2.1 bt795.2.2.2).bind fun bt823 => ((spec_DifferWord.f k bt795.1 bt795.2.1 bt795.2.2.1 bt795.2.2.2).bind fun bt825 => (if (bt823.2 != bt825.2) = true then (laws_FnMinimal.j0 k bt823.1 bt823.2 true bt795.1 bt795.2.1 bt795.2.2.1 bt795.2.2.2 bt809.1 bt809.2 bt816.1 bt816.2) else (if bt823.1.toList = bt825.1.toList then ((spec_MinimizeDfa.f k bt795.1 bt795.2.1).bind fun bt827 => ((spec_EqualDfa.f k bt809.1 bt809.2 bt827.1 bt827.2).bind fun t833 => (if t833 = true then ((impl_MinimizeDfa.f bt809.1 bt809.2).bind fun bt834 => ((spec_EqualDfa.f k bt834.1 bt834.2 bt809.1 bt809.2).bind fun t840 => (laws_FnMinimal.j0 k bt823.1 bt823.2 (!t840) bt795.1 bt795.2.1 bt795.2.2.1 bt795.2.2.2 bt809.1 bt809.2 bt816.1 bt816.2))) else (laws_FnMinimal.j0 k bt823.1 bt823.2 true bt795.1 bt795.2.1 bt795.2.2.1 bt795.2.2.2 bt809.1 bt809.2 bt816.1 bt816.2)))) else (laws_FnMinimal.j0 k bt823.1 bt823.2 true bt795.1 bt795.2.1 bt795.2.2.1 bt795.2.2.2 bt809.1 bt809.2 bt816.1 bt816.2)))))))) = some r := by rw [if_neg (show ¬ (false = true) by decide)] at H; exact H
  clear H
  have H := H1
  clear H1
  replace H := Option.bind_eq_some_iff.mp H
  obtain ⟨⟨t795, t798, t801, t804⟩, A40, H⟩ := H
  have A4 := am_ A40
  clear A40
  replace H := Option.bind_eq_some_iff.mp H
  obtain ⟨⟨t809, t812⟩, A50, H⟩ := H
  have A5 := am_ A50
  clear A50
  replace H := Option.bind_eq_some_iff.mp H
  obtain ⟨⟨t816, t819⟩, A60, H⟩ := H
  have A6 := am_ A60
  clear A60
  replace H := Option.bind_eq_some_iff.mp H
  obtain ⟨⟨t823, t824⟩, A70, H⟩ := H
  have A7 := am_ A70
  clear A70
  replace H := Option.bind_eq_some_iff.mp H
  obtain ⟨⟨t825, t826⟩, A80, H⟩ := H
  have A8 := am_ A80
  clear A80
  have HC9 := am_ H
  clear H
  go_enter Try.func8, Try.ntmps8
  go_upto_region 8 with (first | ((with_reducible refine gate_callee (f := 27) rfl ?_); refine gL_ (some 12) Try.func27 #[.slice A0 l0.length c0] ?_; (with_reducible refine (laws_big.calls _ _ l0 false _ ?side1 ?side2 A2.out).mono ?_); (case side1 => exact rc_ HR0.out); (case side2 => exact HC0.out); rintro e w' ⟨rfl, ⟨nd, rfl⟩⟩; refine ⟨_, rfl, ?_⟩) | ((with_reducible refine gate_callee (f := 28) rfl ?_); refine gL_ (some 15) Try.func28 #[.slice A0 l0.length c0] ?_; (with_reducible refine (spec_DrawDifferWord.calls k _ _ l0 t795 t798 t801 t804 _ ?side1 ?side2 A4.out).mono ?_); (case side1 => exact rc_ HR0.out); (case side2 => exact HC0.out); rintro e w10 ⟨v796, v799, v802, v805, rfl, ho0, ho1, ho2, ho3, hb⟩; refine ⟨_, rfl, ?_⟩; replace HO797 := am_ (Kd.R_lower ho0 (below_size (b0_ HB.out))); replace HO800 := am_ (Kd.S_lower ho1 (below_size (b0_ HB.out))); replace HO803 := am_ (Kd.R_lower ho2 (below_size (b0_ HB.out))); replace HO806 := am_ (Kd.S_lower ho3 (below_size (b0_ HB.out))); replace HB := am_ (below_step (b0_ HB.out) hb); (try clear hb); (try clear hb2); (try clear hk); (try clear hi); (try clear ho0); (try clear ho1); (try clear ho2); (try clear ho3)) | ((with_reducible refine gate_dst (N := 3) rfl ?_); refine box_event ?hg (N := 3) ?hd (cs := #[.slice none 0 0, .slice none 0 0]) (t := 27) ?hr ?_; (case hd => rfl); (case hg => rfl); (case hr => first | (go_simp; done) | (go_simp; rfl)); intro gb807 hg w11 hbox hb; have n0_ := am_ (Kd.R_below (rr_ HO797.out) hb); have n1_ := am_ (Kd.S_below (rs_ HO800.out) hb); have n2_ := am_ (Kd.R_below (rr_ HO803.out) hb); have n3_ := am_ (Kd.S_below (rs_ HO806.out) hb); have n4_ := am_ (below_step (b0_ HB.out) hb); have n5_ := am_ (hbox); have n6_ := am_ ((by rw [hg]; exact (below_size (b0_ HB.out)) : w.heap.size ≤ gb807)); have n7_ := am_ ((by rw [hg]; exact (below_size (b0_ HB.out)) : w.heap.size ≤ gb807)); clear HO797; clear HO800; clear HO803; clear HO806; clear HB; have HO797 := n0_; have HO800 := n1_; have HO803 := n2_; have HO806 := n3_; have HB := n4_; have BK807 := n5_; have GW807 := n6_; have GE807 := n7_; clear n0_ n1_ n2_ n3_ n4_ n5_ n6_ n7_; clear hb hbox hg) | ((with_reducible refine gate_dst (N := 4) rfl ?_); refine box_event ?hg (N := 4) ?hd (cs := #[.slice none 0 0, .slice none 0 0]) (t := 27) ?hr ?_; (case hd => rfl); (case hg => rfl); (case hr => first | (go_simp; done) | (go_simp; rfl)); intro gb808 hg w12 hbox hb; have n0_ := am_ (Kd.R_below (rr_ HO797.out) hb); have n1_ := am_ (Kd.S_below (rs_ HO800.out) hb); have n2_ := am_ (Kd.R_below (rr_ HO803.out) hb); have n3_ := am_ (Kd.S_below (rs_ HO806.out) hb); have n4_ := am_ (blk_below (rb_ BK807.out) hb); have n5_ := am_ (below_step (b1_ HB.out GE807.out) hb); have n6_ := am_ (hbox); have n7_ := am_ ((by rw [hg]; exact (below_size (b1_ HB.out GE807.out)) : w.heap.size ≤ gb808)); have n8_ := am_ ((by rw [hg]; exact (below_size (b1_ HB.out GE807.out)) : w.heap.size ≤ gb808)); have n9_ := am_ ((by rw [hg]; exact Nat.ne_of_lt (blk_lt (rb_ BK807.out)) : gb807 ≠ gb808)); have n10_ := am_ ((by rw [hg]; exact Nat.ne_of_gt (blk_lt (rb_ BK807.out)) : gb808 ≠ gb807)); clear HO797; clear HO800; clear HO803; clear HO806; clear BK807; clear HB; have HO797 := n0_; have HO800 := n1_; have HO803 := n2_; have HO806 := n3_; have BK807 := n4_; have HB := n5_; have BK808 := n6_; have GW808 := n7_; have GE808 := n8_; have NB807_808 := n9_; have NB808_807 := n10_; clear n0_ n1_ n2_ n3_ n4_ n5_ n6_ n7_ n8_ n9_ n10_; clear hb hbox hg; obtain ⟨Ao13, co13, eo13⟩ := Kd.R_slice HO797.out; subst eo13; have hnb14 := NB807_808.out; have hnc14 := NB808_807.out; have hcz15_0 : w12.cell? ⟨gb807, 0, none⟩ = some (.slice none 0 0) := (blk_cell BK807.out 0).trans rfl; have hcz15_1 : w12.cell? ⟨gb807, 1, none⟩ = some (.slice none 0 0) := (blk_cell BK807.out 1).trans rfl; have hfz15_0 := blk_frozen BK807.out 0; have hfz15_1 := blk_frozen BK807.out 1; obtain ⟨Ao16, co16, eo16⟩ := Kd.S_slice HO800.out; subst eo16; obtain ⟨Ao17, co17, eo17⟩ := Kd.R_slice HO803.out; subst eo17; have hcz18_0 : w12.cell? ⟨gb808, 0, none⟩ = some (.slice none 0 0) := (blk_cell BK808.out 0).trans rfl; have hcz18_1 : w12.cell? ⟨gb808, 1, none⟩ = some (.slice none 0 0) := (blk_cell BK808.out 1).trans rfl; have hfz18_0 := blk_frozen BK808.out 0; have hfz18_1 := blk_frozen BK808.out 1; obtain ⟨Ao19, co19, eo19⟩ := Kd.S_slice HO806.out; subst eo19) | ((with_reducible refine gate_callee (f := 29) rfl ?_); refine gL_ (some 19) Try.func29 #[.agg #[.slice Ao13 t795.length co13, .slice Ao16 t798.length co16]] ?_; (with_reducible refine (impl_MinimizeDfa.calls _ _ t795 _ _ t798 t809 t812 _ ?side1 ?side2 ?side3 ?side4 A5.out).mono ?_); (case side1 => refine (Kd.R_reads' (e := 4) (base := w.heap.size) (ok := fun k_ => some k_ ≠ (.slice Ao17 t801.length co17 : Value).ownBlock) (n := t795.length) (c := co13) ?_).2.2; exact (rr_ (Kd.R_mono (Kd.R_mono (Kd.R_far (p := ⟨gb808, 1, none⟩) (Kd.R_far (p := ⟨gb808, 0, none⟩) (Kd.R_far (p := ⟨gb807, 1, none⟩) (Kd.R_far (p := ⟨gb807, 0, none⟩) (Kd.R_types (Kd.R_types HO797.out BK807.out (by decide)) BK808.out (by decide)) (fun _ hk => hk.1.2) (.slice Ao13 t795.length co13)) (fun _ hk => hk.1.2) (.slice Ao16 t798.length co16)) (fun _ hk => hk.2) (.slice Ao17 t801.length co17)) (fun _ hk => hk.2) (.slice Ao19 t804.length co19)) (fun _ h_ => h_.1)) (fun _ h_ => h_.1)))); (case side2 => exact (Kd.R_reads' HO797.out).2.1); (case side3 => refine (Kd.S_reads' (e := 67) (base := w.heap.size) (ok := fun k_ => some k_ ≠ (.slice Ao19 t804.length co19 : Value).ownBlock) (n := t798.length) (c := co16) ?_).2.2; exact (rs_ (Kd.S_mono (Kd.S_mono (Kd.S_far (p := ⟨gb808, 1, none⟩) (Kd.S_far (p := ⟨gb808, 0, none⟩) (Kd.S_far (p := ⟨gb807, 1, none⟩) (Kd.S_far (p := ⟨gb807, 0, none⟩) (Kd.S_types (Kd.S_types HO800.out BK807.out (by decide)) BK808.out (by decide)) (fun _ hk => hk.1.2) (.slice Ao13 t795.length co13)) (fun _ hk => hk.1.2) (.slice Ao16 t798.length co16)) (fun _ hk => hk.2) (.slice Ao17 t801.length co17)) (fun _ hk => hk.2) (.slice Ao19 t804.length co19)) (fun _ h_ => h_.1)) (fun _ h_ => h_.1)))); (case side4 => exact (Kd.S_reads' HO800.out).2.1); rintro e w20 ⟨v810, v813, rfl, ho0, ho1, hb⟩; refine ⟨_, rfl, ?_⟩; have n0_ := am_ (Kd.R_elder' (rr_ (Kd.R_mono (Kd.R_mono (Kd.R_far (p := ⟨gb808, 1, none⟩) (Kd.R_far (p := ⟨gb808, 0, none⟩) (Kd.R_far (p := ⟨gb807, 1, none⟩) (Kd.R_far (p := ⟨gb807, 0, none⟩) (Kd.R_types (Kd.R_types HO797.out BK807.out (by decide)) BK808.out (by decide)) (fun _ hk => hk.1.2) (.slice Ao13 t795.length co13)) (fun _ hk => hk.1.2) (.slice Ao16 t798.length co16)) (fun _ hk => hk.2) (.slice Ao17 t801.length co17)) (fun _ hk => hk.2) (.slice Ao19 t804.length co19)) (fun _ h_ => h_.1)) (fun _ h_ => h_.1))) (Kd.R_base ho0) hb); have n1_ := am_ (Kd.S_elder' (rs_ (Kd.S_mono (Kd.S_mono (Kd.S_far (p := ⟨gb808, 1, none⟩) (Kd.S_far (p := ⟨gb808, 0, none⟩) (Kd.S_far (p := ⟨gb807, 1, none⟩) (Kd.S_far (p := ⟨gb807, 0, none⟩) (Kd.S_types (Kd.S_types HO800.out BK807.out (by decide)) BK808.out (by decide)) (fun _ hk => hk.1.2) (.slice Ao13 t795.length co13)) (fun _ hk => hk.1.2) (.slice Ao16 t798.length co16)) (fun _ hk => hk.2) (.slice Ao17 t801.length co17)) (fun _ hk => hk.2) (.slice Ao19 t804.length co19)) (fun _ h_ => h_.1)) (fun _ h_ => h_.1))) (Kd.S_base ho1) hb); have n2_ := am_ (Kd.R_elder' (rr_ (Kd.R_mono (Kd.R_mono (Kd.R_far (p := ⟨gb808, 1, none⟩) (Kd.R_far (p := ⟨gb808, 0, none⟩) (Kd.R_far (p := ⟨gb807, 1, none⟩) (Kd.R_far (p := ⟨gb807, 0, none⟩) (Kd.R_types (Kd.R_types HO803.out BK807.out (by decide)) BK808.out (by decide)) (fun _ hk => hk.1.2) (.slice Ao13 t795.length co13)) (fun _ hk => hk.1.2) (.slice Ao16 t798.length co16)) (fun _ hk => hk.2) (.slice Ao17 t801.length co17)) (fun _ hk => hk.2) (.slice Ao19 t804.length co19)) (fun _ h_ => h_.1)) (fun _ h_ => h_.1))) (Kd.R_base ho0) hb); have n3_ := am_ (Kd.S_elder' (rs_ (Kd.S_mono (Kd.S_mono (Kd.S_far (p := ⟨gb808, 1, none⟩) (Kd.S_far (p := ⟨gb808, 0, none⟩) (Kd.S_far (p := ⟨gb807, 1, none⟩) (Kd.S_far (p := ⟨gb807, 0, none⟩) (Kd.S_types (Kd.S_types HO806.out BK807.out (by decide)) BK808.out (by decide)) (fun _ hk => hk.1.2) (.slice Ao13 t795.length co13)) (fun _ hk => hk.1.2) (.slice Ao16 t798.length co16)) (fun _ hk => hk.2) (.slice Ao17 t801.length co17)) (fun _ hk => hk.2) (.slice Ao19 t804.length co19)) (fun _ h_ => h_.1)) (fun _ h_ => h_.1))) (Kd.S_base ho1) hb); have n4_ := am_ (Kd.R_lower (Kd.R_new' (Kd.R_new' ho0 (Kd.R_lt (rr_ (Kd.R_mono (Kd.R_mono (Kd.R_far (p := ⟨gb808, 1, none⟩) (Kd.R_far (p := ⟨gb808, 0, none⟩) (Kd.R_far (p := ⟨gb807, 1, none⟩) (Kd.R_far (p := ⟨gb807, 0, none⟩) (Kd.R_types (Kd.R_types HO797.out BK807.out (by decide)) BK808.out (by decide)) (fun _ hk => hk.1.2) (.slice Ao13 t795.length co13)) (fun _ hk => hk.1.2) (.slice Ao16 t798.length co16)) (fun _ hk => hk.2) (.slice Ao17 t801.length co17)) (fun _ hk => hk.2) (.slice Ao19 t804.length co19)) (fun _ h_ => h_.1)) (fun _ h_ => h_.1))))) (Kd.R_lt (rr_ (Kd.R_mono (Kd.R_mono (Kd.R_far (p := ⟨gb808, 1, none⟩) (Kd.R_far (p := ⟨gb808, 0, none⟩) (Kd.R_far (p := ⟨gb807, 1, none⟩) (Kd.R_far (p := ⟨gb807, 0, none⟩) (Kd.R_types (Kd.R_types HO803.out BK807.out (by decide)) BK808.out (by decide)) (fun _ hk => hk.1.2) (.slice Ao13 t795.length co13)) (fun _ hk => hk.1.2) (.slice Ao16 t798.length co16)) (fun _ hk => hk.2) (.slice Ao17 t801.length co17)) (fun _ hk => hk.2) (.slice Ao19 t804.length co19)) (fun _ h_ => h_.1)) (fun _ h_ => h_.1))))) (below_size (b2_ HB.out GE807.out GE808.out))); have n5_ := am_ (Kd.S_lower (Kd.S_new' (Kd.S_new' ho1 (Kd.S_lt (rs_ (Kd.S_mono (Kd.S_mono (Kd.S_far (p := ⟨gb808, 1, none⟩) (Kd.S_far (p := ⟨gb808, 0, none⟩) (Kd.S_far (p := ⟨gb807, 1, none⟩) (Kd.S_far (p := ⟨gb807, 0, none⟩) (Kd.S_types (Kd.S_types HO800.out BK807.out (by decide)) BK808.out (by decide)) (fun _ hk => hk.1.2) (.slice Ao13 t795.length co13)) (fun _ hk => hk.1.2) (.slice Ao16 t798.length co16)) (fun _ hk => hk.2) (.slice Ao17 t801.length co17)) (fun _ hk => hk.2) (.slice Ao19 t804.length co19)) (fun _ h_ => h_.1)) (fun _ h_ => h_.1))))) (Kd.S_lt (rs_ (Kd.S_mono (Kd.S_mono (Kd.S_far (p := ⟨gb808, 1, none⟩) (Kd.S_far (p := ⟨gb808, 0, none⟩) (Kd.S_far (p := ⟨gb807, 1, none⟩) (Kd.S_far (p := ⟨gb807, 0, none⟩) (Kd.S_types (Kd.S_types HO806.out BK807.out (by decide)) BK808.out (by decide)) (fun _ hk => hk.1.2) (.slice Ao13 t795.length co13)) (fun _ hk => hk.1.2) (.slice Ao16 t798.length co16)) (fun _ hk => hk.2) (.slice Ao17 t801.length co17)) (fun _ hk => hk.2) (.slice Ao19 t804.length co19)) (fun _ h_ => h_.1)) (fun _ h_ => h_.1))))) (below_size (b2_ HB.out GE807.out GE808.out))); have n6_ := am_ (blk_below (g := gb807) (o := .cells #[.slice Ao13 t795.length co13, .slice Ao16 t798.length co16] 27 (0, 0)) (by refine rb_ ?_; refine blk_far ?_ NB807_808.out _; refine rb_ ?_; refine blk_far ?_ NB807_808.out _; refine rb_ ?_; refine blk_put (cs := #[.slice Ao13 t795.length co13, .slice none 0 0]) ?_ 1 _ rfl; refine rb_ ?_; refine blk_put (cs := #[.slice none 0 0, .slice none 0 0]) ?_ 0 _ rfl; refine rb_ ?_; exact BK807.out) hb); have n7_ := am_ (blk_below (g := gb808) (o := .cells #[.slice Ao17 t801.length co17, .slice Ao19 t804.length co19] 27 (0, 0)) (by refine rb_ ?_; refine blk_put (cs := #[.slice Ao17 t801.length co17, .slice none 0 0]) ?_ 1 _ rfl; refine rb_ ?_; refine blk_put (cs := #[.slice none 0 0, .slice none 0 0]) ?_ 0 _ rfl; refine rb_ ?_; refine blk_far ?_ NB808_807.out _; refine rb_ ?_; refine blk_far ?_ NB808_807.out _; refine rb_ ?_; exact BK808.out) hb); have n8_ := am_ (below_step (b2_ HB.out GE807.out GE808.out) hb); clear HO797; clear HO800; clear HO803; clear HO806; clear BK807; clear BK808; clear HB; have HO797 := n0_; have HO800 := n1_; have HO803 := n2_; have HO806 := n3_; have HO811 := n4_; have HO814 := n5_; have BK807 := n6_; have BK808 := n7_; have HB := n8_; clear n0_ n1_ n2_ n3_ n4_ n5_ n6_ n7_ n8_; (try clear hb); (try clear hb2); (try clear hk); (try clear hi); (try clear ho0); (try clear ho1)) | ((with_reducible refine gate_dst (N := 5) rfl ?_); refine box_event ?hg (N := 5) ?hd (cs := #[.slice none 0 0, .slice none 0 0]) (t := 27) ?hr ?_; (case hd => rfl); (case hg => rfl); (case hr => first | (go_simp; done) | (go_simp; rfl)); intro gb815 hg w21 hbox hb; have n0_ := am_ (Kd.R_below (rr_ HO797.out) hb); have n1_ := am_ (Kd.S_below (rs_ HO800.out) hb); have n2_ := am_ (Kd.R_below (rr_ HO803.out) hb); have n3_ := am_ (Kd.S_below (rs_ HO806.out) hb); have n4_ := am_ (Kd.R_below (rr_ HO811.out) hb); have n5_ := am_ (Kd.S_below (rs_ HO814.out) hb); have n6_ := am_ (blk_below (rb_ BK807.out) hb); have n7_ := am_ (blk_below (rb_ BK808.out) hb); have n8_ := am_ (below_step (b2_ HB.out GE807.out GE808.out) hb); have n9_ := am_ (hbox); have n10_ := am_ ((by rw [hg]; exact (below_size (b2_ HB.out GE807.out GE808.out)) : w.heap.size ≤ gb815)); have n11_ := am_ ((by rw [hg]; exact (below_size (b2_ HB.out GE807.out GE808.out)) : w.heap.size ≤ gb815)); have n12_ := am_ ((by rw [hg]; exact Nat.ne_of_lt (blk_lt (rb_ BK807.out)) : gb807 ≠ gb815)); have n13_ := am_ ((by rw [hg]; exact Nat.ne_of_gt (blk_lt (rb_ BK807.out)) : gb815 ≠ gb807)); have n14_ := am_ ((by rw [hg]; exact Nat.ne_of_lt (blk_lt (rb_ BK808.out)) : gb808 ≠ gb815)); have n15_ := am_ ((by rw [hg]; exact Nat.ne_of_gt (blk_lt (rb_ BK808.out)) : gb815 ≠ gb808)); clear HO797; clear HO800; clear HO803; clear HO806; clear HO811; clear HO814; clear BK807; clear BK808; clear HB; have HO797 := n0_; have HO800 := n1_; have HO803 := n2_; have HO806 := n3_; have HO811 := n4_; have HO814 := n5_; have BK807 := n6_; have BK808 := n7_; have HB := n8_; have BK815 := n9_; have GW815 := n10_; have GE815 := n11_; have NB807_815 := n12_; have NB815_807 := n13_; have NB808_815 := n14_; have NB815_808 := n15_; clear n0_ n1_ n2_ n3_ n4_ n5_ n6_ n7_ n8_ n9_ n10_ n11_ n12_ n13_ n14_ n15_; clear hb hbox hg; obtain ⟨Ao22, co22, eo22⟩ := Kd.R_slice HO811.out; subst eo22; have hnb23 := NB815_807.out; have hnc23 := NB807_815.out; have hnb24 := NB815_808.out; have hnc24 := NB808_815.out; have hcz25_0 : w21.cell? ⟨gb815, 0, none⟩ = some (.slice none 0 0) := (blk_cell BK815.out 0).trans rfl; have hcz25_1 : w21.cell? ⟨gb815, 1, none⟩ = some (.slice none 0 0) := (blk_cell BK815.out 1).trans rfl; have hfz25_0 := blk_frozen BK815.out 0; have hfz25_1 := blk_frozen BK815.out 1; obtain ⟨Ao26, co26, eo26⟩ := Kd.S_slice HO814.out; subst eo26; have hcz27_0 : w21.cell? ⟨gb808, 0, none⟩ = some (.slice Ao17 t801.length co17) := (blk_cell BK808.out 0).trans rfl; have hcz27_1 : w21.cell? ⟨gb808, 1, none⟩ = some (.slice Ao19 t804.length co19) := (blk_cell BK808.out 1).trans rfl; have hfz27_0 := blk_frozen BK808.out 0; have hfz27_1 := blk_frozen BK808.out 1) | ((with_reducible refine gate_callee (f := 29) rfl ?_); refine gL_ (some 21) Try.func29 #[.agg #[.slice Ao17 t801.length co17, .slice Ao19 t804.length co19]] ?_; (with_reducible refine (impl_MinimizeDfa.calls _ _ t801 _ _ t804 t816 t819 _ ?side1 ?side2 ?side3 ?side4 A6.out).mono ?_); (case side1 => refine (Kd.R_reads' (e := 4) (base := w.heap.size) (ok := fun k_ => (some k_ ≠ (.slice Ao13 t795.length co13 : Value).ownBlock ∧ some k_ ≠ (.slice Ao22 t809.length co22 : Value).ownBlock)) (n := t801.length) (c := co17) ?_).2.2; exact (rr_ (Kd.R_mono (Kd.R_far (p := ⟨gb815, 1, none⟩) (Kd.R_far (p := ⟨gb815, 0, none⟩) (Kd.R_types HO803.out BK815.out (by decide)) (fun _ hk => hk.2) (.slice Ao22 t809.length co22)) (fun _ hk => hk.2) (.slice Ao26 t812.length co26)) (fun _ h_ => h_.1)))); (case side2 => exact (Kd.R_reads' HO803.out).2.1); (case side3 => refine (Kd.S_reads' (e := 67) (base := w.heap.size) (ok := fun k_ => (some k_ ≠ (.slice Ao16 t798.length co16 : Value).ownBlock ∧ some k_ ≠ (.slice Ao26 t812.length co26 : Value).ownBlock)) (n := t804.length) (c := co19) ?_).2.2; exact (rs_ (Kd.S_mono (Kd.S_far (p := ⟨gb815, 1, none⟩) (Kd.S_far (p := ⟨gb815, 0, none⟩) (Kd.S_types HO806.out BK815.out (by decide)) (fun _ hk => hk.2) (.slice Ao22 t809.length co22)) (fun _ hk => hk.2) (.slice Ao26 t812.length co26)) (fun _ h_ => h_.1)))); (case side4 => exact (Kd.S_reads' HO806.out).2.1); rintro e w28 ⟨v817, v820, rfl, ho0, ho1, hb⟩; refine ⟨_, rfl, ?_⟩; have n0_ := am_ (Kd.R_elder' (rr_ (Kd.R_mono (Kd.R_far (p := ⟨gb815, 1, none⟩) (Kd.R_far (p := ⟨gb815, 0, none⟩) (Kd.R_types HO797.out BK815.out (by decide)) (fun _ hk => hk.2) (.slice Ao22 t809.length co22)) (fun _ hk => hk.2) (.slice Ao26 t812.length co26)) (fun _ h_ => h_.1))) (Kd.R_base ho0) hb); have n1_ := am_ (Kd.S_elder' (rs_ (Kd.S_mono (Kd.S_far (p := ⟨gb815, 1, none⟩) (Kd.S_far (p := ⟨gb815, 0, none⟩) (Kd.S_types HO800.out BK815.out (by decide)) (fun _ hk => hk.2) (.slice Ao22 t809.length co22)) (fun _ hk => hk.2) (.slice Ao26 t812.length co26)) (fun _ h_ => h_.1))) (Kd.S_base ho1) hb); have n2_ := am_ (Kd.R_elder' (rr_ (Kd.R_mono (Kd.R_far (p := ⟨gb815, 1, none⟩) (Kd.R_far (p := ⟨gb815, 0, none⟩) (Kd.R_types HO803.out BK815.out (by decide)) (fun _ hk => hk.2) (.slice Ao22 t809.length co22)) (fun _ hk => hk.2) (.slice Ao26 t812.length co26)) (fun _ h_ => h_.1))) (Kd.R_base ho0) hb); have n3_ := am_ (Kd.S_elder' (rs_ (Kd.S_mono (Kd.S_far (p := ⟨gb815, 1, none⟩) (Kd.S_far (p := ⟨gb815, 0, none⟩) (Kd.S_types HO806.out BK815.out (by decide)) (fun _ hk => hk.2) (.slice Ao22 t809.length co22)) (fun _ hk => hk.2) (.slice Ao26 t812.length co26)) (fun _ h_ => h_.1))) (Kd.S_base ho1) hb); have n4_ := am_ (Kd.R_elder' (rr_ (Kd.R_mono (Kd.R_far (p := ⟨gb815, 1, none⟩) (Kd.R_far (p := ⟨gb815, 0, none⟩) (Kd.R_types HO811.out BK815.out (by decide)) (fun _ hk => hk.2) (.slice Ao22 t809.length co22)) (fun _ hk => hk.2) (.slice Ao26 t812.length co26)) (fun _ h_ => h_.1))) (Kd.R_base ho0) hb); have n5_ := am_ (Kd.S_elder' (rs_ (Kd.S_mono (Kd.S_far (p := ⟨gb815, 1, none⟩) (Kd.S_far (p := ⟨gb815, 0, none⟩) (Kd.S_types HO814.out BK815.out (by decide)) (fun _ hk => hk.2) (.slice Ao22 t809.length co22)) (fun _ hk => hk.2) (.slice Ao26 t812.length co26)) (fun _ h_ => h_.1))) (Kd.S_base ho1) hb); have n6_ := am_ (Kd.R_lower (Kd.R_new' (Kd.R_new' (Kd.R_new' ho0 (Kd.R_lt (rr_ (Kd.R_mono (Kd.R_far (p := ⟨gb815, 1, none⟩) (Kd.R_far (p := ⟨gb815, 0, none⟩) (Kd.R_types HO797.out BK815.out (by decide)) (fun _ hk => hk.2) (.slice Ao22 t809.length co22)) (fun _ hk => hk.2) (.slice Ao26 t812.length co26)) (fun _ h_ => h_.1))))) (Kd.R_lt (rr_ (Kd.R_mono (Kd.R_far (p := ⟨gb815, 1, none⟩) (Kd.R_far (p := ⟨gb815, 0, none⟩) (Kd.R_types HO803.out BK815.out (by decide)) (fun _ hk => hk.2) (.slice Ao22 t809.length co22)) (fun _ hk => hk.2) (.slice Ao26 t812.length co26)) (fun _ h_ => h_.1))))) (Kd.R_lt (rr_ (Kd.R_mono (Kd.R_far (p := ⟨gb815, 1, none⟩) (Kd.R_far (p := ⟨gb815, 0, none⟩) (Kd.R_types HO811.out BK815.out (by decide)) (fun _ hk => hk.2) (.slice Ao22 t809.length co22)) (fun _ hk => hk.2) (.slice Ao26 t812.length co26)) (fun _ h_ => h_.1))))) (below_size (b3_ HB.out GE807.out GE808.out GE815.out))); have n7_ := am_ (Kd.S_lower (Kd.S_new' (Kd.S_new' (Kd.S_new' ho1 (Kd.S_lt (rs_ (Kd.S_mono (Kd.S_far (p := ⟨gb815, 1, none⟩) (Kd.S_far (p := ⟨gb815, 0, none⟩) (Kd.S_types HO800.out BK815.out (by decide)) (fun _ hk => hk.2) (.slice Ao22 t809.length co22)) (fun _ hk => hk.2) (.slice Ao26 t812.length co26)) (fun _ h_ => h_.1))))) (Kd.S_lt (rs_ (Kd.S_mono (Kd.S_far (p := ⟨gb815, 1, none⟩) (Kd.S_far (p := ⟨gb815, 0, none⟩) (Kd.S_types HO806.out BK815.out (by decide)) (fun _ hk => hk.2) (.slice Ao22 t809.length co22)) (fun _ hk => hk.2) (.slice Ao26 t812.length co26)) (fun _ h_ => h_.1))))) (Kd.S_lt (rs_ (Kd.S_mono (Kd.S_far (p := ⟨gb815, 1, none⟩) (Kd.S_far (p := ⟨gb815, 0, none⟩) (Kd.S_types HO814.out BK815.out (by decide)) (fun _ hk => hk.2) (.slice Ao22 t809.length co22)) (fun _ hk => hk.2) (.slice Ao26 t812.length co26)) (fun _ h_ => h_.1))))) (below_size (b3_ HB.out GE807.out GE808.out GE815.out))); have n8_ := am_ (blk_below (g := gb807) (o := .cells #[.slice Ao13 t795.length co13, .slice Ao16 t798.length co16] 27 (0, 0)) (by refine rb_ ?_; refine blk_far ?_ NB807_815.out _; refine rb_ ?_; refine blk_far ?_ NB807_815.out _; refine rb_ ?_; exact BK807.out) hb); have n9_ := am_ (blk_below (g := gb808) (o := .cells #[.slice Ao17 t801.length co17, .slice Ao19 t804.length co19] 27 (0, 0)) (by refine rb_ ?_; refine blk_far ?_ NB808_815.out _; refine rb_ ?_; refine blk_far ?_ NB808_815.out _; refine rb_ ?_; exact BK808.out) hb); have n10_ := am_ (blk_below (g := gb815) (o := .cells #[.slice Ao22 t809.length co22, .slice Ao26 t812.length co26] 27 (0, 0)) (by refine rb_ ?_; refine blk_put (cs := #[.slice Ao22 t809.length co22, .slice none 0 0]) ?_ 1 _ rfl; refine rb_ ?_; refine blk_put (cs := #[.slice none 0 0, .slice none 0 0]) ?_ 0 _ rfl; refine rb_ ?_; exact BK815.out) hb); have n11_ := am_ (below_step (b3_ HB.out GE807.out GE808.out GE815.out) hb); clear HO797; clear HO800; clear HO803; clear HO806; clear HO811; clear HO814; clear BK807; clear BK808; clear BK815; clear HB; have HO797 := n0_; have HO800 := n1_; have HO803 := n2_; have HO806 := n3_; have HO811 := n4_; have HO814 := n5_; have HO818 := n6_; have HO821 := n7_; have BK807 := n8_; have BK808 := n9_; have BK815 := n10_; have HB := n11_; clear n0_ n1_ n2_ n3_ n4_ n5_ n6_ n7_ n8_ n9_ n10_ n11_; (try clear hb); (try clear hb2); (try clear hk); (try clear hi); (try clear ho0); (try clear ho1)) | ((with_reducible refine gate_dst (N := 6) rfl ?_); refine box_event ?hg (N := 6) ?hd (cs := #[.slice none 0 0, .slice none 0 0]) (t := 27) ?hr ?_; (case hd => rfl); (case hg => rfl); (case hr => first | (go_simp; done) | (go_simp; rfl)); intro gb822 hg w29 hbox hb; have n0_ := am_ (Kd.R_below (rr_ HO797.out) hb); have n1_ := am_ (Kd.S_below (rs_ HO800.out) hb); have n2_ := am_ (Kd.R_below (rr_ HO803.out) hb); have n3_ := am_ (Kd.S_below (rs_ HO806.out) hb); have n4_ := am_ (Kd.R_below (rr_ HO811.out) hb); have n5_ := am_ (Kd.S_below (rs_ HO814.out) hb); have n6_ := am_ (Kd.R_below (rr_ HO818.out) hb); have n7_ := am_ (Kd.S_below (rs_ HO821.out) hb); have n8_ := am_ (blk_below (rb_ BK807.out) hb); have n9_ := am_ (blk_below (rb_ BK808.out) hb); have n10_ := am_ (blk_below (rb_ BK815.out) hb); have n11_ := am_ (below_step (b3_ HB.out GE807.out GE808.out GE815.out) hb); have n12_ := am_ (hbox); have n13_ := am_ ((by rw [hg]; exact (below_size (b3_ HB.out GE807.out GE808.out GE815.out)) : w.heap.size ≤ gb822)); have n14_ := am_ ((by rw [hg]; exact (below_size (b3_ HB.out GE807.out GE808.out GE815.out)) : w.heap.size ≤ gb822)); have n15_ := am_ ((by rw [hg]; exact Nat.ne_of_lt (blk_lt (rb_ BK807.out)) : gb807 ≠ gb822)); have n16_ := am_ ((by rw [hg]; exact Nat.ne_of_gt (blk_lt (rb_ BK807.out)) : gb822 ≠ gb807)); have n17_ := am_ ((by rw [hg]; exact Nat.ne_of_lt (blk_lt (rb_ BK808.out)) : gb808 ≠ gb822)); have n18_ := am_ ((by rw [hg]; exact Nat.ne_of_gt (blk_lt (rb_ BK808.out)) : gb822 ≠ gb808)); have n19_ := am_ ((by rw [hg]; exact Nat.ne_of_lt (blk_lt (rb_ BK815.out)) : gb815 ≠ gb822)); have n20_ := am_ ((by rw [hg]; exact Nat.ne_of_gt (blk_lt (rb_ BK815.out)) : gb822 ≠ gb815)); clear HO797; clear HO800; clear HO803; clear HO806; clear HO811; clear HO814; clear HO818; clear HO821; clear BK807; clear BK808; clear BK815; clear HB; have HO797 := n0_; have HO800 := n1_; have HO803 := n2_; have HO806 := n3_; have HO811 := n4_; have HO814 := n5_; have HO818 := n6_; have HO821 := n7_; have BK807 := n8_; have BK808 := n9_; have BK815 := n10_; have HB := n11_; have BK822 := n12_; have GW822 := n13_; have GE822 := n14_; have NB807_822 := n15_; have NB822_807 := n16_; have NB808_822 := n17_; have NB822_808 := n18_; have NB815_822 := n19_; have NB822_815 := n20_; clear n0_ n1_ n2_ n3_ n4_ n5_ n6_ n7_ n8_ n9_ n10_ n11_ n12_ n13_ n14_ n15_ n16_ n17_ n18_ n19_ n20_; clear hb hbox hg; obtain ⟨Ao30, co30, eo30⟩ := Kd.R_slice HO818.out; subst eo30; have hnb31 := NB822_807.out; have hnc31 := NB807_822.out; have hnb32 := NB822_808.out; have hnc32 := NB808_822.out; have hnb33 := NB822_815.out; have hnc33 := NB815_822.out; have hcz34_0 : w29.cell? ⟨gb822, 0, none⟩ = some (.slice none 0 0) := (blk_cell BK822.out 0).trans rfl; have hcz34_1 : w29.cell? ⟨gb822, 1, none⟩ = some (.slice none 0 0) := (blk_cell BK822.out 1).trans rfl; have hfz34_0 := blk_frozen BK822.out 0; have hfz34_1 := blk_frozen BK822.out 1; obtain ⟨Ao35, co35, eo35⟩ := Kd.S_slice HO821.out; subst eo35; have hcz36_0 : w29.cell? ⟨gb807, 0, none⟩ = some (.slice Ao13 t795.length co13) := (blk_cell BK807.out 0).trans rfl; have hcz36_1 : w29.cell? ⟨gb807, 1, none⟩ = some (.slice Ao16 t798.length co16) := (blk_cell BK807.out 1).trans rfl; have hfz36_0 := blk_frozen BK807.out 0; have hfz36_1 := blk_frozen BK807.out 1; have hcz37_0 : w29.cell? ⟨gb808, 0, none⟩ = some (.slice Ao17 t801.length co17) := (blk_cell BK808.out 0).trans rfl; have hcz37_1 : w29.cell? ⟨gb808, 1, none⟩ = some (.slice Ao19 t804.length co19) := (blk_cell BK808.out 1).trans rfl; have hfz37_0 := blk_frozen BK808.out 0; have hfz37_1 := blk_frozen BK808.out 1) | ((with_reducible refine gate_callee (f := 30) rfl ?_); refine gL_ (some 25) Try.func30 #[.agg #[.slice Ao13 t795.length co13, .slice Ao16 t798.length co16], .agg #[.slice Ao17 t801.length co17, .slice Ao19 t804.length co19]] ?_; (with_reducible refine (impl_DifferWord.calls _ _ t795 _ _ t798 _ _ t801 _ _ t804 t823 t824 _ ?side1 ?side2 ?side3 ?side4 ?side5 ?side6 ?side7 ?side8 A7.out).mono ?_); (case side1 => refine (Kd.R_reads' (e := 4) (base := w.heap.size) (ok := fun k_ => ((some k_ ≠ (.slice Ao17 t801.length co17 : Value).ownBlock ∧ some k_ ≠ (.slice Ao22 t809.length co22 : Value).ownBlock) ∧ some k_ ≠ (.slice Ao30 t816.length co30 : Value).ownBlock)) (n := t795.length) (c := co13) ?_).2.2; exact (rr_ (Kd.R_mono (Kd.R_far (p := ⟨gb822, 1, none⟩) (Kd.R_far (p := ⟨gb822, 0, none⟩) (Kd.R_types HO797.out BK822.out (by decide)) (fun _ hk => hk.2) (.slice Ao30 t816.length co30)) (fun _ hk => hk.2) (.slice Ao35 t819.length co35)) (fun _ h_ => h_.1)))); (case side2 => exact (Kd.R_reads' HO797.out).2.1); (case side3 => refine (Kd.S_reads' (e := 67) (base := w.heap.size) (ok := fun k_ => ((some k_ ≠ (.slice Ao19 t804.length co19 : Value).ownBlock ∧ some k_ ≠ (.slice Ao26 t812.length co26 : Value).ownBlock) ∧ some k_ ≠ (.slice Ao35 t819.length co35 : Value).ownBlock)) (n := t798.length) (c := co16) ?_).2.2; exact (rs_ (Kd.S_mono (Kd.S_far (p := ⟨gb822, 1, none⟩) (Kd.S_far (p := ⟨gb822, 0, none⟩) (Kd.S_types HO800.out BK822.out (by decide)) (fun _ hk => hk.2) (.slice Ao30 t816.length co30)) (fun _ hk => hk.2) (.slice Ao35 t819.length co35)) (fun _ h_ => h_.1)))); (case side4 => exact (Kd.S_reads' HO800.out).2.1); (case side5 => refine (Kd.R_reads' (e := 4) (base := w.heap.size) (ok := fun k_ => ((some k_ ≠ (.slice Ao13 t795.length co13 : Value).ownBlock ∧ some k_ ≠ (.slice Ao22 t809.length co22 : Value).ownBlock) ∧ some k_ ≠ (.slice Ao30 t816.length co30 : Value).ownBlock)) (n := t801.length) (c := co17) ?_).2.2; exact (rr_ (Kd.R_mono (Kd.R_far (p := ⟨gb822, 1, none⟩) (Kd.R_far (p := ⟨gb822, 0, none⟩) (Kd.R_types HO803.out BK822.out (by decide)) (fun _ hk => hk.2) (.slice Ao30 t816.length co30)) (fun _ hk => hk.2) (.slice Ao35 t819.length co35)) (fun _ h_ => h_.1)))); (case side6 => exact (Kd.R_reads' HO803.out).2.1); (case side7 => refine (Kd.S_reads' (e := 67) (base := w.heap.size) (ok := fun k_ => ((some k_ ≠ (.slice Ao16 t798.length co16 : Value).ownBlock ∧ some k_ ≠ (.slice Ao26 t812.length co26 : Value).ownBlock) ∧ some k_ ≠ (.slice Ao35 t819.length co35 : Value).ownBlock)) (n := t804.length) (c := co19) ?_).2.2; exact (rs_ (Kd.S_mono (Kd.S_far (p := ⟨gb822, 1, none⟩) (Kd.S_far (p := ⟨gb822, 0, none⟩) (Kd.S_types HO806.out BK822.out (by decide)) (fun _ hk => hk.2) (.slice Ao30 t816.length co30)) (fun _ hk => hk.2) (.slice Ao35 t819.length co35)) (fun _ h_ => h_.1)))); (case side8 => exact (Kd.S_reads' HO806.out).2.1); rintro e w38 ⟨rfl, hb⟩; refine ⟨_, rfl, ?_⟩; have n0_ := am_ (Kd.R_below (rr_ (Kd.R_mono (Kd.R_far (p := ⟨gb822, 1, none⟩) (Kd.R_far (p := ⟨gb822, 0, none⟩) (Kd.R_types HO797.out BK822.out (by decide)) (fun _ hk => hk.2) (.slice Ao30 t816.length co30)) (fun _ hk => hk.2) (.slice Ao35 t819.length co35)) (fun _ h_ => h_.1))) hb); have n1_ := am_ (Kd.S_below (rs_ (Kd.S_mono (Kd.S_far (p := ⟨gb822, 1, none⟩) (Kd.S_far (p := ⟨gb822, 0, none⟩) (Kd.S_types HO800.out BK822.out (by decide)) (fun _ hk => hk.2) (.slice Ao30 t816.length co30)) (fun _ hk => hk.2) (.slice Ao35 t819.length co35)) (fun _ h_ => h_.1))) hb); have n2_ := am_ (Kd.R_below (rr_ (Kd.R_mono (Kd.R_far (p := ⟨gb822, 1, none⟩) (Kd.R_far (p := ⟨gb822, 0, none⟩) (Kd.R_types HO803.out BK822.out (by decide)) (fun _ hk => hk.2) (.slice Ao30 t816.length co30)) (fun _ hk => hk.2) (.slice Ao35 t819.length co35)) (fun _ h_ => h_.1))) hb); have n3_ := am_ (Kd.S_below (rs_ (Kd.S_mono (Kd.S_far (p := ⟨gb822, 1, none⟩) (Kd.S_far (p := ⟨gb822, 0, none⟩) (Kd.S_types HO806.out BK822.out (by decide)) (fun _ hk => hk.2) (.slice Ao30 t816.length co30)) (fun _ hk => hk.2) (.slice Ao35 t819.length co35)) (fun _ h_ => h_.1))) hb); have n4_ := am_ (Kd.R_below (rr_ (Kd.R_mono (Kd.R_far (p := ⟨gb822, 1, none⟩) (Kd.R_far (p := ⟨gb822, 0, none⟩) (Kd.R_types HO811.out BK822.out (by decide)) (fun _ hk => hk.2) (.slice Ao30 t816.length co30)) (fun _ hk => hk.2) (.slice Ao35 t819.length co35)) (fun _ h_ => h_.1))) hb); have n5_ := am_ (Kd.S_below (rs_ (Kd.S_mono (Kd.S_far (p := ⟨gb822, 1, none⟩) (Kd.S_far (p := ⟨gb822, 0, none⟩) (Kd.S_types HO814.out BK822.out (by decide)) (fun _ hk => hk.2) (.slice Ao30 t816.length co30)) (fun _ hk => hk.2) (.slice Ao35 t819.length co35)) (fun _ h_ => h_.1))) hb); have n6_ := am_ (Kd.R_below (rr_ (Kd.R_mono (Kd.R_far (p := ⟨gb822, 1, none⟩) (Kd.R_far (p := ⟨gb822, 0, none⟩) (Kd.R_types HO818.out BK822.out (by decide)) (fun _ hk => hk.2) (.slice Ao30 t816.length co30)) (fun _ hk => hk.2) (.slice Ao35 t819.length co35)) (fun _ h_ => h_.1))) hb); have n7_ := am_ (Kd.S_below (rs_ (Kd.S_mono (Kd.S_far (p := ⟨gb822, 1, none⟩) (Kd.S_far (p := ⟨gb822, 0, none⟩) (Kd.S_types HO821.out BK822.out (by decide)) (fun _ hk => hk.2) (.slice Ao30 t816.length co30)) (fun _ hk => hk.2) (.slice Ao35 t819.length co35)) (fun _ h_ => h_.1))) hb); have n8_ := am_ (blk_below (g := gb807) (o := .cells #[.slice Ao13 t795.length co13, .slice Ao16 t798.length co16] 27 (0, 0)) (by refine rb_ ?_; refine blk_far ?_ NB807_822.out _; refine rb_ ?_; refine blk_far ?_ NB807_822.out _; refine rb_ ?_; exact BK807.out) hb); have n9_ := am_ (blk_below (g := gb808) (o := .cells #[.slice Ao17 t801.length co17, .slice Ao19 t804.length co19] 27 (0, 0)) (by refine rb_ ?_; refine blk_far ?_ NB808_822.out _; refine rb_ ?_; refine blk_far ?_ NB808_822.out _; refine rb_ ?_; exact BK808.out) hb); have n10_ := am_ (blk_below (g := gb815) (o := .cells #[.slice Ao22 t809.length co22, .slice Ao26 t812.length co26] 27 (0, 0)) (by refine rb_ ?_; refine blk_far ?_ NB815_822.out _; refine rb_ ?_; refine blk_far ?_ NB815_822.out _; refine rb_ ?_; exact BK815.out) hb); have n11_ := am_ (blk_below (g := gb822) (o := .cells #[.slice Ao30 t816.length co30, .slice Ao35 t819.length co35] 27 (0, 0)) (by refine rb_ ?_; refine blk_put (cs := #[.slice Ao30 t816.length co30, .slice none 0 0]) ?_ 1 _ rfl; refine rb_ ?_; refine blk_put (cs := #[.slice none 0 0, .slice none 0 0]) ?_ 0 _ rfl; refine rb_ ?_; exact BK822.out) hb); have n12_ := am_ (below_step (b4_ HB.out GE807.out GE808.out GE815.out GE822.out) hb); clear HO797; clear HO800; clear HO803; clear HO806; clear HO811; clear HO814; clear HO818; clear HO821; clear BK807; clear BK808; clear BK815; clear BK822; clear HB; have HO797 := n0_; have HO800 := n1_; have HO803 := n2_; have HO806 := n3_; have HO811 := n4_; have HO814 := n5_; have HO818 := n6_; have HO821 := n7_; have BK807 := n8_; have BK808 := n9_; have BK815 := n10_; have BK822 := n11_; have HB := n12_; clear n0_ n1_ n2_ n3_ n4_ n5_ n6_ n7_ n8_ n9_ n10_ n11_ n12_; (try clear hb); (try clear hb2); (try clear hk); (try clear hi); have hcz39_0 : w38.cell? ⟨gb807, 0, none⟩ = some (.slice Ao13 t795.length co13) := (blk_cell BK807.out 0).trans rfl; have hcz39_1 : w38.cell? ⟨gb807, 1, none⟩ = some (.slice Ao16 t798.length co16) := (blk_cell BK807.out 1).trans rfl; have hfz39_0 := blk_frozen BK807.out 0; have hfz39_1 := blk_frozen BK807.out 1; have hcz40_0 : w38.cell? ⟨gb808, 0, none⟩ = some (.slice Ao17 t801.length co17) := (blk_cell BK808.out 0).trans rfl; have hcz40_1 : w38.cell? ⟨gb808, 1, none⟩ = some (.slice Ao19 t804.length co19) := (blk_cell BK808.out 1).trans rfl; have hfz40_0 := blk_frozen BK808.out 0; have hfz40_1 := blk_frozen BK808.out 1) | ((with_reducible refine gate_callee (f := 31) rfl ?_); refine gL_ (some 31) Try.func31 #[.agg #[.slice Ao13 t795.length co13, .slice Ao16 t798.length co16], .agg #[.slice Ao17 t801.length co17, .slice Ao19 t804.length co19]] ?_; (with_reducible refine (spec_DifferWord.calls k _ _ t795 _ _ t798 _ _ t801 _ _ t804 t825 t826 _ ?side1 ?side2 ?side3 ?side4 ?side5 ?side6 ?side7 ?side8 A8.out).mono ?_); (case side1 => exact rc_ ((Kd.R_reads' HO797.out).2.2)); (case side2 => exact (Kd.R_reads' HO797.out).2.1); (case side3 => exact rc_ ((Kd.S_reads' HO800.out).2.2)); (case side4 => exact (Kd.S_reads' HO800.out).2.1); (case side5 => exact rc_ ((Kd.R_reads' HO803.out).2.2)); (case side6 => exact (Kd.R_reads' HO803.out).2.1); (case side7 => exact rc_ ((Kd.S_reads' HO806.out).2.2)); (case side8 => exact (Kd.S_reads' HO806.out).2.1); rintro e w41 ⟨rfl, hb⟩; refine ⟨_, rfl, ?_⟩; have n0_ := am_ (Kd.R_below (rr_ HO797.out) hb); have n1_ := am_ (Kd.S_below (rs_ HO800.out) hb); have n2_ := am_ (Kd.R_below (rr_ HO803.out) hb); have n3_ := am_ (Kd.S_below (rs_ HO806.out) hb); have n4_ := am_ (Kd.R_below (rr_ HO811.out) hb); have n5_ := am_ (Kd.S_below (rs_ HO814.out) hb); have n6_ := am_ (Kd.R_below (rr_ HO818.out) hb); have n7_ := am_ (Kd.S_below (rs_ HO821.out) hb); have n8_ := am_ (blk_below (rb_ BK807.out) hb); have n9_ := am_ (blk_below (rb_ BK808.out) hb); have n10_ := am_ (blk_below (rb_ BK815.out) hb); have n11_ := am_ (blk_below (rb_ BK822.out) hb); have n12_ := am_ (below_step (b4_ HB.out GE807.out GE808.out GE815.out GE822.out) hb); clear HO797; clear HO800; clear HO803; clear HO806; clear HO811; clear HO814; clear HO818; clear HO821; clear BK807; clear BK808; clear BK815; clear BK822; clear HB; have HO797 := n0_; have HO800 := n1_; have HO803 := n2_; have HO806 := n3_; have HO811 := n4_; have HO814 := n5_; have HO818 := n6_; have HO821 := n7_; have BK807 := n8_; have BK808 := n9_; have BK815 := n10_; have BK822 := n11_; have HB := n12_; clear n0_ n1_ n2_ n3_ n4_ n5_ n6_ n7_ n8_ n9_ n10_ n11_ n12_; (try clear hb); (try clear hb2); (try clear hk); (try clear hi)))
  (try simp only [Act.put, List.setIfInBounds_toArray, List.set_cons_zero, List.set_cons_succ])
  go_cut [55] (fun v55 wc => ∃ (kq : Nat) (x55_8 : Bool), v55 = .bool x55_8 ∧ Aside0 (laws_FnMinimal.j0 kq t823 t824 x55_8 t795 t798 t801 t804 t809 t812 t816 t819 = some r) ∧ Aside0 (kq ≤ k) ∧ Aside0 (Kd.R Kd.bool 4 wc w.heap.size (fun k_ => some k_ ≠ ((.slice Ao17 t801.length co17) : Value).ownBlock ∧ some k_ ≠ ((.slice Ao22 t809.length co22) : Value).ownBlock ∧ some k_ ≠ ((.slice Ao30 t816.length co30) : Value).ownBlock) (.slice Ao13 t795.length co13) t795) ∧ Aside0 (Kd.S (Kd.slice 3 (Kd.int .i64)) 67 wc w.heap.size (fun k_ => some k_ ≠ ((.slice Ao19 t804.length co19) : Value).ownBlock ∧ some k_ ≠ ((.slice Ao26 t812.length co26) : Value).ownBlock ∧ some k_ ≠ ((.slice Ao35 t819.length co35) : Value).ownBlock) (.slice Ao16 t798.length co16) t798) ∧ Aside0 (Kd.R Kd.bool 4 wc w.heap.size (fun k_ => some k_ ≠ ((.slice Ao13 t795.length co13) : Value).ownBlock ∧ some k_ ≠ ((.slice Ao22 t809.length co22) : Value).ownBlock ∧ some k_ ≠ ((.slice Ao30 t816.length co30) : Value).ownBlock) (.slice Ao17 t801.length co17) t801) ∧ Aside0 (Kd.S (Kd.slice 3 (Kd.int .i64)) 67 wc w.heap.size (fun k_ => some k_ ≠ ((.slice Ao16 t798.length co16) : Value).ownBlock ∧ some k_ ≠ ((.slice Ao26 t812.length co26) : Value).ownBlock ∧ some k_ ≠ ((.slice Ao35 t819.length co35) : Value).ownBlock) (.slice Ao19 t804.length co19) t804) ∧ Aside0 (Kd.R Kd.bool 4 wc w.heap.size (fun k_ => some k_ ≠ ((.slice Ao13 t795.length co13) : Value).ownBlock ∧ some k_ ≠ ((.slice Ao17 t801.length co17) : Value).ownBlock ∧ some k_ ≠ ((.slice Ao30 t816.length co30) : Value).ownBlock) (.slice Ao22 t809.length co22) t809) ∧ Aside0 (Kd.S (Kd.slice 3 (Kd.int .i64)) 67 wc w.heap.size (fun k_ => some k_ ≠ ((.slice Ao16 t798.length co16) : Value).ownBlock ∧ some k_ ≠ ((.slice Ao19 t804.length co19) : Value).ownBlock ∧ some k_ ≠ ((.slice Ao35 t819.length co35) : Value).ownBlock) (.slice Ao26 t812.length co26) t812) ∧ Aside0 (Kd.R Kd.bool 4 wc w.heap.size (fun k_ => some k_ ≠ ((.slice Ao13 t795.length co13) : Value).ownBlock ∧ some k_ ≠ ((.slice Ao17 t801.length co17) : Value).ownBlock ∧ some k_ ≠ ((.slice Ao22 t809.length co22) : Value).ownBlock) (.slice Ao30 t816.length co30) t816) ∧ Aside0 (Kd.S (Kd.slice 3 (Kd.int .i64)) 67 wc w.heap.size (fun k_ => some k_ ≠ ((.slice Ao16 t798.length co16) : Value).ownBlock ∧ some k_ ≠ ((.slice Ao19 t804.length co19) : Value).ownBlock ∧ some k_ ≠ ((.slice Ao26 t812.length co26) : Value).ownBlock) (.slice Ao35 t819.length co35) t819) ∧ Aside0 (wc.heap[gb807]? = some (.cells #[(.slice Ao13 t795.length co13), (.slice Ao16 t798.length co16)] 27 (0, 0))) ∧ Aside0 (wc.heap[gb808]? = some (.cells #[(.slice Ao17 t801.length co17), (.slice Ao19 t804.length co19)] 27 (0, 0))) ∧ Aside0 (wc.heap[gb815]? = some (.cells #[(.slice Ao22 t809.length co22), (.slice Ao26 t812.length co26)] 27 (0, 0))) ∧ Aside0 (wc.heap[gb822]? = some (.cells #[(.slice Ao30 t816.length co30), (.slice Ao35 t819.length co35)] 27 (0, 0))) ∧ Aside0 (Below w.heap.size w wc))
  case first =>
   have H := HC9.out
   clear HC9
   by_cases c42 : (t824 != t826) = true
   ·rw [if_pos c42] at H
    have c42b0 : (t824 != t826) = true := c42
    (try (have c42b1 : decide (t824 = t826) = false := by simpa using c42))
    (try (have c42b2 : (t824 == t826) = false := by simpa using c42))
    (try (have c42b3 : ¬ (t824 = t826) := by simpa using c42))
    clear c42
    (first | rw [c42b0] | (simp only [i64_w, i32_w]; rw [c42b0]) | skip)
    have H' := am_ H
    clear H
    try go_wp2
    replace HO797 := am_ (Kd.R_drew HO797.out)
    replace HO800 := am_ (Kd.S_drew HO800.out)
    replace HO803 := am_ (Kd.R_drew HO803.out)
    replace HO806 := am_ (Kd.S_drew HO806.out)
    replace HO811 := am_ (Kd.R_drew HO811.out)
    replace HO814 := am_ (Kd.S_drew HO814.out)
    replace HO818 := am_ (Kd.R_drew HO818.out)
    replace HO821 := am_ (Kd.S_drew HO821.out)
    replace BK807 := am_ (blk_drew BK807.out)
    replace BK808 := am_ (blk_drew BK808.out)
    replace BK815 := am_ (blk_drew BK815.out)
    replace BK822 := am_ (blk_drew BK822.out)
    replace HB := am_ (below_drew1 HB.out)
    refine start_ (n := 22) (S := fun w' => True) (ds := []) (bl 22 0) (by kernel_rfl) rfl rfl trivial (fun hHeld => ?_); refine with_tabW laws_FnMinimal.tab8 laws_FnMinimal.bits8 (fun HT_ HW_ => ?_)
    generalize w41.drew = w43 at HO797 HO800 HO803 HO806 HO811 HO814 HO818 HO821 BK807 BK808 BK815 BK822 HB hHeld ⊢
    refine pu_ 0 34 (bl 22 1) HT_ ?_
    refine pu_ 1 35 (bl 22 3) HT_ ?_
    refine pu_ 2 36 (bl 22 7) HT_ ?_
    refine pu_ 3 37 (bl 22 15) HT_ ?_
    refine pz_ 4 38 (bl 22 31) HT_ ?_
    refine pz_ 5 39 (bl 22 63) HT_ ?_
    refine pz_ 6 40 (bl 22 127) HT_ ?_
    refine pu_ 7 41 (bl 22 255) HT_ ?_
    refine pu_ 8 42 (bl 22 511) HT_ ?_
    refine pz_ 9 43 (bl 22 1023) HT_ ?_
    refine pz_ 10 44 (bl 22 2047) HT_ ?_
    refine pz_ 11 45 (bl 22 4095) HT_ ?_
    refine pz_ 12 46 (bl 22 8191) HT_ ?_
    refine pz_ 13 47 (bl 22 16383) HT_ ?_
    refine pu_ 14 48 (bl 22 32767) HT_ ?_
    refine pu_ 15 49 (bl 22 65535) HT_ ?_
    refine pz_ 16 50 (bl 22 131071) HT_ ?_
    refine pz_ 17 51 (bl 22 262143) HT_ ?_
    refine pz_ 18 52 (bl 22 524287) HT_ ?_
    refine pz_ 19 53 (bl 22 1048575) HT_ ?_
    refine pz_ 20 54 (bl 22 2097151) HT_ ?_
    refine pu_ 21 55 (bl 22 4194303) HT_ ?_
    refine done_ (done_of HT_.out (by kernel_rfl)) ?_
    try go_wp2
    go_meet
    case rel => exact ⟨_, (true), (by first | rfl | (simp; done) | (simp [*]; done)), H', ⟨by first | omega | exact Nat.le_refl _⟩, ⟨by refine rr_ ?_; exact Kd.R_mono HO797.out (fun _ hk => ⟨hk.1.1, ⟨hk.1.2, hk.2⟩⟩)⟩, ⟨by refine rs_ ?_; exact Kd.S_mono HO800.out (fun _ hk => ⟨hk.1.1, ⟨hk.1.2, hk.2⟩⟩)⟩, ⟨by refine rr_ ?_; exact Kd.R_mono HO803.out (fun _ hk => ⟨hk.1.1, ⟨hk.1.2, hk.2⟩⟩)⟩, ⟨by refine rs_ ?_; exact Kd.S_mono HO806.out (fun _ hk => ⟨hk.1.1, ⟨hk.1.2, hk.2⟩⟩)⟩, ⟨by refine rr_ ?_; exact Kd.R_mono HO811.out (fun _ hk => ⟨hk.1.1.2, ⟨hk.1.2, hk.2⟩⟩)⟩, ⟨by refine rs_ ?_; exact Kd.S_mono HO814.out (fun _ hk => ⟨hk.1.1.2, ⟨hk.1.2, hk.2⟩⟩)⟩, ⟨by refine rr_ ?_; exact Kd.R_mono HO818.out (fun _ hk => ⟨hk.1.1.2, ⟨hk.1.2, hk.2⟩⟩)⟩, ⟨by refine rs_ ?_; exact Kd.S_mono HO821.out (fun _ hk => ⟨hk.1.1.2, ⟨hk.1.2, hk.2⟩⟩)⟩, ⟨by refine rb_ ?_; exact BK807.out⟩, ⟨by refine rb_ ?_; exact BK808.out⟩, ⟨by refine rb_ ?_; exact BK815.out⟩, ⟨by refine rb_ ?_; exact BK822.out⟩, ⟨by exact zp40_0_ HB.out GE807.out GE808.out GE815.out GE822.out⟩⟩
   ·rw [if_neg c42] at H
    have c42b0 : (t824 != t826) = false := by simpa using c42
    (try (have c42b1 : decide (t824 = t826) = true := by simpa using c42))
    (try (have c42b2 : (t824 == t826) = true := by simpa using c42))
    clear c42
    (first | rw [c42b0] | (simp only [i64_w, i32_w]; rw [c42b0]) | skip)
    by_cases c44 : t823.toList = t825.toList
    ·rw [if_pos c44] at H
     have c44b0 : (t823.toList == t825.toList) = true := beq_iff_eq.mpr c44
     have c44b1 : (t823.toList != t825.toList) = false := bne_eq_false_iff_eq.mpr c44
     clear c44
     replace H := Option.bind_eq_some_iff.mp H
     obtain ⟨⟨t827, t830⟩, A450, H⟩ := H
     have A45 := am_ A450
     clear A450
     replace H := Option.bind_eq_some_iff.mp H
     obtain ⟨t833, A460, H⟩ := H
     have A46 := am_ A460
     clear A460
     by_cases c47 : t833 = true
     ·subst c47
      have H1 : ((impl_MinimizeDfa.f t809 t812).bind fun bt834 => ((spec_EqualDfa.f k bt834.1 bt834.2 t809 t812).bind fun t840 => (laws_FnMinimal.j0 k t823 t824 (!t840) t795 t798 t801 t804 t809 t812 t816 t819))) = some r := by rw [if_pos rfl] at H; exact H
      clear H
      have H := H1
      clear H1
      replace H := Option.bind_eq_some_iff.mp H
      obtain ⟨⟨t834, t837⟩, A480, H⟩ := H
      have A48 := am_ A480
      clear A480
      replace H := Option.bind_eq_some_iff.mp H
      obtain ⟨t840, A490, H⟩ := H
      have A49 := am_ A490
      clear A490
      have H' := am_ H
      clear H
      try go_wp2
      replace HO797 := am_ (Kd.R_drew HO797.out)
      replace HO800 := am_ (Kd.S_drew HO800.out)
      replace HO803 := am_ (Kd.R_drew HO803.out)
      replace HO806 := am_ (Kd.S_drew HO806.out)
      replace HO811 := am_ (Kd.R_drew HO811.out)
      replace HO814 := am_ (Kd.S_drew HO814.out)
      replace HO818 := am_ (Kd.R_drew HO818.out)
      replace HO821 := am_ (Kd.S_drew HO821.out)
      replace BK807 := am_ (blk_drew BK807.out)
      replace BK808 := am_ (blk_drew BK808.out)
      replace BK815 := am_ (blk_drew BK815.out)
      replace BK822 := am_ (blk_drew BK822.out)
      replace HB := am_ (below_drew1 HB.out)
      refine start_ (n := 22) (S := fun w' => w'.cell? ⟨gb815, 0, none⟩ = some (.slice Ao22 t809.length co22) ∧ w'.cell? ⟨gb815, 1, none⟩ = some (.slice Ao26 t812.length co26) ∧ w'.cell? ⟨gb807, 0, none⟩ = some (.slice Ao13 t795.length co13) ∧ w'.cell? ⟨gb807, 1, none⟩ = some (.slice Ao16 t798.length co16)) (ds := []) (bl 22 0) (by kernel_rfl) rfl rfl ⟨(blk_cell BK815.out 0).trans rfl, (blk_cell BK815.out 1).trans rfl, (blk_cell BK807.out 0).trans rfl, (blk_cell BK807.out 1).trans rfl⟩ (fun hHeld => ?_); refine with_tabW laws_FnMinimal.tab8 laws_FnMinimal.bits8 (fun HT_ HW_ => ?_)
      generalize w41.drew = w50 at HO797 HO800 HO803 HO806 HO811 HO814 HO818 HO821 BK807 BK808 BK815 BK822 HB hHeld ⊢
      refine pu_ 0 34 (bl 22 1) HT_ ?_
      refine pu_ 1 35 (bl 22 3) HT_ ?_
      refine pu_ 2 36 (bl 22 7) HT_ ?_
      refine pu_ 3 37 (bl 22 15) HT_ ?_
      refine pu_ 4 38 (bl 22 31) HT_ ?_
      refine pu_ 5 39 (bl 22 63) HT_ ?_
      refine pu_ 6 40 (bl 22 127) HT_ ?_
      refine pu_ 7 41 (bl 22 255) HT_ ?_
      refine pu_ 8 42 (bl 22 511) HT_ ?_
      refine tk_ 9 43 (bl 22 1023) HT_ HW_ hHeld ?_
      refine tk_ 10 44 (bl 22 2047) HT_ HW_ hHeld ?_
      refine one_ (i := 11) (N := some 45) (bl 22 4095) rfl rfl (one_of HT_.out (by kernel_rfl)) (by decide) (fun K hK => ?_)
      refine gO_ Try.func33 #[.agg #[.slice Ao13 t795.length co13, .slice Ao16 t798.length co16]] ?_
      with_reducible refine (spec_MinimizeDfa.calls k _ _ t795 _ _ t798 t827 t830 _ ?side1 ?side2 ?side3 ?side4 A45.out).mono ?_
      (case side1 => exact rc_ ((Kd.R_reads' HO797.out).2.2))
      (case side2 => exact (Kd.R_reads' HO797.out).2.1)
      (case side3 => exact rc_ ((Kd.S_reads' HO800.out).2.2))
      (case side4 => exact (Kd.S_reads' HO800.out).2.1)
      rintro e w51 ⟨v828, v831, rfl, ho0, ho1, hb⟩
      refine ⟨_, rfl, ?_⟩
      replace HO829 := am_ (Kd.R_lower (Kd.R_new' (Kd.R_new' (Kd.R_new' (Kd.R_new' ho0 (Kd.R_lt (rr_ HO797.out))) (Kd.R_lt (rr_ HO803.out))) (Kd.R_lt (rr_ HO811.out))) (Kd.R_lt (rr_ HO818.out))) (below_size (b4_ HB.out GE807.out GE808.out GE815.out GE822.out)))
      replace HO797 := am_ (Kd.R_elder' (rr_ HO797.out) (Kd.R_base ho0) hb)
      replace HO803 := am_ (Kd.R_elder' (rr_ HO803.out) (Kd.R_base ho0) hb)
      replace HO811 := am_ (Kd.R_elder' (rr_ HO811.out) (Kd.R_base ho0) hb)
      replace HO818 := am_ (Kd.R_elder' (rr_ HO818.out) (Kd.R_base ho0) hb)
      replace HO832 := am_ (Kd.S_lower (Kd.S_new' (Kd.S_new' (Kd.S_new' (Kd.S_new' ho1 (Kd.S_lt (rs_ HO800.out))) (Kd.S_lt (rs_ HO806.out))) (Kd.S_lt (rs_ HO814.out))) (Kd.S_lt (rs_ HO821.out))) (below_size (b4_ HB.out GE807.out GE808.out GE815.out GE822.out)))
      replace HO800 := am_ (Kd.S_elder' (rs_ HO800.out) (Kd.S_base ho1) hb)
      replace HO806 := am_ (Kd.S_elder' (rs_ HO806.out) (Kd.S_base ho1) hb)
      replace HO814 := am_ (Kd.S_elder' (rs_ HO814.out) (Kd.S_base ho1) hb)
      replace HO821 := am_ (Kd.S_elder' (rs_ HO821.out) (Kd.S_base ho1) hb)
      replace BK807 := am_ (blk_below (rb_ BK807.out) hb)
      replace BK808 := am_ (blk_below (rb_ BK808.out) hb)
      replace BK815 := am_ (blk_below (rb_ BK815.out) hb)
      replace BK822 := am_ (blk_below (rb_ BK822.out) hb)
      replace HB := am_ (below_step (b4_ HB.out GE807.out GE808.out GE815.out GE822.out) hb)
      (try clear hb)
      (try clear hb2)
      (try clear hk)
      (try clear hi)
      (try clear ho0)
      (try clear ho1)
      obtain ⟨Ao52, co52, eo52⟩ := Kd.R_slice HO829.out
      (first | subst eo52 | (injection eo52 with f1_ f2_ f3_; have f4_ := f1_.symm; have f5_ := f3_.symm; clear f1_ f2_ f3_; subst f4_; subst f5_))
      obtain ⟨Ao53, co53, eo53⟩ := Kd.S_slice HO832.out
      (first | subst eo53 | (injection eo53 with f1_ f2_ f3_; have f4_ := f1_.symm; have f5_ := f3_.symm; clear f1_ f2_ f3_; subst f4_; subst f5_))
      refine hK.out _ _ ⟨(blk_cell BK815.out 0).trans rfl, (blk_cell BK815.out 1).trans rfl, (blk_cell BK807.out 0).trans rfl, (blk_cell BK807.out 1).trans rfl⟩ (fun hHeld => ?_)
      clear hK K
      refine norm_ (a' := ?_) ?_ ?_
      rotate_left
      ·show Act.put _ (some 45) _ = _
       simp only [pn_, sz_, ss_, i64_w, i32_w]
       rfl
      refine one_ (i := 12) (N := some 46) (bl 22 8191) rfl rfl (one_of HT_.out (by kernel_rfl)) (by decide) (fun K hK => ?_)
      refine gO_ Try.func32 #[.agg #[.slice Ao22 t809.length co22, .slice Ao26 t812.length co26], .agg #[.slice Ao52 t827.length co52, .slice Ao53 t830.length co53]] ?_
      with_reducible refine (spec_EqualDfa.calls k _ _ t809 _ _ t812 _ _ t827 _ _ t830 true _ ?side1 ?side2 ?side3 ?side4 ?side5 ?side6 ?side7 ?side8 A46.out).mono ?_
      (case side1 => exact rc_ ((Kd.R_reads' HO811.out).2.2))
      (case side2 => exact (Kd.R_reads' HO811.out).2.1)
      (case side3 => exact rc_ ((Kd.S_reads' HO814.out).2.2))
      (case side4 => exact (Kd.S_reads' HO814.out).2.1)
      (case side5 => exact rc_ ((Kd.R_reads' HO829.out).2.2))
      (case side6 => exact (Kd.R_reads' HO829.out).2.1)
      (case side7 => exact rc_ ((Kd.S_reads' HO832.out).2.2))
      (case side8 => exact (Kd.S_reads' HO832.out).2.1)
      rintro e w54 ⟨rfl, hb⟩
      refine ⟨_, rfl, ?_⟩
      replace HO797 := am_ (Kd.R_below (rr_ HO797.out) hb)
      replace HO800 := am_ (Kd.S_below (rs_ HO800.out) hb)
      replace HO803 := am_ (Kd.R_below (rr_ HO803.out) hb)
      replace HO806 := am_ (Kd.S_below (rs_ HO806.out) hb)
      replace HO811 := am_ (Kd.R_below (rr_ HO811.out) hb)
      replace HO814 := am_ (Kd.S_below (rs_ HO814.out) hb)
      replace HO818 := am_ (Kd.R_below (rr_ HO818.out) hb)
      replace HO821 := am_ (Kd.S_below (rs_ HO821.out) hb)
      replace HO829 := am_ (Kd.R_below (rr_ HO829.out) hb)
      replace HO832 := am_ (Kd.S_below (rs_ HO832.out) hb)
      replace BK807 := am_ (blk_below (rb_ BK807.out) hb)
      replace BK808 := am_ (blk_below (rb_ BK808.out) hb)
      replace BK815 := am_ (blk_below (rb_ BK815.out) hb)
      replace BK822 := am_ (blk_below (rb_ BK822.out) hb)
      replace HB := am_ (below_step (b4_ HB.out GE807.out GE808.out GE815.out GE822.out) hb)
      (try clear hb)
      (try clear hb2)
      (try clear hk)
      (try clear hi)
      refine hK.out _ _ ⟨(blk_cell BK815.out 0).trans rfl, (blk_cell BK815.out 1).trans rfl, (blk_cell BK807.out 0).trans rfl, (blk_cell BK807.out 1).trans rfl⟩ (fun hHeld => ?_)
      clear hK K
      refine norm_ (a' := ?_) ?_ ?_
      rotate_left
      ·show Act.put _ (some 46) _ = _
       simp only [pn_, sz_, ss_, i64_w, i32_w]
       rfl
      refine pu_ 13 47 (bl 22 16383) HT_ ?_
      refine pu_ 14 48 (bl 22 32767) HT_ ?_
      refine pu_ 15 49 (bl 22 65535) HT_ ?_
      refine tk_ 16 50 (bl 22 131071) HT_ HW_ hHeld ?_
      refine tk_ 18 52 (bl 22 393215) HT_ HW_ hHeld ?_
      refine one_ (i := 17) (N := some 51) (bl 22 524287) rfl rfl (one_of HT_.out (by kernel_rfl)) (by decide) (fun K hK => ?_)
      refine gO_ Try.func29 #[.agg #[.slice Ao22 t809.length co22, .slice Ao26 t812.length co26]] ?_
      with_reducible refine (impl_MinimizeDfa.calls _ _ t809 _ _ t812 t834 t837 _ ?side1 ?side2 ?side3 ?side4 A48.out).mono ?_
      (case side1 => exact rc_ ((Kd.R_reads' HO811.out).2.2))
      (case side2 => exact (Kd.R_reads' HO811.out).2.1)
      (case side3 => exact rc_ ((Kd.S_reads' HO814.out).2.2))
      (case side4 => exact (Kd.S_reads' HO814.out).2.1)
      rintro e w55 ⟨v835, v838, rfl, ho0, ho1, hb⟩
      refine ⟨_, rfl, ?_⟩
      replace HO836 := am_ (Kd.R_lower (Kd.R_new' (Kd.R_new' (Kd.R_new' (Kd.R_new' (Kd.R_new' ho0 (Kd.R_lt (rr_ HO797.out))) (Kd.R_lt (rr_ HO803.out))) (Kd.R_lt (rr_ HO811.out))) (Kd.R_lt (rr_ HO818.out))) (Kd.R_lt (rr_ HO829.out))) (below_size (b4_ HB.out GE807.out GE808.out GE815.out GE822.out)))
      replace HO797 := am_ (Kd.R_elder' (rr_ HO797.out) (Kd.R_base ho0) hb)
      replace HO803 := am_ (Kd.R_elder' (rr_ HO803.out) (Kd.R_base ho0) hb)
      replace HO811 := am_ (Kd.R_elder' (rr_ HO811.out) (Kd.R_base ho0) hb)
      replace HO818 := am_ (Kd.R_elder' (rr_ HO818.out) (Kd.R_base ho0) hb)
      replace HO829 := am_ (Kd.R_elder' (rr_ HO829.out) (Kd.R_base ho0) hb)
      replace HO839 := am_ (Kd.S_lower (Kd.S_new' (Kd.S_new' (Kd.S_new' (Kd.S_new' (Kd.S_new' ho1 (Kd.S_lt (rs_ HO800.out))) (Kd.S_lt (rs_ HO806.out))) (Kd.S_lt (rs_ HO814.out))) (Kd.S_lt (rs_ HO821.out))) (Kd.S_lt (rs_ HO832.out))) (below_size (b4_ HB.out GE807.out GE808.out GE815.out GE822.out)))
      replace HO800 := am_ (Kd.S_elder' (rs_ HO800.out) (Kd.S_base ho1) hb)
      replace HO806 := am_ (Kd.S_elder' (rs_ HO806.out) (Kd.S_base ho1) hb)
      replace HO814 := am_ (Kd.S_elder' (rs_ HO814.out) (Kd.S_base ho1) hb)
      replace HO821 := am_ (Kd.S_elder' (rs_ HO821.out) (Kd.S_base ho1) hb)
      replace HO832 := am_ (Kd.S_elder' (rs_ HO832.out) (Kd.S_base ho1) hb)
      replace BK807 := am_ (blk_below (rb_ BK807.out) hb)
      replace BK808 := am_ (blk_below (rb_ BK808.out) hb)
      replace BK815 := am_ (blk_below (rb_ BK815.out) hb)
      replace BK822 := am_ (blk_below (rb_ BK822.out) hb)
      replace HB := am_ (below_step (b4_ HB.out GE807.out GE808.out GE815.out GE822.out) hb)
      (try clear hb)
      (try clear hb2)
      (try clear hk)
      (try clear hi)
      (try clear ho0)
      (try clear ho1)
      obtain ⟨Ao56, co56, eo56⟩ := Kd.R_slice HO836.out
      (first | subst eo56 | (injection eo56 with f1_ f2_ f3_; have f4_ := f1_.symm; have f5_ := f3_.symm; clear f1_ f2_ f3_; subst f4_; subst f5_))
      obtain ⟨Ao57, co57, eo57⟩ := Kd.S_slice HO839.out
      (first | subst eo57 | (injection eo57 with f1_ f2_ f3_; have f4_ := f1_.symm; have f5_ := f3_.symm; clear f1_ f2_ f3_; subst f4_; subst f5_))
      refine hK.out _ _ ⟨(blk_cell BK815.out 0).trans rfl, (blk_cell BK815.out 1).trans rfl, (blk_cell BK807.out 0).trans rfl, (blk_cell BK807.out 1).trans rfl⟩ (fun hHeld => ?_)
      clear hK K
      refine norm_ (a' := ?_) ?_ ?_
      rotate_left
      ·show Act.put _ (some 51) _ = _
       simp only [pn_, sz_, ss_, i64_w, i32_w]
       rfl
      refine one_ (i := 19) (N := some 53) (bl 22 1048575) rfl rfl (one_of HT_.out (by kernel_rfl)) (by decide) (fun K hK => ?_)
      refine gO_ Try.func32 #[.agg #[.slice Ao56 t834.length co56, .slice Ao57 t837.length co57], .agg #[.slice Ao22 t809.length co22, .slice Ao26 t812.length co26]] ?_
      with_reducible refine (spec_EqualDfa.calls k _ _ t834 _ _ t837 _ _ t809 _ _ t812 t840 _ ?side1 ?side2 ?side3 ?side4 ?side5 ?side6 ?side7 ?side8 A49.out).mono ?_
      (case side1 => exact rc_ ((Kd.R_reads' HO836.out).2.2))
      (case side2 => exact (Kd.R_reads' HO836.out).2.1)
      (case side3 => exact rc_ ((Kd.S_reads' HO839.out).2.2))
      (case side4 => exact (Kd.S_reads' HO839.out).2.1)
      (case side5 => exact rc_ ((Kd.R_reads' HO811.out).2.2))
      (case side6 => exact (Kd.R_reads' HO811.out).2.1)
      (case side7 => exact rc_ ((Kd.S_reads' HO814.out).2.2))
      (case side8 => exact (Kd.S_reads' HO814.out).2.1)
      rintro e w58 ⟨rfl, hb⟩
      refine ⟨_, rfl, ?_⟩
      replace HO797 := am_ (Kd.R_below (rr_ HO797.out) hb)
      replace HO800 := am_ (Kd.S_below (rs_ HO800.out) hb)
      replace HO803 := am_ (Kd.R_below (rr_ HO803.out) hb)
      replace HO806 := am_ (Kd.S_below (rs_ HO806.out) hb)
      replace HO811 := am_ (Kd.R_below (rr_ HO811.out) hb)
      replace HO814 := am_ (Kd.S_below (rs_ HO814.out) hb)
      replace HO818 := am_ (Kd.R_below (rr_ HO818.out) hb)
      replace HO821 := am_ (Kd.S_below (rs_ HO821.out) hb)
      replace HO829 := am_ (Kd.R_below (rr_ HO829.out) hb)
      replace HO832 := am_ (Kd.S_below (rs_ HO832.out) hb)
      replace HO836 := am_ (Kd.R_below (rr_ HO836.out) hb)
      replace HO839 := am_ (Kd.S_below (rs_ HO839.out) hb)
      replace BK807 := am_ (blk_below (rb_ BK807.out) hb)
      replace BK808 := am_ (blk_below (rb_ BK808.out) hb)
      replace BK815 := am_ (blk_below (rb_ BK815.out) hb)
      replace BK822 := am_ (blk_below (rb_ BK822.out) hb)
      replace HB := am_ (below_step (b4_ HB.out GE807.out GE808.out GE815.out GE822.out) hb)
      (try clear hb)
      (try clear hb2)
      (try clear hk)
      (try clear hi)
      refine hK.out _ _ ⟨(blk_cell BK815.out 0).trans rfl, (blk_cell BK815.out 1).trans rfl, (blk_cell BK807.out 0).trans rfl, (blk_cell BK807.out 1).trans rfl⟩ (fun hHeld => ?_)
      clear hK K
      refine norm_ (a' := ?_) ?_ ?_
      rotate_left
      ·show Act.put _ (some 53) _ = _
       simp only [pn_, sz_, ss_, i64_w, i32_w]
       rfl
      refine pu_ 20 54 (bl 22 2097151) HT_ ?_
      refine pu_ 21 55 (bl 22 4194303) HT_ ?_
      refine done_ (done_of HT_.out (by kernel_rfl)) ?_
      try go_wp2
      go_meet
      case rel => exact ⟨_, (!t840), (by first | rfl | (simp; done) | (simp [*]; done)), H', ⟨by first | omega | exact Nat.le_refl _⟩, ⟨by refine rr_ ?_; exact Kd.R_mono HO797.out (fun _ hk => ⟨hk.1.1.1.1, ⟨hk.1.1.1.2, hk.1.1.2⟩⟩)⟩, ⟨by refine rs_ ?_; exact Kd.S_mono HO800.out (fun _ hk => ⟨hk.1.1.1.1, ⟨hk.1.1.1.2, hk.1.1.2⟩⟩)⟩, ⟨by refine rr_ ?_; exact Kd.R_mono HO803.out (fun _ hk => ⟨hk.1.1.1.1, ⟨hk.1.1.1.2, hk.1.1.2⟩⟩)⟩, ⟨by refine rs_ ?_; exact Kd.S_mono HO806.out (fun _ hk => ⟨hk.1.1.1.1, ⟨hk.1.1.1.2, hk.1.1.2⟩⟩)⟩, ⟨by refine rr_ ?_; exact Kd.R_mono HO811.out (fun _ hk => ⟨hk.1.1.1.1.2, ⟨hk.1.1.1.2, hk.1.1.2⟩⟩)⟩, ⟨by refine rs_ ?_; exact Kd.S_mono HO814.out (fun _ hk => ⟨hk.1.1.1.1.2, ⟨hk.1.1.1.2, hk.1.1.2⟩⟩)⟩, ⟨by refine rr_ ?_; exact Kd.R_mono HO818.out (fun _ hk => ⟨hk.1.1.1.1.2, ⟨hk.1.1.1.2, hk.1.1.2⟩⟩)⟩, ⟨by refine rs_ ?_; exact Kd.S_mono HO821.out (fun _ hk => ⟨hk.1.1.1.1.2, ⟨hk.1.1.1.2, hk.1.1.2⟩⟩)⟩, ⟨by refine rb_ ?_; exact BK807.out⟩, ⟨by refine rb_ ?_; exact BK808.out⟩, ⟨by refine rb_ ?_; exact BK815.out⟩, ⟨by refine rb_ ?_; exact BK822.out⟩, ⟨by exact zp40_0_ HB.out GE807.out GE808.out GE815.out GE822.out⟩⟩
     ·replace c47 := Bool.eq_false_iff.mpr c47
      subst c47
      have H1 : (laws_FnMinimal.j0 k t823 t824 true t795 t798 t801 t804 t809 t812 t816 t819) = some r := by rw [if_neg (show ¬ (false = true) by decide)] at H; exact H
      clear H
      have H := H1
      clear H1
      have H' := am_ H
      clear H
      try go_wp2
      replace HO797 := am_ (Kd.R_drew HO797.out)
      replace HO800 := am_ (Kd.S_drew HO800.out)
      replace HO803 := am_ (Kd.R_drew HO803.out)
      replace HO806 := am_ (Kd.S_drew HO806.out)
      replace HO811 := am_ (Kd.R_drew HO811.out)
      replace HO814 := am_ (Kd.S_drew HO814.out)
      replace HO818 := am_ (Kd.R_drew HO818.out)
      replace HO821 := am_ (Kd.S_drew HO821.out)
      replace BK807 := am_ (blk_drew BK807.out)
      replace BK808 := am_ (blk_drew BK808.out)
      replace BK815 := am_ (blk_drew BK815.out)
      replace BK822 := am_ (blk_drew BK822.out)
      replace HB := am_ (below_drew1 HB.out)
      refine start_ (n := 22) (S := fun w' => w'.cell? ⟨gb815, 0, none⟩ = some (.slice Ao22 t809.length co22) ∧ w'.cell? ⟨gb815, 1, none⟩ = some (.slice Ao26 t812.length co26) ∧ w'.cell? ⟨gb807, 0, none⟩ = some (.slice Ao13 t795.length co13) ∧ w'.cell? ⟨gb807, 1, none⟩ = some (.slice Ao16 t798.length co16)) (ds := []) (bl 22 0) (by kernel_rfl) rfl rfl ⟨(blk_cell BK815.out 0).trans rfl, (blk_cell BK815.out 1).trans rfl, (blk_cell BK807.out 0).trans rfl, (blk_cell BK807.out 1).trans rfl⟩ (fun hHeld => ?_); refine with_tabW laws_FnMinimal.tab8 laws_FnMinimal.bits8 (fun HT_ HW_ => ?_)
      generalize w41.drew = w59 at HO797 HO800 HO803 HO806 HO811 HO814 HO818 HO821 BK807 BK808 BK815 BK822 HB hHeld ⊢
      refine pu_ 0 34 (bl 22 1) HT_ ?_
      refine pu_ 1 35 (bl 22 3) HT_ ?_
      refine pu_ 2 36 (bl 22 7) HT_ ?_
      refine pu_ 3 37 (bl 22 15) HT_ ?_
      refine pu_ 4 38 (bl 22 31) HT_ ?_
      refine pu_ 5 39 (bl 22 63) HT_ ?_
      refine pu_ 6 40 (bl 22 127) HT_ ?_
      refine pu_ 7 41 (bl 22 255) HT_ ?_
      refine pu_ 8 42 (bl 22 511) HT_ ?_
      refine tk_ 9 43 (bl 22 1023) HT_ HW_ hHeld ?_
      refine tk_ 10 44 (bl 22 2047) HT_ HW_ hHeld ?_
      refine one_ (i := 11) (N := some 45) (bl 22 4095) rfl rfl (one_of HT_.out (by kernel_rfl)) (by decide) (fun K hK => ?_)
      refine gO_ Try.func33 #[.agg #[.slice Ao13 t795.length co13, .slice Ao16 t798.length co16]] ?_
      with_reducible refine (spec_MinimizeDfa.calls k _ _ t795 _ _ t798 t827 t830 _ ?side1 ?side2 ?side3 ?side4 A45.out).mono ?_
      (case side1 => exact rc_ ((Kd.R_reads' HO797.out).2.2))
      (case side2 => exact (Kd.R_reads' HO797.out).2.1)
      (case side3 => exact rc_ ((Kd.S_reads' HO800.out).2.2))
      (case side4 => exact (Kd.S_reads' HO800.out).2.1)
      rintro e w60 ⟨v828, v831, rfl, ho0, ho1, hb⟩
      refine ⟨_, rfl, ?_⟩
      replace HO829 := am_ (Kd.R_lower (Kd.R_new' (Kd.R_new' (Kd.R_new' (Kd.R_new' ho0 (Kd.R_lt (rr_ HO797.out))) (Kd.R_lt (rr_ HO803.out))) (Kd.R_lt (rr_ HO811.out))) (Kd.R_lt (rr_ HO818.out))) (below_size (b4_ HB.out GE807.out GE808.out GE815.out GE822.out)))
      replace HO797 := am_ (Kd.R_elder' (rr_ HO797.out) (Kd.R_base ho0) hb)
      replace HO803 := am_ (Kd.R_elder' (rr_ HO803.out) (Kd.R_base ho0) hb)
      replace HO811 := am_ (Kd.R_elder' (rr_ HO811.out) (Kd.R_base ho0) hb)
      replace HO818 := am_ (Kd.R_elder' (rr_ HO818.out) (Kd.R_base ho0) hb)
      replace HO832 := am_ (Kd.S_lower (Kd.S_new' (Kd.S_new' (Kd.S_new' (Kd.S_new' ho1 (Kd.S_lt (rs_ HO800.out))) (Kd.S_lt (rs_ HO806.out))) (Kd.S_lt (rs_ HO814.out))) (Kd.S_lt (rs_ HO821.out))) (below_size (b4_ HB.out GE807.out GE808.out GE815.out GE822.out)))
      replace HO800 := am_ (Kd.S_elder' (rs_ HO800.out) (Kd.S_base ho1) hb)
      replace HO806 := am_ (Kd.S_elder' (rs_ HO806.out) (Kd.S_base ho1) hb)
      replace HO814 := am_ (Kd.S_elder' (rs_ HO814.out) (Kd.S_base ho1) hb)
      replace HO821 := am_ (Kd.S_elder' (rs_ HO821.out) (Kd.S_base ho1) hb)
      replace BK807 := am_ (blk_below (rb_ BK807.out) hb)
      replace BK808 := am_ (blk_below (rb_ BK808.out) hb)
      replace BK815 := am_ (blk_below (rb_ BK815.out) hb)
      replace BK822 := am_ (blk_below (rb_ BK822.out) hb)
      replace HB := am_ (below_step (b4_ HB.out GE807.out GE808.out GE815.out GE822.out) hb)
      (try clear hb)
      (try clear hb2)
      (try clear hk)
      (try clear hi)
      (try clear ho0)
      (try clear ho1)
      obtain ⟨Ao61, co61, eo61⟩ := Kd.R_slice HO829.out
      (first | subst eo61 | (injection eo61 with f1_ f2_ f3_; have f4_ := f1_.symm; have f5_ := f3_.symm; clear f1_ f2_ f3_; subst f4_; subst f5_))
      obtain ⟨Ao62, co62, eo62⟩ := Kd.S_slice HO832.out
      (first | subst eo62 | (injection eo62 with f1_ f2_ f3_; have f4_ := f1_.symm; have f5_ := f3_.symm; clear f1_ f2_ f3_; subst f4_; subst f5_))
      refine hK.out _ _ ⟨(blk_cell BK815.out 0).trans rfl, (blk_cell BK815.out 1).trans rfl, (blk_cell BK807.out 0).trans rfl, (blk_cell BK807.out 1).trans rfl⟩ (fun hHeld => ?_)
      clear hK K
      refine norm_ (a' := ?_) ?_ ?_
      rotate_left
      ·show Act.put _ (some 45) _ = _
       simp only [pn_, sz_, ss_, i64_w, i32_w]
       rfl
      refine one_ (i := 12) (N := some 46) (bl 22 8191) rfl rfl (one_of HT_.out (by kernel_rfl)) (by decide) (fun K hK => ?_)
      refine gO_ Try.func32 #[.agg #[.slice Ao22 t809.length co22, .slice Ao26 t812.length co26], .agg #[.slice Ao61 t827.length co61, .slice Ao62 t830.length co62]] ?_
      with_reducible refine (spec_EqualDfa.calls k _ _ t809 _ _ t812 _ _ t827 _ _ t830 false _ ?side1 ?side2 ?side3 ?side4 ?side5 ?side6 ?side7 ?side8 A46.out).mono ?_
      (case side1 => exact rc_ ((Kd.R_reads' HO811.out).2.2))
      (case side2 => exact (Kd.R_reads' HO811.out).2.1)
      (case side3 => exact rc_ ((Kd.S_reads' HO814.out).2.2))
      (case side4 => exact (Kd.S_reads' HO814.out).2.1)
      (case side5 => exact rc_ ((Kd.R_reads' HO829.out).2.2))
      (case side6 => exact (Kd.R_reads' HO829.out).2.1)
      (case side7 => exact rc_ ((Kd.S_reads' HO832.out).2.2))
      (case side8 => exact (Kd.S_reads' HO832.out).2.1)
      rintro e w63 ⟨rfl, hb⟩
      refine ⟨_, rfl, ?_⟩
      replace HO797 := am_ (Kd.R_below (rr_ HO797.out) hb)
      replace HO800 := am_ (Kd.S_below (rs_ HO800.out) hb)
      replace HO803 := am_ (Kd.R_below (rr_ HO803.out) hb)
      replace HO806 := am_ (Kd.S_below (rs_ HO806.out) hb)
      replace HO811 := am_ (Kd.R_below (rr_ HO811.out) hb)
      replace HO814 := am_ (Kd.S_below (rs_ HO814.out) hb)
      replace HO818 := am_ (Kd.R_below (rr_ HO818.out) hb)
      replace HO821 := am_ (Kd.S_below (rs_ HO821.out) hb)
      replace HO829 := am_ (Kd.R_below (rr_ HO829.out) hb)
      replace HO832 := am_ (Kd.S_below (rs_ HO832.out) hb)
      replace BK807 := am_ (blk_below (rb_ BK807.out) hb)
      replace BK808 := am_ (blk_below (rb_ BK808.out) hb)
      replace BK815 := am_ (blk_below (rb_ BK815.out) hb)
      replace BK822 := am_ (blk_below (rb_ BK822.out) hb)
      replace HB := am_ (below_step (b4_ HB.out GE807.out GE808.out GE815.out GE822.out) hb)
      (try clear hb)
      (try clear hb2)
      (try clear hk)
      (try clear hi)
      refine hK.out _ _ ⟨(blk_cell BK815.out 0).trans rfl, (blk_cell BK815.out 1).trans rfl, (blk_cell BK807.out 0).trans rfl, (blk_cell BK807.out 1).trans rfl⟩ (fun hHeld => ?_)
      clear hK K
      refine norm_ (a' := ?_) ?_ ?_
      rotate_left
      ·show Act.put _ (some 46) _ = _
       simp only [pn_, sz_, ss_, i64_w, i32_w]
       rfl
      refine pu_ 13 47 (bl 22 16383) HT_ ?_
      refine pu_ 14 48 (bl 22 32767) HT_ ?_
      refine pu_ 15 49 (bl 22 65535) HT_ ?_
      refine pz_ 16 50 (bl 22 131071) HT_ ?_
      refine pz_ 17 51 (bl 22 262143) HT_ ?_
      refine pz_ 18 52 (bl 22 524287) HT_ ?_
      refine pz_ 19 53 (bl 22 1048575) HT_ ?_
      refine pz_ 20 54 (bl 22 2097151) HT_ ?_
      refine pu_ 21 55 (bl 22 4194303) HT_ ?_
      refine done_ (done_of HT_.out (by kernel_rfl)) ?_
      try go_wp2
      go_meet
      case rel => exact ⟨_, (true), (by first | rfl | (simp; done) | (simp [*]; done)), H', ⟨by first | omega | exact Nat.le_refl _⟩, ⟨by refine rr_ ?_; exact Kd.R_mono HO797.out (fun _ hk => ⟨hk.1.1.1, ⟨hk.1.1.2, hk.1.2⟩⟩)⟩, ⟨by refine rs_ ?_; exact Kd.S_mono HO800.out (fun _ hk => ⟨hk.1.1.1, ⟨hk.1.1.2, hk.1.2⟩⟩)⟩, ⟨by refine rr_ ?_; exact Kd.R_mono HO803.out (fun _ hk => ⟨hk.1.1.1, ⟨hk.1.1.2, hk.1.2⟩⟩)⟩, ⟨by refine rs_ ?_; exact Kd.S_mono HO806.out (fun _ hk => ⟨hk.1.1.1, ⟨hk.1.1.2, hk.1.2⟩⟩)⟩, ⟨by refine rr_ ?_; exact Kd.R_mono HO811.out (fun _ hk => ⟨hk.1.1.1.2, ⟨hk.1.1.2, hk.1.2⟩⟩)⟩, ⟨by refine rs_ ?_; exact Kd.S_mono HO814.out (fun _ hk => ⟨hk.1.1.1.2, ⟨hk.1.1.2, hk.1.2⟩⟩)⟩, ⟨by refine rr_ ?_; exact Kd.R_mono HO818.out (fun _ hk => ⟨hk.1.1.1.2, ⟨hk.1.1.2, hk.1.2⟩⟩)⟩, ⟨by refine rs_ ?_; exact Kd.S_mono HO821.out (fun _ hk => ⟨hk.1.1.1.2, ⟨hk.1.1.2, hk.1.2⟩⟩)⟩, ⟨by refine rb_ ?_; exact BK807.out⟩, ⟨by refine rb_ ?_; exact BK808.out⟩, ⟨by refine rb_ ?_; exact BK815.out⟩, ⟨by refine rb_ ?_; exact BK822.out⟩, ⟨by exact zp40_0_ HB.out GE807.out GE808.out GE815.out GE822.out⟩⟩
    ·rw [if_neg c44] at H
     have c44b0 : (t823.toList == t825.toList) = false := beq_eq_false_iff_ne.mpr c44
     have c44b1 : (t823.toList != t825.toList) = true := bne_iff_ne.mpr c44
     have H' := am_ H
     clear H
     try go_wp2
     replace HO797 := am_ (Kd.R_drew HO797.out)
     replace HO800 := am_ (Kd.S_drew HO800.out)
     replace HO803 := am_ (Kd.R_drew HO803.out)
     replace HO806 := am_ (Kd.S_drew HO806.out)
     replace HO811 := am_ (Kd.R_drew HO811.out)
     replace HO814 := am_ (Kd.S_drew HO814.out)
     replace HO818 := am_ (Kd.R_drew HO818.out)
     replace HO821 := am_ (Kd.S_drew HO821.out)
     replace BK807 := am_ (blk_drew BK807.out)
     replace BK808 := am_ (blk_drew BK808.out)
     replace BK815 := am_ (blk_drew BK815.out)
     replace BK822 := am_ (blk_drew BK822.out)
     replace HB := am_ (below_drew1 HB.out)
     refine start_ (n := 22) (S := fun w' => True) (ds := []) (bl 22 0) (by kernel_rfl) rfl rfl trivial (fun hHeld => ?_); refine with_tabW laws_FnMinimal.tab8 laws_FnMinimal.bits8 (fun HT_ HW_ => ?_)
     generalize w41.drew = w64 at HO797 HO800 HO803 HO806 HO811 HO814 HO818 HO821 BK807 BK808 BK815 BK822 HB hHeld ⊢
     refine pu_ 0 34 (bl 22 1) HT_ ?_
     refine pu_ 1 35 (bl 22 3) HT_ ?_
     refine pu_ 2 36 (bl 22 7) HT_ ?_
     refine pu_ 3 37 (bl 22 15) HT_ ?_
     refine pu_ 4 38 (bl 22 31) HT_ ?_
     refine pu_ 5 39 (bl 22 63) HT_ ?_
     refine pu_ 6 40 (bl 22 127) HT_ ?_
     refine pu_ 7 41 (bl 22 255) HT_ ?_
     refine pu_ 8 42 (bl 22 511) HT_ ?_
     refine pz_ 9 43 (bl 22 1023) HT_ ?_
     refine pz_ 10 44 (bl 22 2047) HT_ ?_
     refine pz_ 11 45 (bl 22 4095) HT_ ?_
     refine pz_ 12 46 (bl 22 8191) HT_ ?_
     refine pz_ 13 47 (bl 22 16383) HT_ ?_
     refine pu_ 14 48 (bl 22 32767) HT_ ?_
     refine pu_ 15 49 (bl 22 65535) HT_ ?_
     refine pz_ 16 50 (bl 22 131071) HT_ ?_
     refine pz_ 17 51 (bl 22 262143) HT_ ?_
     refine pz_ 18 52 (bl 22 524287) HT_ ?_
     refine pz_ 19 53 (bl 22 1048575) HT_ ?_
     refine pz_ 20 54 (bl 22 2097151) HT_ ?_
     refine pu_ 21 55 (bl 22 4194303) HT_ ?_
     refine done_ (done_of HT_.out (by kernel_rfl)) ?_
     try go_wp2
     go_meet
     case rel => exact ⟨_, (true), (by first | rfl | (simp; done) | (simp [*]; done)), H', ⟨by first | omega | exact Nat.le_refl _⟩, ⟨by refine rr_ ?_; exact Kd.R_mono HO797.out (fun _ hk => ⟨hk.1.1, ⟨hk.1.2, hk.2⟩⟩)⟩, ⟨by refine rs_ ?_; exact Kd.S_mono HO800.out (fun _ hk => ⟨hk.1.1, ⟨hk.1.2, hk.2⟩⟩)⟩, ⟨by refine rr_ ?_; exact Kd.R_mono HO803.out (fun _ hk => ⟨hk.1.1, ⟨hk.1.2, hk.2⟩⟩)⟩, ⟨by refine rs_ ?_; exact Kd.S_mono HO806.out (fun _ hk => ⟨hk.1.1, ⟨hk.1.2, hk.2⟩⟩)⟩, ⟨by refine rr_ ?_; exact Kd.R_mono HO811.out (fun _ hk => ⟨hk.1.1.2, ⟨hk.1.2, hk.2⟩⟩)⟩, ⟨by refine rs_ ?_; exact Kd.S_mono HO814.out (fun _ hk => ⟨hk.1.1.2, ⟨hk.1.2, hk.2⟩⟩)⟩, ⟨by refine rr_ ?_; exact Kd.R_mono HO818.out (fun _ hk => ⟨hk.1.1.2, ⟨hk.1.2, hk.2⟩⟩)⟩, ⟨by refine rs_ ?_; exact Kd.S_mono HO821.out (fun _ hk => ⟨hk.1.1.2, ⟨hk.1.2, hk.2⟩⟩)⟩, ⟨by refine rb_ ?_; exact BK807.out⟩, ⟨by refine rb_ ?_; exact BK808.out⟩, ⟨by refine rb_ ?_; exact BK815.out⟩, ⟨by refine rb_ ?_; exact BK822.out⟩, ⟨by exact zp40_0_ HB.out GE807.out GE808.out GE815.out GE822.out⟩⟩
  case rest =>
   clear HC9
   try clear p2
   try clear c3
   try clear c4
   try clear c32
   try clear c33
   try clear c44
   try clear c44b0
   try clear c44b1
   try clear c47
   obtain ⟨kq, x55_8, rfl, HA, HJ8, HO_808000, HO_808001, HO_809000, HO_809001, HO_816000, HO_816001, HO_823000, HO_823001, BK807, BK808, BK815, BK822, HB⟩ := hcut
   cases kq with
   | zero => exact absurd HA.out (by simp [laws_FnMinimal.j0])
   | succ kj8 =>
    have H := HA.out
    clear HA
    simp only [laws_FnMinimal.j0] at H
    by_cases c65 : x55_8 = true
    ·subst c65
     have H1 : (some false) = some r := by rw [if_pos rfl] at H; exact H
     clear H
     have H := H1
     clear H1
     obtain rfl := Option.some.inj H
     exact absurd hR (by decide)
    ·replace c65 := Bool.eq_false_iff.mpr c65
     subst c65
     have H1 : (if t824 = true then ((impl_AcceptsWord.f kj8 t795 t798 t823).bind fun t841 => ((impl_AcceptsWord.f kj8 t801 t804 t823).bind fun t842 => (some (t841 != t842)))) else ((spec_IsValidDfa.f kj8 t795 t798).bind fun t843 => (if t843 = true then ((spec_IsValidDfa.f kj8 t801 t804).bind fun t844 => (if t844 = true then ((impl_EqualDfa.f t809 t812 t816 t819).bind fun t845 => (some t845)) else (some true))) else (some true)))) = some r := by rw [if_neg (show ¬ (false = true) by decide)] at H; exact H
     clear H
     have H := H1
     clear H1
     by_cases c66 : t824 = true
     ·subst c66
      have H1 : ((impl_AcceptsWord.f kj8 t795 t798 t823).bind fun t841 => ((impl_AcceptsWord.f kj8 t801 t804 t823).bind fun t842 => (some (t841 != t842)))) = some r := by rw [if_pos rfl] at H; exact H
      clear H
      have H := H1
      clear H1
      replace H := Option.bind_eq_some_iff.mp H
      obtain ⟨t841, A670, H⟩ := H
      have A67 := am_ A670
      clear A670
      replace H := Option.bind_eq_some_iff.mp H
      obtain ⟨t842, A680, H⟩ := H
      replace H : (some (t841 != t842)) = some r := H
      have A68 := am_ A680
      clear A680
      obtain rfl := Option.some.inj H
      simp only [Option.some.injEq, Prod.mk.injEq] at H
      obtain ⟨rfl⟩ := H
      try go_wp2
      replace HO_808000 := am_ (Kd.R_drew HO_808000.out)
      replace HO_808001 := am_ (Kd.S_drew HO_808001.out)
      replace HO_809000 := am_ (Kd.R_drew HO_809000.out)
      replace HO_809001 := am_ (Kd.S_drew HO_809001.out)
      replace HO_816000 := am_ (Kd.R_drew HO_816000.out)
      replace HO_816001 := am_ (Kd.S_drew HO_816001.out)
      replace HO_823000 := am_ (Kd.R_drew HO_823000.out)
      replace HO_823001 := am_ (Kd.S_drew HO_823001.out)
      replace BK807 := am_ (blk_drew BK807.out)
      replace BK808 := am_ (blk_drew BK808.out)
      replace BK815 := am_ (blk_drew BK815.out)
      replace BK822 := am_ (blk_drew BK822.out)
      replace HB := am_ (below_drew1 HB.out)
      refine start_ (n := 8) (S := fun w' => w'.cell? ⟨gb807, 0, none⟩ = some (.slice Ao13 t795.length co13) ∧ w'.cell? ⟨gb807, 1, none⟩ = some (.slice Ao16 t798.length co16) ∧ w'.cell? ⟨gb808, 0, none⟩ = some (.slice Ao17 t801.length co17) ∧ w'.cell? ⟨gb808, 1, none⟩ = some (.slice Ao19 t804.length co19)) (ds := []) (bl 8 0) (by kernel_rfl) rfl rfl ⟨(blk_cell BK807.out 0).trans rfl, (blk_cell BK807.out 1).trans rfl, (blk_cell BK808.out 0).trans rfl, (blk_cell BK808.out 1).trans rfl⟩ (fun hHeld => ?_); refine with_tabW laws_FnMinimal.tab11 laws_FnMinimal.bits11 (fun HT_ HW_ => ?_)
      generalize wc.drew = w69 at HO_808000 HO_808001 HO_809000 HO_809001 HO_816000 HO_816001 HO_823000 HO_823001 BK807 BK808 BK815 BK822 HB hHeld ⊢
      refine pu_ 1 58 (bl 8 2) HT_ ?_
      refine pu_ 4 61 (bl 8 18) HT_ ?_
      refine tk_ 0 57 (bl 8 19) HT_ HW_ hHeld ?_
      refine tk_ 3 60 (bl 8 27) HT_ HW_ hHeld ?_
      refine one_ (i := 2) (N := some 59) (bl 8 31) rfl rfl (one_of HT_.out (by kernel_rfl)) (by decide) (fun K hK => ?_)
      refine gO_ Try.func34 #[.agg #[.slice Ao13 t795.length co13, .slice Ao16 t798.length co16], .string t823] ?_
      with_reducible refine (impl_AcceptsWord.calls kj8 _ _ t795 _ _ t798 t823 t841 _ ?side1 ?side2 ?side3 ?side4 A67.out).mono ?_
      (case side1 => exact rc_ ((Kd.R_reads' HO_808000.out).2.2))
      (case side2 => exact (Kd.R_reads' HO_808000.out).2.1)
      (case side3 => exact rc_ ((Kd.S_reads' HO_808001.out).2.2))
      (case side4 => exact (Kd.S_reads' HO_808001.out).2.1)
      rintro e w70 ⟨rfl, hb⟩
      refine ⟨_, rfl, ?_⟩
      replace HO_808000 := am_ (Kd.R_below (rr_ HO_808000.out) hb)
      replace HO_808001 := am_ (Kd.S_below (rs_ HO_808001.out) hb)
      replace HO_809000 := am_ (Kd.R_below (rr_ HO_809000.out) hb)
      replace HO_809001 := am_ (Kd.S_below (rs_ HO_809001.out) hb)
      replace HO_816000 := am_ (Kd.R_below (rr_ HO_816000.out) hb)
      replace HO_816001 := am_ (Kd.S_below (rs_ HO_816001.out) hb)
      replace HO_823000 := am_ (Kd.R_below (rr_ HO_823000.out) hb)
      replace HO_823001 := am_ (Kd.S_below (rs_ HO_823001.out) hb)
      replace BK807 := am_ (blk_below (rb_ BK807.out) hb)
      replace BK808 := am_ (blk_below (rb_ BK808.out) hb)
      replace BK815 := am_ (blk_below (rb_ BK815.out) hb)
      replace BK822 := am_ (blk_below (rb_ BK822.out) hb)
      replace HB := am_ (below_step (b4_ HB.out GE807.out GE808.out GE815.out GE822.out) hb)
      (try clear hb)
      (try clear hb2)
      (try clear hk)
      (try clear hi)
      refine hK.out _ _ ⟨(blk_cell BK807.out 0).trans rfl, (blk_cell BK807.out 1).trans rfl, (blk_cell BK808.out 0).trans rfl, (blk_cell BK808.out 1).trans rfl⟩ (fun hHeld => ?_)
      clear hK K
      refine norm_ (a' := ?_) ?_ ?_
      rotate_left
      ·show Act.put _ (some 59) _ = _
       simp only [pn_, sz_, ss_, i64_w, i32_w]
       rfl
      refine one_ (i := 5) (N := some 62) (bl 8 63) rfl rfl (one_of HT_.out (by kernel_rfl)) (by decide) (fun K hK => ?_)
      refine gO_ Try.func34 #[.agg #[.slice Ao17 t801.length co17, .slice Ao19 t804.length co19], .string t823] ?_
      with_reducible refine (impl_AcceptsWord.calls kj8 _ _ t801 _ _ t804 t823 t842 _ ?side1 ?side2 ?side3 ?side4 A68.out).mono ?_
      (case side1 => exact rc_ ((Kd.R_reads' HO_809000.out).2.2))
      (case side2 => exact (Kd.R_reads' HO_809000.out).2.1)
      (case side3 => exact rc_ ((Kd.S_reads' HO_809001.out).2.2))
      (case side4 => exact (Kd.S_reads' HO_809001.out).2.1)
      rintro e w71 ⟨rfl, hb⟩
      refine ⟨_, rfl, ?_⟩
      replace HO_808000 := am_ (Kd.R_below (rr_ HO_808000.out) hb)
      replace HO_808001 := am_ (Kd.S_below (rs_ HO_808001.out) hb)
      replace HO_809000 := am_ (Kd.R_below (rr_ HO_809000.out) hb)
      replace HO_809001 := am_ (Kd.S_below (rs_ HO_809001.out) hb)
      replace HO_816000 := am_ (Kd.R_below (rr_ HO_816000.out) hb)
      replace HO_816001 := am_ (Kd.S_below (rs_ HO_816001.out) hb)
      replace HO_823000 := am_ (Kd.R_below (rr_ HO_823000.out) hb)
      replace HO_823001 := am_ (Kd.S_below (rs_ HO_823001.out) hb)
      replace BK807 := am_ (blk_below (rb_ BK807.out) hb)
      replace BK808 := am_ (blk_below (rb_ BK808.out) hb)
      replace BK815 := am_ (blk_below (rb_ BK815.out) hb)
      replace BK822 := am_ (blk_below (rb_ BK822.out) hb)
      replace HB := am_ (below_step (b4_ HB.out GE807.out GE808.out GE815.out GE822.out) hb)
      (try clear hb)
      (try clear hb2)
      (try clear hk)
      (try clear hi)
      refine hK.out _ _ ⟨(blk_cell BK807.out 0).trans rfl, (blk_cell BK807.out 1).trans rfl, (blk_cell BK808.out 0).trans rfl, (blk_cell BK808.out 1).trans rfl⟩ (fun hHeld => ?_)
      clear hK K
      refine norm_ (a' := ?_) ?_ ?_
      rotate_left
      ·show Act.put _ (some 62) _ = _
       simp only [pn_, sz_, ss_, i64_w, i32_w]
       rfl
      refine pu_ 6 63 (bl 8 127) HT_ ?_
      refine pu_ 7 2 (bl 8 255) HT_ ?_
      refine done_ (done_of HT_.out (by kernel_rfl)) ?_
      try go_wp2
      go_ret
      exact ⟨by first | rfl | (simp [errW_none, errW_some] <;> rfl) | (simp [*, errW_none, errW_some] <;> rfl), by exact zp40_0_ HB.out GE807.out GE808.out GE815.out GE822.out⟩
     ·replace c66 := Bool.eq_false_iff.mpr c66
      subst c66
      have H1 : ((spec_IsValidDfa.f kj8 t795 t798).bind fun t843 => (if t843 = true then ((spec_IsValidDfa.f kj8 t801 t804).bind fun t844 => (if t844 = true then ((impl_EqualDfa.f t809 t812 t816 t819).bind fun t845 => (some t845)) else (some true))) else (some true))) = some r := by rw [if_neg (show ¬ (false = true) by decide)] at H; exact H
      clear H
      have H := H1
      clear H1
      replace H := Option.bind_eq_some_iff.mp H
      obtain ⟨t843, A720, H⟩ := H
      have A72 := am_ A720
      clear A720
      by_cases c73 : t843 = true
      ·subst c73
       have H1 : ((spec_IsValidDfa.f kj8 t801 t804).bind fun t844 => (if t844 = true then ((impl_EqualDfa.f t809 t812 t816 t819).bind fun t845 => (some t845)) else (some true))) = some r := by rw [if_pos rfl] at H; exact H
       clear H
       have H := H1
       clear H1
       replace H := Option.bind_eq_some_iff.mp H
       obtain ⟨t844, A740, H⟩ := H
       have A74 := am_ A740
       clear A740
       by_cases c75 : t844 = true
       ·subst c75
        have H1 : ((impl_EqualDfa.f t809 t812 t816 t819).bind fun t845 => (some t845)) = some r := by rw [if_pos rfl] at H; exact H
        clear H
        have H := H1
        clear H1
        replace H := Option.bind_eq_some_iff.mp H
        obtain ⟨t845, A760, H⟩ := H
        replace H : (some t845) = some r := H
        have A76 := am_ A760
        clear A760
        obtain rfl := Option.some.inj H
        simp only [Option.some.injEq, Prod.mk.injEq] at H
        obtain ⟨rfl⟩ := H
        have hnb77 := NB807_808.out
        have hnc77 := NB808_807.out
        have hnb78 := NB807_815.out
        have hnc78 := NB815_807.out
        have hnb79 := NB807_822.out
        have hnc79 := NB822_807.out
        have hcz80_0 : wc.cell? ⟨gb807, 0, none⟩ = some (.slice Ao13 t795.length co13) := (blk_cell BK807.out 0).trans rfl
        have hcz80_1 : wc.cell? ⟨gb807, 1, none⟩ = some (.slice Ao16 t798.length co16) := (blk_cell BK807.out 1).trans rfl
        have hfz80_0 := blk_frozen BK807.out 0
        have hfz80_1 := blk_frozen BK807.out 1
        go_wp2_with (first | ((with_reducible refine gate_callee (f := 35) rfl ?_); refine gL_ (some 65) Try.func35 #[.agg #[.slice Ao13 t795.length co13, .slice Ao16 t798.length co16]] ?_; (with_reducible refine (spec_IsValidDfa.calls kj8 _ _ t795 _ _ t798 true _ ?side1 ?side2 ?side3 ?side4 A72.out).mono ?_); (case side1 => exact rc_ ((Kd.R_reads' HO_808000.out).2.2)); (case side2 => exact (Kd.R_reads' HO_808000.out).2.1); (case side3 => exact rc_ ((Kd.S_reads' HO_808001.out).2.2)); (case side4 => exact (Kd.S_reads' HO_808001.out).2.1); rintro e w81 ⟨rfl, hb⟩; refine ⟨_, rfl, ?_⟩; have n0_ := am_ (Kd.R_below (rr_ HO_808000.out) hb); have n1_ := am_ (Kd.S_below (rs_ HO_808001.out) hb); have n2_ := am_ (Kd.R_below (rr_ HO_809000.out) hb); have n3_ := am_ (Kd.S_below (rs_ HO_809001.out) hb); have n4_ := am_ (Kd.R_below (rr_ HO_816000.out) hb); have n5_ := am_ (Kd.S_below (rs_ HO_816001.out) hb); have n6_ := am_ (Kd.R_below (rr_ HO_823000.out) hb); have n7_ := am_ (Kd.S_below (rs_ HO_823001.out) hb); have n8_ := am_ (blk_below (rb_ BK807.out) hb); have n9_ := am_ (blk_below (rb_ BK808.out) hb); have n10_ := am_ (blk_below (rb_ BK815.out) hb); have n11_ := am_ (blk_below (rb_ BK822.out) hb); have n12_ := am_ (below_step (b4_ HB.out GE807.out GE808.out GE815.out GE822.out) hb); clear HO_808000; clear HO_808001; clear HO_809000; clear HO_809001; clear HO_816000; clear HO_816001; clear HO_823000; clear HO_823001; clear BK807; clear BK808; clear BK815; clear BK822; clear HB; have HO_808000 := n0_; have HO_808001 := n1_; have HO_809000 := n2_; have HO_809001 := n3_; have HO_816000 := n4_; have HO_816001 := n5_; have HO_823000 := n6_; have HO_823001 := n7_; have BK807 := n8_; have BK808 := n9_; have BK815 := n10_; have BK822 := n11_; have HB := n12_; clear n0_ n1_ n2_ n3_ n4_ n5_ n6_ n7_ n8_ n9_ n10_ n11_ n12_; (try clear hb); (try clear hb2); (try clear hk); (try clear hi); have hnb82 := NB808_815.out; have hnc82 := NB815_808.out; have hnb83 := NB808_822.out; have hnc83 := NB822_808.out; have hcz84_0 : w81.cell? ⟨gb808, 0, none⟩ = some (.slice Ao17 t801.length co17) := (blk_cell BK808.out 0).trans rfl; have hcz84_1 : w81.cell? ⟨gb808, 1, none⟩ = some (.slice Ao19 t804.length co19) := (blk_cell BK808.out 1).trans rfl; have hfz84_0 := blk_frozen BK808.out 0; have hfz84_1 := blk_frozen BK808.out 1) | (go_at_call 35; (with_reducible refine (spec_IsValidDfa.calls kj8 _ _ t801 _ _ t804 true _ ?side1 ?side2 ?side3 ?side4 A74.out).mono ?_); (case side1 => exact rc_ ((Kd.R_reads' HO_809000.out).2.2)); (case side2 => exact (Kd.R_reads' HO_809000.out).2.1); (case side3 => exact rc_ ((Kd.S_reads' HO_809001.out).2.2)); (case side4 => exact (Kd.S_reads' HO_809001.out).2.1); rintro e w85 ⟨rfl, hb⟩; have n0_ := am_ (Kd.R_below (rr_ HO_808000.out) hb); have n1_ := am_ (Kd.S_below (rs_ HO_808001.out) hb); have n2_ := am_ (Kd.R_below (rr_ HO_809000.out) hb); have n3_ := am_ (Kd.S_below (rs_ HO_809001.out) hb); have n4_ := am_ (Kd.R_below (rr_ HO_816000.out) hb); have n5_ := am_ (Kd.S_below (rs_ HO_816001.out) hb); have n6_ := am_ (Kd.R_below (rr_ HO_823000.out) hb); have n7_ := am_ (Kd.S_below (rs_ HO_823001.out) hb); have n8_ := am_ (blk_below (rb_ BK807.out) hb); have n9_ := am_ (blk_below (rb_ BK808.out) hb); have n10_ := am_ (blk_below (rb_ BK815.out) hb); have n11_ := am_ (blk_below (rb_ BK822.out) hb); have n12_ := am_ (below_step (b4_ HB.out GE807.out GE808.out GE815.out GE822.out) hb); clear HO_808000; clear HO_808001; clear HO_809000; clear HO_809001; clear HO_816000; clear HO_816001; clear HO_823000; clear HO_823001; clear BK807; clear BK808; clear BK815; clear BK822; clear HB; have HO_808000 := n0_; have HO_808001 := n1_; have HO_809000 := n2_; have HO_809001 := n3_; have HO_816000 := n4_; have HO_816001 := n5_; have HO_823000 := n6_; have HO_823001 := n7_; have BK807 := n8_; have BK808 := n9_; have BK815 := n10_; have BK822 := n11_; have HB := n12_; clear n0_ n1_ n2_ n3_ n4_ n5_ n6_ n7_ n8_ n9_ n10_ n11_ n12_; (try clear hb); (try clear hb2); (try clear hk); (try clear hi); have hnb86 := NB815_822.out; have hnc86 := NB822_815.out; have hcz87_0 : w85.cell? ⟨gb815, 0, none⟩ = some (.slice Ao22 t809.length co22) := (blk_cell BK815.out 0).trans rfl; have hcz87_1 : w85.cell? ⟨gb815, 1, none⟩ = some (.slice Ao26 t812.length co26) := (blk_cell BK815.out 1).trans rfl; have hfz87_0 := blk_frozen BK815.out 0; have hfz87_1 := blk_frozen BK815.out 1; have hcz88_0 : w85.cell? ⟨gb822, 0, none⟩ = some (.slice Ao30 t816.length co30) := (blk_cell BK822.out 0).trans rfl; have hcz88_1 : w85.cell? ⟨gb822, 1, none⟩ = some (.slice Ao35 t819.length co35) := (blk_cell BK822.out 1).trans rfl; have hfz88_0 := blk_frozen BK822.out 0; have hfz88_1 := blk_frozen BK822.out 1) | (go_at_call 36; (with_reducible refine (impl_EqualDfa.calls _ _ t809 _ _ t812 _ _ t816 _ _ t819 t845 _ ?side1 ?side2 ?side3 ?side4 ?side5 ?side6 ?side7 ?side8 A76.out).mono ?_); (case side1 => exact rc_ ((Kd.R_reads' HO_816000.out).2.2)); (case side2 => exact (Kd.R_reads' HO_816000.out).2.1); (case side3 => exact rc_ ((Kd.S_reads' HO_816001.out).2.2)); (case side4 => exact (Kd.S_reads' HO_816001.out).2.1); (case side5 => exact rc_ ((Kd.R_reads' HO_823000.out).2.2)); (case side6 => exact (Kd.R_reads' HO_823000.out).2.1); (case side7 => exact rc_ ((Kd.S_reads' HO_823001.out).2.2)); (case side8 => exact (Kd.S_reads' HO_823001.out).2.1); rintro e w89 ⟨rfl, hb⟩; have n0_ := am_ (Kd.R_below (rr_ HO_808000.out) hb); have n1_ := am_ (Kd.S_below (rs_ HO_808001.out) hb); have n2_ := am_ (Kd.R_below (rr_ HO_809000.out) hb); have n3_ := am_ (Kd.S_below (rs_ HO_809001.out) hb); have n4_ := am_ (Kd.R_below (rr_ HO_816000.out) hb); have n5_ := am_ (Kd.S_below (rs_ HO_816001.out) hb); have n6_ := am_ (Kd.R_below (rr_ HO_823000.out) hb); have n7_ := am_ (Kd.S_below (rs_ HO_823001.out) hb); have n8_ := am_ (blk_below (rb_ BK807.out) hb); have n9_ := am_ (blk_below (rb_ BK808.out) hb); have n10_ := am_ (blk_below (rb_ BK815.out) hb); have n11_ := am_ (blk_below (rb_ BK822.out) hb); have n12_ := am_ (below_step (b4_ HB.out GE807.out GE808.out GE815.out GE822.out) hb); clear HO_808000; clear HO_808001; clear HO_809000; clear HO_809001; clear HO_816000; clear HO_816001; clear HO_823000; clear HO_823001; clear BK807; clear BK808; clear BK815; clear BK822; clear HB; have HO_808000 := n0_; have HO_808001 := n1_; have HO_809000 := n2_; have HO_809001 := n3_; have HO_816000 := n4_; have HO_816001 := n5_; have HO_823000 := n6_; have HO_823001 := n7_; have BK807 := n8_; have BK808 := n9_; have BK815 := n10_; have BK822 := n11_; have HB := n12_; clear n0_ n1_ n2_ n3_ n4_ n5_ n6_ n7_ n8_ n9_ n10_ n11_ n12_; (try clear hb); (try clear hb2); (try clear hk); (try clear hi)))
        go_ret
        exact ⟨by first | rfl | (simp [errW_none, errW_some] <;> rfl) | (simp [*, errW_none, errW_some] <;> rfl), by exact zp40_0_ HB.out GE807.out GE808.out GE815.out GE822.out⟩
       ·replace c75 := Bool.eq_false_iff.mpr c75
        subst c75
        have H1 : (some true) = some r := by rw [if_neg (show ¬ (false = true) by decide)] at H; exact H
        clear H
        have H := H1
        clear H1
        obtain rfl := Option.some.inj H
        simp only [Option.some.injEq, Prod.mk.injEq] at H
        obtain ⟨rfl⟩ := H
        have hnb90 := NB807_808.out
        have hnc90 := NB808_807.out
        have hnb91 := NB807_815.out
        have hnc91 := NB815_807.out
        have hnb92 := NB807_822.out
        have hnc92 := NB822_807.out
        have hcz93_0 : wc.cell? ⟨gb807, 0, none⟩ = some (.slice Ao13 t795.length co13) := (blk_cell BK807.out 0).trans rfl
        have hcz93_1 : wc.cell? ⟨gb807, 1, none⟩ = some (.slice Ao16 t798.length co16) := (blk_cell BK807.out 1).trans rfl
        have hfz93_0 := blk_frozen BK807.out 0
        have hfz93_1 := blk_frozen BK807.out 1
        go_wp2_with (first | ((with_reducible refine gate_callee (f := 35) rfl ?_); refine gL_ (some 65) Try.func35 #[.agg #[.slice Ao13 t795.length co13, .slice Ao16 t798.length co16]] ?_; (with_reducible refine (spec_IsValidDfa.calls kj8 _ _ t795 _ _ t798 true _ ?side1 ?side2 ?side3 ?side4 A72.out).mono ?_); (case side1 => exact rc_ ((Kd.R_reads' HO_808000.out).2.2)); (case side2 => exact (Kd.R_reads' HO_808000.out).2.1); (case side3 => exact rc_ ((Kd.S_reads' HO_808001.out).2.2)); (case side4 => exact (Kd.S_reads' HO_808001.out).2.1); rintro e w94 ⟨rfl, hb⟩; refine ⟨_, rfl, ?_⟩; have n0_ := am_ (Kd.R_below (rr_ HO_808000.out) hb); have n1_ := am_ (Kd.S_below (rs_ HO_808001.out) hb); have n2_ := am_ (Kd.R_below (rr_ HO_809000.out) hb); have n3_ := am_ (Kd.S_below (rs_ HO_809001.out) hb); have n4_ := am_ (Kd.R_below (rr_ HO_816000.out) hb); have n5_ := am_ (Kd.S_below (rs_ HO_816001.out) hb); have n6_ := am_ (Kd.R_below (rr_ HO_823000.out) hb); have n7_ := am_ (Kd.S_below (rs_ HO_823001.out) hb); have n8_ := am_ (blk_below (rb_ BK807.out) hb); have n9_ := am_ (blk_below (rb_ BK808.out) hb); have n10_ := am_ (blk_below (rb_ BK815.out) hb); have n11_ := am_ (blk_below (rb_ BK822.out) hb); have n12_ := am_ (below_step (b4_ HB.out GE807.out GE808.out GE815.out GE822.out) hb); clear HO_808000; clear HO_808001; clear HO_809000; clear HO_809001; clear HO_816000; clear HO_816001; clear HO_823000; clear HO_823001; clear BK807; clear BK808; clear BK815; clear BK822; clear HB; have HO_808000 := n0_; have HO_808001 := n1_; have HO_809000 := n2_; have HO_809001 := n3_; have HO_816000 := n4_; have HO_816001 := n5_; have HO_823000 := n6_; have HO_823001 := n7_; have BK807 := n8_; have BK808 := n9_; have BK815 := n10_; have BK822 := n11_; have HB := n12_; clear n0_ n1_ n2_ n3_ n4_ n5_ n6_ n7_ n8_ n9_ n10_ n11_ n12_; (try clear hb); (try clear hb2); (try clear hk); (try clear hi); have hnb95 := NB808_815.out; have hnc95 := NB815_808.out; have hnb96 := NB808_822.out; have hnc96 := NB822_808.out; have hcz97_0 : w94.cell? ⟨gb808, 0, none⟩ = some (.slice Ao17 t801.length co17) := (blk_cell BK808.out 0).trans rfl; have hcz97_1 : w94.cell? ⟨gb808, 1, none⟩ = some (.slice Ao19 t804.length co19) := (blk_cell BK808.out 1).trans rfl; have hfz97_0 := blk_frozen BK808.out 0; have hfz97_1 := blk_frozen BK808.out 1) | (go_at_call 35; (with_reducible refine (spec_IsValidDfa.calls kj8 _ _ t801 _ _ t804 false _ ?side1 ?side2 ?side3 ?side4 A74.out).mono ?_); (case side1 => exact rc_ ((Kd.R_reads' HO_809000.out).2.2)); (case side2 => exact (Kd.R_reads' HO_809000.out).2.1); (case side3 => exact rc_ ((Kd.S_reads' HO_809001.out).2.2)); (case side4 => exact (Kd.S_reads' HO_809001.out).2.1); rintro e w98 ⟨rfl, hb⟩; have n0_ := am_ (Kd.R_below (rr_ HO_808000.out) hb); have n1_ := am_ (Kd.S_below (rs_ HO_808001.out) hb); have n2_ := am_ (Kd.R_below (rr_ HO_809000.out) hb); have n3_ := am_ (Kd.S_below (rs_ HO_809001.out) hb); have n4_ := am_ (Kd.R_below (rr_ HO_816000.out) hb); have n5_ := am_ (Kd.S_below (rs_ HO_816001.out) hb); have n6_ := am_ (Kd.R_below (rr_ HO_823000.out) hb); have n7_ := am_ (Kd.S_below (rs_ HO_823001.out) hb); have n8_ := am_ (blk_below (rb_ BK807.out) hb); have n9_ := am_ (blk_below (rb_ BK808.out) hb); have n10_ := am_ (blk_below (rb_ BK815.out) hb); have n11_ := am_ (blk_below (rb_ BK822.out) hb); have n12_ := am_ (below_step (b4_ HB.out GE807.out GE808.out GE815.out GE822.out) hb); clear HO_808000; clear HO_808001; clear HO_809000; clear HO_809001; clear HO_816000; clear HO_816001; clear HO_823000; clear HO_823001; clear BK807; clear BK808; clear BK815; clear BK822; clear HB; have HO_808000 := n0_; have HO_808001 := n1_; have HO_809000 := n2_; have HO_809001 := n3_; have HO_816000 := n4_; have HO_816001 := n5_; have HO_823000 := n6_; have HO_823001 := n7_; have BK807 := n8_; have BK808 := n9_; have BK815 := n10_; have BK822 := n11_; have HB := n12_; clear n0_ n1_ n2_ n3_ n4_ n5_ n6_ n7_ n8_ n9_ n10_ n11_ n12_; (try clear hb); (try clear hb2); (try clear hk); (try clear hi)))
        go_ret
        exact ⟨by first | rfl | (simp [errW_none, errW_some] <;> rfl) | (simp [*, errW_none, errW_some] <;> rfl), by exact zp40_0_ HB.out GE807.out GE808.out GE815.out GE822.out⟩
      ·replace c73 := Bool.eq_false_iff.mpr c73
       subst c73
       have H1 : (some true) = some r := by rw [if_neg (show ¬ (false = true) by decide)] at H; exact H
       clear H
       have H := H1
       clear H1
       obtain rfl := Option.some.inj H
       simp only [Option.some.injEq, Prod.mk.injEq] at H
       obtain ⟨rfl⟩ := H
       have hnb99 := NB807_808.out
       have hnc99 := NB808_807.out
       have hnb100 := NB807_815.out
       have hnc100 := NB815_807.out
       have hnb101 := NB807_822.out
       have hnc101 := NB822_807.out
       have hcz102_0 : wc.cell? ⟨gb807, 0, none⟩ = some (.slice Ao13 t795.length co13) := (blk_cell BK807.out 0).trans rfl
       have hcz102_1 : wc.cell? ⟨gb807, 1, none⟩ = some (.slice Ao16 t798.length co16) := (blk_cell BK807.out 1).trans rfl
       have hfz102_0 := blk_frozen BK807.out 0
       have hfz102_1 := blk_frozen BK807.out 1
       go_wp2_with (first | ((with_reducible refine gate_callee (f := 35) rfl ?_); refine gL_ (some 65) Try.func35 #[.agg #[.slice Ao13 t795.length co13, .slice Ao16 t798.length co16]] ?_; (with_reducible refine (spec_IsValidDfa.calls kj8 _ _ t795 _ _ t798 false _ ?side1 ?side2 ?side3 ?side4 A72.out).mono ?_); (case side1 => exact rc_ ((Kd.R_reads' HO_808000.out).2.2)); (case side2 => exact (Kd.R_reads' HO_808000.out).2.1); (case side3 => exact rc_ ((Kd.S_reads' HO_808001.out).2.2)); (case side4 => exact (Kd.S_reads' HO_808001.out).2.1); rintro e w103 ⟨rfl, hb⟩; refine ⟨_, rfl, ?_⟩; have n0_ := am_ (Kd.R_below (rr_ HO_808000.out) hb); have n1_ := am_ (Kd.S_below (rs_ HO_808001.out) hb); have n2_ := am_ (Kd.R_below (rr_ HO_809000.out) hb); have n3_ := am_ (Kd.S_below (rs_ HO_809001.out) hb); have n4_ := am_ (Kd.R_below (rr_ HO_816000.out) hb); have n5_ := am_ (Kd.S_below (rs_ HO_816001.out) hb); have n6_ := am_ (Kd.R_below (rr_ HO_823000.out) hb); have n7_ := am_ (Kd.S_below (rs_ HO_823001.out) hb); have n8_ := am_ (blk_below (rb_ BK807.out) hb); have n9_ := am_ (blk_below (rb_ BK808.out) hb); have n10_ := am_ (blk_below (rb_ BK815.out) hb); have n11_ := am_ (blk_below (rb_ BK822.out) hb); have n12_ := am_ (below_step (b4_ HB.out GE807.out GE808.out GE815.out GE822.out) hb); clear HO_808000; clear HO_808001; clear HO_809000; clear HO_809001; clear HO_816000; clear HO_816001; clear HO_823000; clear HO_823001; clear BK807; clear BK808; clear BK815; clear BK822; clear HB; have HO_808000 := n0_; have HO_808001 := n1_; have HO_809000 := n2_; have HO_809001 := n3_; have HO_816000 := n4_; have HO_816001 := n5_; have HO_823000 := n6_; have HO_823001 := n7_; have BK807 := n8_; have BK808 := n9_; have BK815 := n10_; have BK822 := n11_; have HB := n12_; clear n0_ n1_ n2_ n3_ n4_ n5_ n6_ n7_ n8_ n9_ n10_ n11_ n12_; (try clear hb); (try clear hb2); (try clear hk); (try clear hi)))
       go_ret
       exact ⟨by first | rfl | (simp [errW_none, errW_some] <;> rfl) | (simp [*, errW_none, errW_some] <;> rfl), by exact zp40_0_ HB.out GE807.out GE808.out GE815.out GE822.out⟩
def laws_FnMinimal.Pure : Prop := ∀ (l0 : List Int), l0.length ≤ maxLen → l0.length * 1 ≤ 140737488351232 → (∀ x ∈ l0, (Lit.int .u8 x).wf = true) → ∃ k, laws_FnMinimal.f k l0 = some true
theorem laws_FnMinimal.walk (P : laws_FnMinimal.Pure) (a0 : Option Addr) (len0 cap0 : Nat) (z0 : List Int) (w : World) (w0 : (a0 = none ∧ len0 = 0 ∧ cap0 = 0 ∧ z0 = []) ∨ ∃ x, a0 = some x ∧ len0 ≤ cap0 ∧ cap0 ≤ maxLen ∧ z0.length = cap0 ∧ (∀ i, i < z0.length → w.cell? (x.add i) = some (.int .u8 (z0.getD i 0))) ∧ ∀ n ∈ z0, (Lit.int .u8 n).wf = true) (y0 : len0 * 1 ≤ 140737488351232) :
  Calls Try.prog 8 #[.slice a0 len0 cap0] w fun e w' => e = .returned (.bool true) ∧ Below w.heap.size w w' := by
 obtain ⟨l0, rfl, hr0, hm0, hw0, hc0⟩ := ReadsInt.ofRowC w0
 obtain ⟨k, h⟩ := P l0 hm0 y0 hw0
 refine (laws_FnMinimal.calls k _ _ l0 true w (Kd.C_of_reads (d := (0 : Int)) (h1 := fun _ => rfl) hr0) hc0 h rfl).mono ?_
 rintro e w' ⟨rfl, hd⟩
 exact ⟨rfl, hd⟩
end Go.Proofs.Ytogamkblkoobkaa.P
end
