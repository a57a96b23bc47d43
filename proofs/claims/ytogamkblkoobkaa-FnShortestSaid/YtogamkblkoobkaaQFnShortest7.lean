/- Texts of the proof of FnShortest, put together. No condition. -/
import Derived.Test.YtogamkblkoobkaaQFnShortest2
import Derived.Test.YtogamkblkoobkaaQFnShortest5
import Derived.Test.YtogamkblkoobkaaQFnShortest6
section
namespace Go.Proofs.Ytogamkblkoobkaa.P
open Go.RowKit Go.Proofs.YtogamkblkoobkaaW.PrintWords Go.Proofs.YtogamkblkoobkaaW.PrintLast Go.Proofs.YtogamkblkoobkaaW.PrintMore
attribute [local go_sem] max2_int min2_int max_two min_two max_three min_three max_four min_four
set_option linter.unusedVariables false
set_option linter.unusedSimpArgs false
def spec_l5Bent.f (k : Nat) (s0_0 : List Int) (s0_1 : Int) (s0_2 : Int) : Option (List Bool × (List (List Int)) × Int × Int) := (spec_l5Draw.f k s0_0 s0_1 s0_2 5).bind fun bt591 => ((spec_l1Below.f s0_0 bt591.2.2.1 bt591.2.2.2 12).bind fun bt600 => (if bt600.1 = 0 then (if 0 < (bt591.2.1.length : Int) then (if 0 < ((rd_L1 bt591.2.1 0).length : Int) then (some (bt591.1, (bt591.2.1.set (0 : Int).toNat ((rd_L1 bt591.2.1 0).set (0 : Int).toNat (bt591.1.length : Int))), bt600.2.1, bt600.2.2)) else (none)) else (none)) else (if bt600.1 = 1 then (if bt591.1.length < 140737488355328 then (some ((bt591.1 ++ [true]), bt591.2.1, bt600.2.1, bt600.2.2)) else (none)) else (if bt600.1 = 2 then (if 0 < (bt591.2.1.length : Int) then (if (rd_L1 bt591.2.1 0).length < 17592186044416 then (some (bt591.1, (bt591.2.1.set (0 : Int).toNat ((rd_L1 bt591.2.1 0) ++ [0])), bt600.2.1, bt600.2.2)) else (none)) else (none)) else (some (bt591.1, bt591.2.1, bt600.2.1, bt600.2.2))))))
theorem spec_l5Bent.mono : ∀ a0 a1 a2 k, LeO (spec_l5Bent.f k a0 a1 a2) (spec_l5Bent.f (k + 1) a0 a1 a2) := by
 intro a0 a1 a2 k
 unfold spec_l5Bent.f
 repeat' first
   | (with_reducible exact spec_l5Draw.mono _ _ _ _ _)
   | (with_reducible exact LeO.refl _)
   | (with_reducible exact LeO.none _)
   | (with_reducible refine LeO.ite ?_ ?_)
   | (with_reducible refine LeO.bind ?_ (fun _ => ?_))
   | exact spec_l5Draw.mono _ _ _ _ _
   | exact LeO.none _
   | refine LeO.ite ?_ ?_
   | refine LeO.bind ?_ (fun _ => ?_)
def spec_l5Bent.T4 : Bool × List (List Nat × List Nat) := (true, [([], []), ([0], [0]), ([1], [1]), ([2], [2]), ([], []), ([4], [4]), ([5], [5]), ([3, 0, 1, 2, 3, 4, 5, 6], [3]), ([7, 6, 0, 1, 2, 3, 4, 5, 6], [6, 7])])
def spec_l5Bent.B4 : List Nat := [0, 1, 3, 7, 0, 16, 48, 127, 255]
theorem spec_l5Bent.tab4 : rtab .any (opsOf Try.f88 4) = spec_l5Bent.T4 := by kernel_rfl
theorem spec_l5Bent.bits4 : waitsOk spec_l5Bent.T4.2 spec_l5Bent.B4 = true := by kernel_rfl
def spec_l5Bent.T8 : Bool × List (List Nat × List Nat) := (true, [([], []), ([0], [0]), ([], []), ([2], [2]), ([3], [3]), ([4], [4]), ([], []), ([5, 6], [5, 6]), ([1, 0, 1, 2, 3, 4, 5, 6, 7], [1]), ([8, 7, 7, 0, 1, 2, 3, 4, 5, 6, 7], [7, 8])])
def spec_l5Bent.B8 : List Nat := [0, 1, 0, 4, 12, 28, 0, 124, 255, 511]
theorem spec_l5Bent.tab8 : rtab .any (opsOf Try.f88 8) = spec_l5Bent.T8 := by kernel_rfl
theorem spec_l5Bent.bits8 : waitsOk spec_l5Bent.T8.2 spec_l5Bent.B8 = true := by kernel_rfl
theorem zp32_0_ {p q : Prop} (h : p) (c : p → q := by intro h_; repeat (first | (with_reducible first | exact h_ | apply IsS125.alloc | apply IsS125.drewN | apply IsS125.drew | apply IsS125.set_1 | apply IsS125.set_2) | exact h_)) : q := c h
theorem zp32_1_ {p q g1 : Prop} (h : p) (h1 : g1) (c : p → g1 → q := by intro h_ h1_; repeat (first | (with_reducible first | exact h_ | apply IsS125.alloc | apply IsS125.drewN | apply IsS125.drew | apply IsS125.set_1 | apply IsS125.set_2 | refine IsS125.far ?_ h1_ _) | exact h_)) : q := c h h1
theorem zp32_2_ {p q g1 g2 : Prop} (h : p) (h1 : g1) (h2 : g2) (c : p → g1 → g2 → q := by intro h_ h1_ h2_; repeat (first | (with_reducible first | exact h_ | apply below_alloc | apply pw_below_drewN | apply below_drew1 | refine below_set ?_ h1_ | refine below_set ?_ h2_) | exact h_)) : q := c h h1 h2
theorem zp32_3_ {p q g1 g2 : Prop} (h : p) (h1 : g1) (h2 : g2) (c : p → g1 → g2 → q := by intro h_ h1_ h2_; repeat (first | (with_reducible first | exact h_ | apply IsS125.alloc | apply IsS125.drewN | apply IsS125.drew | apply IsS125.set_1 | apply IsS125.set_2 | refine IsS125.far ?_ h1_ _ | refine IsS125.far ?_ h2_ _) | exact h_)) : q := c h h1 h2
theorem zp32_4_ {p q g1 g2 g3 : Prop} (h : p) (h1 : g1) (h2 : g2) (h3 : g3) (c : p → g1 → g2 → g3 → q := by intro h_ h1_ h2_ h3_; repeat (first | (with_reducible first | exact h_ | apply below_alloc | apply pw_below_drewN | apply below_drew1 | refine below_set ?_ h1_ | refine below_set ?_ h2_ | refine below_set ?_ h3_) | exact h_)) : q := c h h1 h2 h3
theorem zp32_5_ {p q g1 g2 : Prop} (h : p) (h1 : g1) (h2 : g2) (c : p → g1 → g2 → q := by intro h_ h1_ h2_; repeat (first | (with_reducible first | exact h_ | apply KeepBut.set_ | apply keep_drewN | apply keep_drew | apply keep_alloc | refine keep_far ?_ h1_ _ | refine keep_far ?_ h2_ _) | exact h_)) : q := c h h1 h2
set_option maxHeartbeats 8000000 in
set_option maxRecDepth 100000 in
theorem spec_l5Bent.calls (k : Nat) (g : Nat) (s0_0 : List Int) (s0_1 : Int) (s0_2 : Int) (r1 : List Bool) (r2 : List (List Int)) (r3 : Int) (r4 : Int) (w0 w : World) (hI : IsS125 w0 w g s0_0 s0_1 s0_2) (hB : Below w0.heap.size w0 w) (h : spec_l5Bent.f k s0_0 s0_1 s0_2 = some (r1, r2, r3, r4)) :
  Calls Try.prog 88 #[.pointer (some ⟨g, 0, none⟩)] w fun e w' => ∃ v0_ v1_ : Value, e = .returned (.agg #[v0_, v1_]) ∧ Kd.R Kd.bool 4 w' w.heap.size (fun _ => True) v0_ r1 ∧ Kd.S (Kd.slice 3 (Kd.int .i64)) 67 w' w.heap.size (fun _ => True) v1_ r2 ∧ IsS125 w0 w' g s0_0 r3 r4 ∧ Below w0.heap.size w0 w' ∧ KeepBut w w' g none := by
 have hu27 := Try.underlying27
 have HI0 := am_ hI
 have HK := am_ (KeepBut.refl w g none)
 have HL := am_ hB.size
 clear hI
 have HW0 := am_ hB.size
 have HB := am_ hB
 clear hB
 have H : ((spec_l5Draw.f k s0_0 s0_1 s0_2 5).bind fun bt591 => ((spec_l1Below.f s0_0 bt591.2.2.1 bt591.2.2.2 12).bind fun bt600 => (if bt600.1 = 0 then (if 0 < (bt591.2.1.length : Int) then (if 0 < ((rd_L1 bt591.2.1 0).length : Int) then (some (bt591.1, (bt591.2.1.set (0 : Int).toNat ((rd_L1 bt591.2.1 0).set (0 : Int).toNat (bt591.1.length : Int))), bt600.2.1, bt600.2.2)) else (none)) else (none)) else (if bt600.1 = 1 then (if bt591.1.length < 140737488355328 then (some ((bt591.1 ++ [true]), bt591.2.1, bt600.2.1, bt600.2.2)) else (none)) else (if bt600.1 = 2 then (if 0 < (bt591.2.1.length : Int) then (if (rd_L1 bt591.2.1 0).length < 17592186044416 then (some (bt591.1, (bt591.2.1.set (0 : Int).toNat ((rd_L1 bt591.2.1 0) ++ [0])), bt600.2.1, bt600.2.2)) else (none)) else (none)) else (some (bt591.1, bt591.2.1, bt600.2.1, bt600.2.2))))))) = some (r1, r2, r3, r4) := h
 clear h
 replace H := Option.bind_eq_some_iff.mp H
 obtain ⟨⟨t591, t594, t597, t598⟩, A20, H⟩ := H
 have A2 := am_ A20
 clear A20
 replace H := Option.bind_eq_some_iff.mp H
 obtain ⟨⟨t600, t601, t602⟩, A30, H⟩ := H
 have A3 := am_ A30
 clear A30
 by_cases c4 : t600 = 0
 ·rw [if_pos c4] at H
  have c4b0 : (t600 == 0) = true := beq_iff_eq.mpr c4
  have c4b1 : (t600 != 0) = false := bne_eq_false_iff_eq.mpr c4
  clear c4
  by_cases c5 : 0 < (t594.length : Int)
  ·rw [if_pos c5] at H
   have c5b0 : decide (0 < (t594.length : Int)) = true := decide_eq_true c5
   have c5b1 : decide (0 < t594.length) = true := decide_eq_true (by omega)
   clear c5
   by_cases c6 : 0 < ((rd_L1 t594 0).length : Int)
   ·rw [if_pos c6] at H
    have c6b0 : decide (0 < ((rd_L1 t594 0).length : Int)) = true := decide_eq_true c6
    have c6b1 : decide (0 < (rd_L1 t594 0).length) = true := decide_eq_true (by omega)
    clear c6
    obtain ⟨y604, hy604⟩ : ∃ y_ : List Int, y_ = ((rd_L1 t594 0).set (0 : Int).toNat (t591.length : Int)) := ⟨_, rfl⟩
    replace H : (some (t591, (t594.set (0 : Int).toNat y604), t601, t602)) = some (r1, r2, r3, r4) := by first | (rw [hy604]; with_reducible exact H) | (have H2_ := (Option.bind_some _ _).symm.trans H; rw [hy604]; with_reducible exact H2_) | (have H2_ := (Option.bind_some _ _).symm.trans H; with_reducible exact H2_) | with_reducible exact H | (rw [hy604]; exact H) | exact H
    have Ny604 := am_ hy604
    clear hy604
    obtain ⟨y606, hy606⟩ : ∃ y_ : List (List Int), y_ = (t594.set (0 : Int).toNat y604) := ⟨_, rfl⟩
    replace H : (some (t591, y606, t601, t602)) = some (r1, r2, r3, r4) := by first | (rw [hy606]; with_reducible exact H) | (have H2_ := (Option.bind_some _ _).symm.trans H; rw [hy606]; with_reducible exact H2_) | (have H2_ := (Option.bind_some _ _).symm.trans H; with_reducible exact H2_) | with_reducible exact H | (rw [hy606]; exact H) | exact H
    have Ny606 := am_ hy606
    clear hy606
    simp only [Option.some.injEq, Prod.mk.injEq] at H
    obtain ⟨rfl, rfl, rfl, rfl⟩ := H
    go_enter Try.func88, Try.ntmps88
    try go_wp2_with (first | ((with_reducible refine gate_dst (N := 2) rfl ?_); refine box_event ?hg (N := 2) ?hd (cs := #[.slice none 0 0, .slice none 0 0]) (t := 27) ?hr ?_; (case hd => rfl); (case hg => rfl); (case hr => first | (go_simp; done) | (go_simp; rfl)); intro gb590 hg w8 hbox hb; have n0_ := am_ (IsS125.below (zp32_0_ HI0.out) hb); have n1_ := am_ (KeepBut.trans (k0_ HK.out) (KeepBut.of_below hb g none) (.inl rfl)); have n2_ := am_ (below_step (b1_ HB.out (IsS125.ge HI0.out)) hb); have n3_ := am_ (hbox); have n4_ := am_ ((by rw [hg]; exact (keep_size (w := w) (g := g) (row := none) (k0_ HK.out)) : w.heap.size ≤ gb590)); have n5_ := am_ ((Nat.le_trans HW0.out (by rw [hg]; exact (keep_size (w := w) (g := g) (row := none) (k0_ HK.out)) : w.heap.size ≤ gb590) : w0.heap.size ≤ gb590)); have n6_ := am_ ((by rw [hg]; exact Nat.ne_of_lt (IsS125.lt (show IsS125 w0 _ g s0_0 s0_1 s0_2 from by exact zp32_0_ HI0.out)) : g ≠ gb590)); have n7_ := am_ ((by rw [hg]; exact Nat.ne_of_gt (IsS125.lt (show IsS125 w0 _ g s0_0 s0_1 s0_2 from by exact zp32_0_ HI0.out)) : gb590 ≠ g)); clear HI0; clear HK; clear HB; have HI0 := n0_; have HK := n1_; have HB := n2_; have BK590 := n3_; have GW590 := n4_; have GE590 := n5_; have NB0_590 := n6_; have NB590_0 := n7_; clear n0_ n1_ n2_ n3_ n4_ n5_ n6_ n7_; clear hb hbox hg) | ((with_reducible refine gate_callee (f := 86) rfl ?_); refine gL_ (some 5) Try.func86 #[.pointer (some ⟨g, 0, none⟩), .int .i64 5] ?_; (with_reducible refine (spec_l5Draw.calls k g s0_0 s0_1 s0_2 5 t591 t594 t597 t598 w0 _ ?side1 ?side2 A2.out).mono ?_); (case side1 => exact zp32_1_ HI0.out NB0_590.out); (case side2 => exact zp32_2_ HB.out (IsS125.ge HI0.out) GE590.out); rintro e w9 ⟨v592, v595, rfl, ho0, ho1, hi, hb, hk⟩; refine ⟨_, rfl, ?_⟩; have n0_ := am_ (KeepBut.blk hk (g' := gb590) (o := .cells #[.slice none 0 0, .slice none 0 0] 27 (0, 0)) (rb_ BK590.out) NB590_0.out (by simp)); have n1_ := am_ (Kd.R_lower ho0 (keep_size (w := w) (g := g) (row := none) (k1_ HK.out GW590.out))); have n2_ := am_ (Kd.S_lower ho1 (keep_size (w := w) (g := g) (row := none) (k1_ HK.out GW590.out))); have n3_ := am_ (KeepBut.trans (k1_ HK.out GW590.out) hk (.inl rfl)); have n4_ := am_ (hb); have n5_ := am_ (hi); clear BK590; clear HK; clear HB; clear HI0; have BK590 := n0_; have HO593 := n1_; have HO596 := n2_; have HK := n3_; have HB := n4_; have HI0 := n5_; clear n0_ n1_ n2_ n3_ n4_ n5_; (try clear hb); (try clear hb2); (try clear hk); (try clear hi); (try clear ho0); (try clear ho1)) | ((with_reducible refine gate_dst (N := 3) rfl ?_); refine box_event ?hg (N := 3) ?hd (cs := #[.slice none 0 0, .slice none 0 0]) (t := 27) ?hr ?_; (case hd => rfl); (case hg => rfl); (case hr => first | (go_simp; done) | (go_simp; rfl)); intro gb599 hg w10 hbox hb; have n0_ := am_ (Kd.R_below (rr_ HO593.out) hb); have n1_ := am_ (Kd.S_below (rs_ HO596.out) hb); have n2_ := am_ (IsS125.below (zp32_1_ HI0.out NB0_590.out) hb); have n3_ := am_ (blk_below (rb_ BK590.out) hb); have n4_ := am_ (KeepBut.trans (k1_ HK.out GW590.out) (KeepBut.of_below hb g none) (.inl rfl)); have n5_ := am_ (below_step (b2_ HB.out (IsS125.ge HI0.out) GE590.out) hb); have n6_ := am_ (hbox); have n7_ := am_ ((by rw [hg]; exact (keep_size (w := w) (g := g) (row := none) (k1_ HK.out GW590.out)) : w.heap.size ≤ gb599)); have n8_ := am_ ((Nat.le_trans HW0.out (by rw [hg]; exact (keep_size (w := w) (g := g) (row := none) (k1_ HK.out GW590.out)) : w.heap.size ≤ gb599) : w0.heap.size ≤ gb599)); have n9_ := am_ ((by rw [hg]; exact Nat.ne_of_lt (blk_lt (rb_ BK590.out)) : gb590 ≠ gb599)); have n10_ := am_ ((by rw [hg]; exact Nat.ne_of_gt (blk_lt (rb_ BK590.out)) : gb599 ≠ gb590)); have n11_ := am_ ((by rw [hg]; exact Nat.ne_of_lt (IsS125.lt (show IsS125 w0 _ g s0_0 t597 t598 from by exact zp32_1_ HI0.out NB0_590.out)) : g ≠ gb599)); have n12_ := am_ ((by rw [hg]; exact Nat.ne_of_gt (IsS125.lt (show IsS125 w0 _ g s0_0 t597 t598 from by exact zp32_1_ HI0.out NB0_590.out)) : gb599 ≠ g)); clear HO593; clear HO596; clear HI0; clear BK590; clear HK; clear HB; have HO593 := n0_; have HO596 := n1_; have HI0 := n2_; have BK590 := n3_; have HK := n4_; have HB := n5_; have BK599 := n6_; have GW599 := n7_; have GE599 := n8_; have NB590_599 := n9_; have NB599_590 := n10_; have NB0_599 := n11_; have NB599_0 := n12_; clear n0_ n1_ n2_ n3_ n4_ n5_ n6_ n7_ n8_ n9_ n10_ n11_ n12_; clear hb hbox hg; obtain ⟨Ao11, co11, eo11⟩ := Kd.R_slice HO593.out; subst eo11; have hnb12 := NB599_590.out; have hnc12 := NB590_599.out; have hnb13 := NB599_0.out; have hnc13 := NB0_599.out; have hcz14_0 : w10.cell? ⟨gb599, 0, none⟩ = some (.slice none 0 0) := (blk_cell BK599.out 0).trans rfl; have hcz14_1 : w10.cell? ⟨gb599, 1, none⟩ = some (.slice none 0 0) := (blk_cell BK599.out 1).trans rfl; have hfz14_0 := blk_frozen BK599.out 0; have hfz14_1 := blk_frozen BK599.out 1; obtain ⟨Ao15, co15, eo15⟩ := Kd.S_slice HO596.out; subst eo15) | ((with_reducible refine gate_callee (f := 107) rfl ?_); refine gL_ (some 7) Try.func107 #[.pointer (some ⟨g, 0, none⟩), .int .i64 12] ?_; (with_reducible refine (spec_l1Below.calls g s0_0 t597 t598 12 t600 t601 t602 w0 _ ?side1 ?side2 A3.out).mono ?_); (case side1 => exact zp32_3_ HI0.out NB0_590.out NB0_599.out); (case side2 => exact zp32_4_ HB.out (IsS125.ge HI0.out) GE590.out GE599.out); rintro e w16 ⟨rfl, hi, hb, hk⟩; refine ⟨_, rfl, ?_⟩; have n0_ := am_ (KeepBut.blk hk (g' := gb590) (o := .cells #[.slice none 0 0, .slice none 0 0] 27 (0, 0)) (by refine rb_ ?_; refine blk_far ?_ NB590_599.out _; refine rb_ ?_; refine blk_far ?_ NB590_599.out _; refine rb_ ?_; exact BK590.out) NB590_0.out (by simp)); have n1_ := am_ (Kd.R_mono (Kd.R_keep (IsS125.apart (show IsS125 w0 _ g s0_0 t597 t598 from by exact zp32_3_ HI0.out NB0_590.out NB0_599.out) (rr_ (Kd.R_mono (Kd.R_far (p := ⟨gb599, 1, none⟩) (Kd.R_far (p := ⟨gb599, 0, none⟩) (Kd.R_types HO593.out BK599.out (by decide)) (fun _ hk => hk.2) (.slice Ao11 t591.length co11)) (fun _ hk => hk.2) (.slice Ao15 t594.length co15)) (fun _ h_ => h_.1))) (by decide)) hk (fun _ h => h.2)) (fun _ h => h.1)); have n2_ := am_ (Kd.S_mono (Kd.S_keep (IsS125.apartS (show IsS125 w0 _ g s0_0 t597 t598 from by exact zp32_3_ HI0.out NB0_590.out NB0_599.out) (rs_ (Kd.S_mono (Kd.S_far (p := ⟨gb599, 1, none⟩) (Kd.S_far (p := ⟨gb599, 0, none⟩) (Kd.S_types HO596.out BK599.out (by decide)) (fun _ hk => hk.2) (.slice Ao11 t591.length co11)) (fun _ hk => hk.2) (.slice Ao15 t594.length co15)) (fun _ h_ => h_.1))) (by decide)) hk (fun _ h => h.2)) (fun _ h => h.1)); have n3_ := am_ (KeepBut.blk hk (g' := gb599) (o := .cells #[.slice Ao11 t591.length co11, .slice Ao15 t594.length co15] 27 (0, 0)) (by refine rb_ ?_; refine blk_put (cs := #[.slice Ao11 t591.length co11, .slice none 0 0]) ?_ 1 _ rfl; refine rb_ ?_; refine blk_put (cs := #[.slice none 0 0, .slice none 0 0]) ?_ 0 _ rfl; refine rb_ ?_; exact BK599.out) NB599_0.out (by simp)); have n4_ := am_ (KeepBut.trans (k2_ HK.out GW590.out GW599.out) hk (.inl rfl)); have n5_ := am_ (hb); have n6_ := am_ (hi); clear BK590; clear HO593; clear HO596; clear BK599; clear HK; clear HB; clear HI0; have BK590 := n0_; have HO593 := n1_; have HO596 := n2_; have BK599 := n3_; have HK := n4_; have HB := n5_; have HI0 := n6_; clear n0_ n1_ n2_ n3_ n4_ n5_ n6_; (try clear hb); (try clear hb2); (try clear hk); (try clear hi)))
    replace HO593 := am_ (Kd.R_drew HO593.out)
    replace HO596 := am_ (Kd.S_drew HO596.out)
    replace BK590 := am_ (blk_drew BK590.out)
    replace BK599 := am_ (blk_drew BK599.out)
    replace HI0 := am_ (IsS125.drew HI0.out)
    replace HK := am_ (keep_drew HK.out)
    replace HB := am_ (below_drew1 HB.out)
    have p603 : 0 ≤ (0 : Int) := (by omega)
    have q603 : 0 < (t594.length : Int) := of_decide_eq_true ah_
    obtain ⟨ad603, A603_0, c603_0, e603, hx603_0, hl603_0, hi603_0⟩ := at_L1 (Kd.S_reads' HO596.out).2.2 0 p603 q603
    cases e603
    obtain ⟨ce603, hce603, hMe603, hcc603⟩ := Kd.S_get HO596.out [] 0 p603 (by first | exact q603 | exact of_decide_eq_true ah_ | (have e_ := (Kd.S_reads' HO596.out).1; omega))
    obtain ⟨ve603_0, rfl, ge603_0⟩ := hMe603
    have hv603_0 := hcc603 0 _ rfl
    rw [Nat.add_zero, show ((Kd.slice 3 (Kd.int .i64))).sz = 1 from rfl, Nat.mul_one] at hv603_0
    replace hv603_0 := Option.some.inj (hv603_0.symm.trans hx603_0)
    rw [hv603_0] at ge603_0
    have HL603_0 := am_ (show Kd.R (Kd.int .i64) 3 _ _ _ _ (rd_L1 t594 0) from ge603_0)
    clear hv603_0 ge603_0
    have HX603_0 := am_ hx603_0
    clear hcc603 hce603
    have qi603 : (0 < t594.length) = True := eq_true (by omega)
    (try rw [show ((0 : Int)).toNat = 0 from rfl] at hx603_0)
    (try rw [Addr.add_zero'] at hx603_0)
    have HR603_0 := am_ hi603_0
    have HC603_0 := am_ hl603_0
    clear hi603_0 hl603_0
    replace p603 := eq_true p603
    replace q603 := eq_true q603
    have p7 : 0 ≤ (0 : Int) := (by omega)
    have q7 : (0 : Int) < (((rd_L1 t594 0).length : Int) : Int) := of_decide_eq_true ah_
    have qi7 : (0 < (rd_L1 t594 0).length) = True := eq_true (by omega)
    obtain ⟨go7, co7, eo7, gb7, gl7, cl7, HG7⟩ := Kd.R_form HL603_0.out (by omega)
    (first | cases eo7 | (injection eo7 with ea_ en_ ec_; (first | subst ea_ | (injection ea_ with ea_; subst ea_)); subst ec_; clear en_))
    have GB7 := am_ gb7
    have GG7 := am_ HG7
    clear gb7 gl7 HG7
    obtain ⟨hx7_0, hf7_0⟩ := Kd.R_celln 0 HL603_0.out (0 : Int) p7 q7
    (try rw [show ((0 : Int)).toNat = 0 from rfl] at hx7_0)
    (try simp only [Nat.reduceMul, Nat.zero_mul, Nat.zero_add, Nat.reduceAdd] at hx7_0)
    (try rw [show ((0 : Int)).toNat = 0 from rfl] at hf7_0)
    (try simp only [Nat.reduceMul, Nat.zero_mul, Nat.zero_add, Nat.reduceAdd] at hf7_0)
    replace p7 := eq_true p7
    replace q7 := eq_true q7
    have hq18 : (0 : Int) < (t594.length : Int) := (by have h_ : (0 : Int) < ((t594.length : Int) : Int) := of_decide_eq_true ah_; first | exact h_ | (have e_ := (Kd.S_reads' HO596.out).1; omega) | simpa only [List.length_set, List.length_set] using h_)
    obtain ⟨oki18, ce18, hcl18, hM18, hcc18, hok18, hbk18⟩ := Kd.S_borrow HO596.out [] (0 : Int) (by omega) hq18
    obtain ⟨ve18_0, rfl, ge18_0⟩ := hM18
    have hv18 := hcc18 0 _ rfl
    rw [Nat.add_zero, show ((Kd.slice 3 (Kd.int .i64))).sz = 1 from rfl, Nat.mul_one] at hv18
    replace hv18 := Option.some.inj (hv18.symm.trans HX603_0.out)
    subst hv18
    clear hcc18 hcl18
    replace ge18_0 := (show Kd.R (Kd.int .i64) 3 _ _ _ _ (rd_L1 t594 0) from ge18_0)
    have HP18 := Kd.R_putg ge18_0 (0 : Int) (t591.length : Int)
    have HN0_go7 := am_ (show g ≠ go7 from by have h_ := IsS125.own_ne HI0.out HL603_0.out (by decide); intro e_; exact h_ (by rw [e_]; rfl))
    rw [← Ny604.out] at HP18
    have HS18 := hbk18 HP18.2 (fun k_ e_ => by injection e_ with e_; subst e_; exact ge18_0.1 _ rfl) (x' := y604) (Kd.M_row HP18.1)
    rw [← Ny606.out] at HS18
    have HQ18 := am_ HS18
    clear HP18 HS18 hbk18 hok18
    refine start_ (n := 9) (S := fun w' => w'.cell? ⟨gb599, 0, none⟩ = some (.slice Ao11 t591.length co11) ∧ w'.cell? ⟨gb599, 1, none⟩ = some (.slice (some ad603) t594.length co15) ∧ w'.cell? ad603 = some (.slice (some ⟨go7, 0, none⟩) (rd_L1 t594 0).length c603_0)) (ds := [8]) (bl 9 0) (by kernel_rfl) rfl rfl ⟨(blk_cell BK599.out 0).trans rfl, (blk_cell BK599.out 1).trans rfl, hx603_0⟩ (fun hHeld => ?_); refine with_tabW spec_l5Bent.tab4 spec_l5Bent.bits4 (fun HT_ HW_ => ?_)
    generalize w16.drew = w17 at HO593 HO596 BK590 BK599 HI0 HK HB GG7 HL603_0 HQ18 HR603_0 HX603_0 hf7_0 hx603_0 hx7_0 hHeld ⊢
    refine pu_ 0 10 (bl 9 1) HT_ ?_
    refine pu_ 4 14 (bl 9 17) HT_ ?_
    refine tk_ 1 11 (bl 9 19) HT_ HW_ hHeld ?_
    refine pu_ 2 12 (bl 9 23) HT_ ?_
    refine tk_ 3 13 (bl 9 31) HT_ HW_ hHeld ?_
    refine tk_ 5 15 (bl 9 63) HT_ HW_ hHeld ?_
    refine pu_ 6 16 (bl 9 127) HT_ ?_
    refine pu_ 7 17 (bl 9 255) HT_ ?_
    refine last_ (i := 8) (N := none) (bl 9 511) rfl rfl (one_of HT_.out (by kernel_rfl)) (by decide) (fun K hK => ?_)
    refine skip_ (w1 := ?_) (by rfl) rfl ?_ ?_
    rotate_left
    ·go_simp
     rfl
    refine hK.out _ _ ?_
    clear hK K
    refine done_ (done_of HT_.out (by kernel_rfl)) ?_
    have n0_ : Aside0 (Kd.R Kd.bool 4 (w17.setCell ⟨go7, 0, none⟩ (.int .i64 (t591.length : Int))) w.heap.size (fun _ => True) (.slice Ao11 t591.length co11) t591) := ⟨by refine rr_ ?_; exact Kd.R_mono (Kd.R_far (p := ⟨go7, 0, none⟩) (Kd.R_types HO593.out GG7.out (by decide)) (fun _ hk => hk.2) (.int .i64 (t591.length : Int))) (fun _ hk => trivial)⟩
    have n1_ : Aside0 (Kd.S (Kd.slice 3 (Kd.int .i64)) 67 (w17.setCell ⟨go7, 0, none⟩ (.int .i64 (t591.length : Int))) w.heap.size (fun _ => True) (.slice (some ad603) t594.length co15) y606) := ⟨by refine rs_ ?_; exact HQ18.out⟩
    have n2_ : Aside0 ((w17.setCell ⟨go7, 0, none⟩ (.int .i64 (t591.length : Int))).heap[gb590]? = some (.cells #[.slice none 0 0, .slice none 0 0] 27 (0, 0))) := ⟨by refine rb_ ?_; refine blk_far ?_ (by have h_ := Kd.R_ne HL603_0.out BK590.out (by decide); intro e_; exact h_ (by rw [e_]; rfl)) _; refine rb_ ?_; exact BK590.out⟩
    have n3_ : Aside0 ((w17.setCell ⟨go7, 0, none⟩ (.int .i64 (t591.length : Int))).heap[gb599]? = some (.cells #[.slice Ao11 t591.length co11, .slice (some ad603) t594.length co15] 27 (0, 0))) := ⟨by refine rb_ ?_; refine blk_far ?_ (by have h_ := Kd.R_ne HL603_0.out BK599.out (by decide); intro e_; exact h_ (by rw [e_]; rfl)) _; refine rb_ ?_; exact BK599.out⟩
    have n4_ : Aside0 (IsS125 w0 (w17.setCell ⟨go7, 0, none⟩ (.int .i64 (t591.length : Int))) g s0_0 t601 t602) := ⟨by repeat (first | (with_reducible first | exact HI0.out | apply IsS125.alloc | apply IsS125.drewN | apply IsS125.drew | apply IsS125.set_1 | apply IsS125.set_2 | refine IsS125.far ?_ HN0_go7.out _ | refine IsS125.far ?_ NB0_590.out _ | refine IsS125.far ?_ NB0_599.out _) | exact HI0.out)⟩
    have n5_ : Aside0 (KeepBut w (w17.setCell ⟨go7, 0, none⟩ (.int .i64 (t591.length : Int))) g none) := ⟨by repeat (first | (with_reducible first | exact HK.out | apply KeepBut.set_ | apply keep_drewN | apply keep_drew | apply keep_alloc | refine keep_far ?_ GB7.out _ | refine keep_far ?_ GW590.out _ | refine keep_far ?_ GW599.out _) | exact HK.out)⟩
    have n6_ : Aside0 (Below w0.heap.size w0 (w17.setCell ⟨go7, 0, none⟩ (.int .i64 (t591.length : Int)))) := ⟨by repeat (first | (with_reducible first | exact HB.out | apply below_alloc | apply pw_below_drewN | apply below_drew1 | refine below_set ?_ (Nat.le_trans HL.out GB7.out) | refine below_set ?_ (IsS125.ge HI0.out) | refine below_set ?_ GE590.out | refine below_set ?_ GE599.out) | exact HB.out)⟩
    (try clear HO593)
    (try clear HO596)
    (try clear BK590)
    (try clear BK599)
    (try clear HI0)
    (try clear HK)
    (try clear HB)
    generalize (w17.setCell ⟨go7, 0, none⟩ (.int .i64 (t591.length : Int))) = w20 at n0_ n1_ n2_ n3_ n4_ n5_ n6_ ⊢
    have HO593 := n0_; have HO596 := n1_; have BK590 := n2_; have BK599 := n3_; have HI0 := n4_; have HK := n5_; have HB := n6_
    clear n0_ n1_ n2_ n3_ n4_ n5_ n6_
    have hcz21_0 : w20.cell? ⟨gb599, 0, none⟩ = some (.slice Ao11 t591.length co11) := (blk_cell BK599.out 0).trans rfl
    have hcz21_1 : w20.cell? ⟨gb599, 1, none⟩ = some (.slice (some ad603) t594.length co15) := (blk_cell BK599.out 1).trans rfl
    have hfz21_0 := blk_frozen BK599.out 0
    have hfz21_1 := blk_frozen BK599.out 1
    have hnb22 := NB590_0.out
    have hnc22 := NB0_590.out
    have hcz23_0 : w20.cell? ⟨gb590, 0, none⟩ = some (.slice none 0 0) := (blk_cell BK590.out 0).trans rfl
    have hcz23_1 : w20.cell? ⟨gb590, 1, none⟩ = some (.slice none 0 0) := (blk_cell BK590.out 1).trans rfl
    have hfz23_0 := blk_frozen BK590.out 0
    have hfz23_1 := blk_frozen BK590.out 1
    try go_wp2
    refine bodyPost_ret (results_cell_row rfl _ _ gb590 27 #[.slice Ao11 t591.length co11, .slice (some ad603) t594.length co15] (0, 0) _ rfl (by refine rb_ ?_; refine blk_put (cs := #[.slice Ao11 t591.length co11, .slice none 0 0]) ?_ 1 _ rfl; refine rb_ ?_; refine blk_put (cs := #[.slice none 0 0, .slice none 0 0]) ?_ 0 _ rfl; refine rb_ ?_; exact BK590.out) Try.underlying27 rfl (by kernel_rfl)) rfl ?_
    exact ⟨_, _, by first | rfl | (simp [errW_none, errW_some] <;> rfl) | (simp [*, errW_none, errW_some] <;> rfl), by refine rr_ ?_; exact Kd.R_mono (Kd.R_far (p := ⟨gb590, 1, none⟩) (Kd.R_far (p := ⟨gb590, 0, none⟩) (Kd.R_types HO593.out BK590.out (by decide)) (fun _ hk => hk.2) (.slice Ao11 t591.length co11)) (fun _ hk => hk.2) (.slice (some ad603) t594.length co15)) (fun _ hk => trivial), by refine rs_ ?_; exact Kd.S_mono (Kd.S_far (p := ⟨gb590, 1, none⟩) (Kd.S_far (p := ⟨gb590, 0, none⟩) (Kd.S_types HO596.out BK590.out (by decide)) (fun _ hk => hk.2) (.slice Ao11 t591.length co11)) (fun _ hk => hk.2) (.slice (some ad603) t594.length co15)) (fun _ hk => trivial), by exact zp32_3_ HI0.out NB0_590.out NB0_599.out, by exact zp32_4_ HB.out (IsS125.ge HI0.out) GE590.out GE599.out, by exact zp32_5_ HK.out GW590.out GW599.out⟩
   ·rw [if_neg c6] at H
    exact absurd H (by simp)
  ·rw [if_neg c5] at H
   exact absurd H (by simp)
 ·rw [if_neg c4] at H
  have c4b0 : (t600 == 0) = false := beq_eq_false_iff_ne.mpr c4
  have c4b1 : (t600 != 0) = true := bne_iff_ne.mpr c4
  by_cases c24 : t600 = 1
  ·rw [if_pos c24] at H
   have c24b0 : (t600 == 1) = true := beq_iff_eq.mpr c24
   have c24b1 : (t600 != 1) = false := bne_eq_false_iff_eq.mpr c24
   clear c24
   by_cases c25 : t591.length < 140737488355328
   ·rw [if_pos c25] at H
    have LMc25 := am_ c25
    clear c25
    obtain ⟨y607, hy607⟩ : ∃ y_ : List Bool, y_ = (t591 ++ [true]) := ⟨_, rfl⟩
    replace H : (some (y607, t594, t601, t602)) = some (r1, r2, r3, r4) := by first | (rw [hy607]; with_reducible exact H) | (have H2_ := (Option.bind_some _ _).symm.trans H; rw [hy607]; with_reducible exact H2_) | (have H2_ := (Option.bind_some _ _).symm.trans H; with_reducible exact H2_) | with_reducible exact H | (rw [hy607]; exact H) | exact H
    have Ny607 := am_ hy607
    clear hy607
    simp only [Option.some.injEq, Prod.mk.injEq] at H
    obtain ⟨rfl, rfl, rfl, rfl⟩ := H
    go_enter Try.func88, Try.ntmps88
    go_wp2_with (first | ((with_reducible refine gate_dst (N := 2) rfl ?_); refine box_event ?hg (N := 2) ?hd (cs := #[.slice none 0 0, .slice none 0 0]) (t := 27) ?hr ?_; (case hd => rfl); (case hg => rfl); (case hr => first | (go_simp; done) | (go_simp; rfl)); intro gb590 hg w26 hbox hb; have n0_ := am_ (IsS125.below (zp32_0_ HI0.out) hb); have n1_ := am_ (KeepBut.trans (k0_ HK.out) (KeepBut.of_below hb g none) (.inl rfl)); have n2_ := am_ (below_step (b1_ HB.out (IsS125.ge HI0.out)) hb); have n3_ := am_ (hbox); have n4_ := am_ ((by rw [hg]; exact (keep_size (w := w) (g := g) (row := none) (k0_ HK.out)) : w.heap.size ≤ gb590)); have n5_ := am_ ((Nat.le_trans HW0.out (by rw [hg]; exact (keep_size (w := w) (g := g) (row := none) (k0_ HK.out)) : w.heap.size ≤ gb590) : w0.heap.size ≤ gb590)); have n6_ := am_ ((by rw [hg]; exact Nat.ne_of_lt (IsS125.lt (show IsS125 w0 _ g s0_0 s0_1 s0_2 from by exact zp32_0_ HI0.out)) : g ≠ gb590)); have n7_ := am_ ((by rw [hg]; exact Nat.ne_of_gt (IsS125.lt (show IsS125 w0 _ g s0_0 s0_1 s0_2 from by exact zp32_0_ HI0.out)) : gb590 ≠ g)); clear HI0; clear HK; clear HB; have HI0 := n0_; have HK := n1_; have HB := n2_; have BK590 := n3_; have GW590 := n4_; have GE590 := n5_; have NB0_590 := n6_; have NB590_0 := n7_; clear n0_ n1_ n2_ n3_ n4_ n5_ n6_ n7_; clear hb hbox hg) | ((with_reducible refine gate_callee (f := 86) rfl ?_); refine gL_ (some 5) Try.func86 #[.pointer (some ⟨g, 0, none⟩), .int .i64 5] ?_; (with_reducible refine (spec_l5Draw.calls k g s0_0 s0_1 s0_2 5 t591 t594 t597 t598 w0 _ ?side1 ?side2 A2.out).mono ?_); (case side1 => exact zp32_1_ HI0.out NB0_590.out); (case side2 => exact zp32_2_ HB.out (IsS125.ge HI0.out) GE590.out); rintro e w27 ⟨v592, v595, rfl, ho0, ho1, hi, hb, hk⟩; refine ⟨_, rfl, ?_⟩; have n0_ := am_ (KeepBut.blk hk (g' := gb590) (o := .cells #[.slice none 0 0, .slice none 0 0] 27 (0, 0)) (rb_ BK590.out) NB590_0.out (by simp)); have n1_ := am_ (Kd.R_lower ho0 (keep_size (w := w) (g := g) (row := none) (k1_ HK.out GW590.out))); have n2_ := am_ (Kd.S_lower ho1 (keep_size (w := w) (g := g) (row := none) (k1_ HK.out GW590.out))); have n3_ := am_ (KeepBut.trans (k1_ HK.out GW590.out) hk (.inl rfl)); have n4_ := am_ (hb); have n5_ := am_ (hi); clear BK590; clear HK; clear HB; clear HI0; have BK590 := n0_; have HO593 := n1_; have HO596 := n2_; have HK := n3_; have HB := n4_; have HI0 := n5_; clear n0_ n1_ n2_ n3_ n4_ n5_; (try clear hb); (try clear hb2); (try clear hk); (try clear hi); (try clear ho0); (try clear ho1)) | ((with_reducible refine gate_dst (N := 3) rfl ?_); refine box_event ?hg (N := 3) ?hd (cs := #[.slice none 0 0, .slice none 0 0]) (t := 27) ?hr ?_; (case hd => rfl); (case hg => rfl); (case hr => first | (go_simp; done) | (go_simp; rfl)); intro gb599 hg w28 hbox hb; have n0_ := am_ (Kd.R_below (rr_ HO593.out) hb); have n1_ := am_ (Kd.S_below (rs_ HO596.out) hb); have n2_ := am_ (IsS125.below (zp32_1_ HI0.out NB0_590.out) hb); have n3_ := am_ (blk_below (rb_ BK590.out) hb); have n4_ := am_ (KeepBut.trans (k1_ HK.out GW590.out) (KeepBut.of_below hb g none) (.inl rfl)); have n5_ := am_ (below_step (b2_ HB.out (IsS125.ge HI0.out) GE590.out) hb); have n6_ := am_ (hbox); have n7_ := am_ ((by rw [hg]; exact (keep_size (w := w) (g := g) (row := none) (k1_ HK.out GW590.out)) : w.heap.size ≤ gb599)); have n8_ := am_ ((Nat.le_trans HW0.out (by rw [hg]; exact (keep_size (w := w) (g := g) (row := none) (k1_ HK.out GW590.out)) : w.heap.size ≤ gb599) : w0.heap.size ≤ gb599)); have n9_ := am_ ((by rw [hg]; exact Nat.ne_of_lt (blk_lt (rb_ BK590.out)) : gb590 ≠ gb599)); have n10_ := am_ ((by rw [hg]; exact Nat.ne_of_gt (blk_lt (rb_ BK590.out)) : gb599 ≠ gb590)); have n11_ := am_ ((by rw [hg]; exact Nat.ne_of_lt (IsS125.lt (show IsS125 w0 _ g s0_0 t597 t598 from by exact zp32_1_ HI0.out NB0_590.out)) : g ≠ gb599)); have n12_ := am_ ((by rw [hg]; exact Nat.ne_of_gt (IsS125.lt (show IsS125 w0 _ g s0_0 t597 t598 from by exact zp32_1_ HI0.out NB0_590.out)) : gb599 ≠ g)); clear HO593; clear HO596; clear HI0; clear BK590; clear HK; clear HB; have HO593 := n0_; have HO596 := n1_; have HI0 := n2_; have BK590 := n3_; have HK := n4_; have HB := n5_; have BK599 := n6_; have GW599 := n7_; have GE599 := n8_; have NB590_599 := n9_; have NB599_590 := n10_; have NB0_599 := n11_; have NB599_0 := n12_; clear n0_ n1_ n2_ n3_ n4_ n5_ n6_ n7_ n8_ n9_ n10_ n11_ n12_; clear hb hbox hg; obtain ⟨Ao29, co29, eo29⟩ := Kd.R_slice HO593.out; subst eo29; have hnb30 := NB599_590.out; have hnc30 := NB590_599.out; have hnb31 := NB599_0.out; have hnc31 := NB0_599.out; have hcz32_0 : w28.cell? ⟨gb599, 0, none⟩ = some (.slice none 0 0) := (blk_cell BK599.out 0).trans rfl; have hcz32_1 : w28.cell? ⟨gb599, 1, none⟩ = some (.slice none 0 0) := (blk_cell BK599.out 1).trans rfl; have hfz32_0 := blk_frozen BK599.out 0; have hfz32_1 := blk_frozen BK599.out 1; obtain ⟨Ao33, co33, eo33⟩ := Kd.S_slice HO596.out; subst eo33) | ((with_reducible refine gate_callee (f := 107) rfl ?_); refine gL_ (some 7) Try.func107 #[.pointer (some ⟨g, 0, none⟩), .int .i64 12] ?_; (with_reducible refine (spec_l1Below.calls g s0_0 t597 t598 12 t600 t601 t602 w0 _ ?side1 ?side2 A3.out).mono ?_); (case side1 => exact zp32_3_ HI0.out NB0_590.out NB0_599.out); (case side2 => exact zp32_4_ HB.out (IsS125.ge HI0.out) GE590.out GE599.out); rintro e w34 ⟨rfl, hi, hb, hk⟩; refine ⟨_, rfl, ?_⟩; have n0_ := am_ (KeepBut.blk hk (g' := gb590) (o := .cells #[.slice none 0 0, .slice none 0 0] 27 (0, 0)) (by refine rb_ ?_; refine blk_far ?_ NB590_599.out _; refine rb_ ?_; refine blk_far ?_ NB590_599.out _; refine rb_ ?_; exact BK590.out) NB590_0.out (by simp)); have n1_ := am_ (Kd.R_mono (Kd.R_keep (IsS125.apart (show IsS125 w0 _ g s0_0 t597 t598 from by exact zp32_3_ HI0.out NB0_590.out NB0_599.out) (rr_ (Kd.R_mono (Kd.R_far (p := ⟨gb599, 1, none⟩) (Kd.R_far (p := ⟨gb599, 0, none⟩) (Kd.R_types HO593.out BK599.out (by decide)) (fun _ hk => hk.2) (.slice Ao29 t591.length co29)) (fun _ hk => hk.2) (.slice Ao33 t594.length co33)) (fun _ h_ => h_.1))) (by decide)) hk (fun _ h => h.2)) (fun _ h => h.1)); have n2_ := am_ (Kd.S_mono (Kd.S_keep (IsS125.apartS (show IsS125 w0 _ g s0_0 t597 t598 from by exact zp32_3_ HI0.out NB0_590.out NB0_599.out) (rs_ (Kd.S_mono (Kd.S_far (p := ⟨gb599, 1, none⟩) (Kd.S_far (p := ⟨gb599, 0, none⟩) (Kd.S_types HO596.out BK599.out (by decide)) (fun _ hk => hk.2) (.slice Ao29 t591.length co29)) (fun _ hk => hk.2) (.slice Ao33 t594.length co33)) (fun _ h_ => h_.1))) (by decide)) hk (fun _ h => h.2)) (fun _ h => h.1)); have n3_ := am_ (KeepBut.blk hk (g' := gb599) (o := .cells #[.slice Ao29 t591.length co29, .slice Ao33 t594.length co33] 27 (0, 0)) (by refine rb_ ?_; refine blk_put (cs := #[.slice Ao29 t591.length co29, .slice none 0 0]) ?_ 1 _ rfl; refine rb_ ?_; refine blk_put (cs := #[.slice none 0 0, .slice none 0 0]) ?_ 0 _ rfl; refine rb_ ?_; exact BK599.out) NB599_0.out (by simp)); have n4_ := am_ (KeepBut.trans (k2_ HK.out GW590.out GW599.out) hk (.inl rfl)); have n5_ := am_ (hb); have n6_ := am_ (hi); clear BK590; clear HO593; clear HO596; clear BK599; clear HK; clear HB; clear HI0; have BK590 := n0_; have HO593 := n1_; have HO596 := n2_; have BK599 := n3_; have HK := n4_; have HB := n5_; have HI0 := n6_; clear n0_ n1_ n2_ n3_ n4_ n5_ n6_; (try clear hb); (try clear hb2); (try clear hk); (try clear hi); have hcz35_0 : w34.cell? ⟨gb599, 0, none⟩ = some (.slice Ao29 t591.length co29) := (blk_cell BK599.out 0).trans rfl; have hcz35_1 : w34.cell? ⟨gb599, 1, none⟩ = some (.slice Ao33 t594.length co33) := (blk_cell BK599.out 1).trans rfl; have hfz35_0 := blk_frozen BK599.out 0; have hfz35_1 := blk_frozen BK599.out 1) | ((with_reducible refine gate_builtin (b := .append) (xs := #[.tmp 21, .tmp 22]) rfl ?_); at_builtin; refine Kd.R_append Kd.bool w.heap.size rfl (.tmp 21) (.tmp 22) 22 4 (.bool false) 1 rfl Try.underlying22 info4 rfl (by decide) (by omega) (.slice Ao29 t591.length co29) t591 true [.bool true] (fun _ => True) (fun _ => False) rfl rfl ?aP (fun _ hk => hk.elim) ?aF ?aO (Below.refl _ _) ?aS ?aL ?_; (case aP => exact rfl); (case aF => exact (fun _ _ => trivial)); (case aO => exact (rr_ HO593.out)); (case aS => exact (keep_size (w := w) (g := g) (row := none) (k2_ HK.out GW590.out GW599.out))); (case aL => have := LMc25.out; omega); intro v608 w36 ho hb hg hat; rw [← Ny607.out] at ho; have n0_ := am_ (IsS125.grown (zp32_3_ HI0.out NB0_590.out NB0_599.out) hg (IsS125.own_ne HI0.out HO593.out (by decide))); have n1_ := am_ (blk_grown (g := gb590) (o := .cells #[.slice none 0 0, .slice none 0 0] 27 (0, 0)) (rb_ BK590.out) hg (Kd.R_ne HO593.out BK590.out (by decide))); have n2_ := am_ (Kd.S_over' (rs_ HO596.out) (Kd.R_typed (rr_ HO593.out)) (by decide) hg); have n3_ := am_ (blk_grown (g := gb599) (o := .cells #[.slice Ao29 t591.length co29, .slice Ao33 t594.length co33] 27 (0, 0)) (rb_ BK599.out) hg (Kd.R_ne HO593.out BK599.out (by decide))); have n4_ := am_ (below_weaken (b3_ HB.out (IsS125.ge HI0.out) GE590.out GE599.out) HL.out hb); have n5_ := am_ (KeepBut.trans (k2_ HK.out GW590.out GW599.out) (KeepBut.of_grown hg g) (Kd.R_base2 HO593.out)); have n6_ := am_ (ho); clear HI0; clear BK590; clear HO596; clear BK599; clear HB; clear HK; clear HO593; have HI0 := n0_; have BK590 := n1_; have HO596 := n2_; have BK599 := n3_; have HB := n4_; have HK := n5_; have HO609 := n6_; clear n0_ n1_ n2_ n3_ n4_ n5_ n6_; clear ho hb hg hat; obtain ⟨Ao37, co37, eo37⟩ := Kd.R_slice HO609.out; subst eo37; have hcz38_0 : w36.cell? ⟨gb599, 0, none⟩ = some (.slice Ao29 t591.length co29) := (blk_cell BK599.out 0).trans rfl; have hcz38_1 : w36.cell? ⟨gb599, 1, none⟩ = some (.slice Ao33 t594.length co33) := (blk_cell BK599.out 1).trans rfl; have hfz38_0 := blk_frozen BK599.out 0; have hfz38_1 := blk_frozen BK599.out 1; have hnb39 := NB590_0.out; have hnc39 := NB0_590.out; have hcz40_0 : w36.cell? ⟨gb590, 0, none⟩ = some (.slice none 0 0) := (blk_cell BK590.out 0).trans rfl; have hcz40_1 : w36.cell? ⟨gb590, 1, none⟩ = some (.slice none 0 0) := (blk_cell BK590.out 1).trans rfl; have hfz40_0 := blk_frozen BK590.out 0; have hfz40_1 := blk_frozen BK590.out 1))
    refine bodyPost_ret (results_cell_row rfl _ _ gb590 27 #[.slice Ao37 y607.length co37, .slice Ao33 t594.length co33] (0, 0) _ rfl (by refine rb_ ?_; refine blk_put (cs := #[.slice Ao37 y607.length co37, .slice none 0 0]) ?_ 1 _ rfl; refine rb_ ?_; refine blk_put (cs := #[.slice none 0 0, .slice none 0 0]) ?_ 0 _ rfl; refine rb_ ?_; refine blk_far ?_ NB590_599.out _; refine rb_ ?_; exact BK590.out) Try.underlying27 rfl (by kernel_rfl)) rfl ?_
    exact ⟨_, _, by first | rfl | (simp [errW_none, errW_some] <;> rfl) | (simp [*, errW_none, errW_some] <;> rfl), by refine rr_ ?_; exact Kd.R_mono (Kd.R_far (p := ⟨gb590, 1, none⟩) (Kd.R_far (p := ⟨gb590, 0, none⟩) (Kd.R_far (p := ⟨gb599, 0, none⟩) (Kd.R_types (Kd.R_types HO609.out BK599.out (by decide)) BK590.out (by decide)) (fun _ hk => hk.1.2) (.slice Ao37 y607.length co37)) (fun _ hk => hk.2) (.slice Ao37 y607.length co37)) (fun _ hk => hk.2) (.slice Ao33 t594.length co33)) (fun _ hk => trivial), by refine rs_ ?_; exact Kd.S_mono (Kd.S_far (p := ⟨gb590, 1, none⟩) (Kd.S_far (p := ⟨gb590, 0, none⟩) (Kd.S_far (p := ⟨gb599, 0, none⟩) (Kd.S_types (Kd.S_types HO596.out BK599.out (by decide)) BK590.out (by decide)) (fun _ hk => hk.1.2) (.slice Ao37 y607.length co37)) (fun _ hk => hk.2) (.slice Ao37 y607.length co37)) (fun _ hk => hk.2) (.slice Ao33 t594.length co33)) (fun _ hk => trivial), by exact zp32_3_ HI0.out NB0_590.out NB0_599.out, by exact zp32_4_ HB.out (IsS125.ge HI0.out) GE590.out GE599.out, by exact zp32_5_ HK.out GW590.out GW599.out⟩
   ·rw [if_neg c25] at H
    exact absurd H (by simp)
  ·rw [if_neg c24] at H
   have c24b0 : (t600 == 1) = false := beq_eq_false_iff_ne.mpr c24
   have c24b1 : (t600 != 1) = true := bne_iff_ne.mpr c24
   by_cases c41 : t600 = 2
   ·rw [if_pos c41] at H
    have c41b0 : (t600 == 2) = true := beq_iff_eq.mpr c41
    have c41b1 : (t600 != 2) = false := bne_eq_false_iff_eq.mpr c41
    clear c41
    by_cases c42 : 0 < (t594.length : Int)
    ·rw [if_pos c42] at H
     have c42b0 : decide (0 < (t594.length : Int)) = true := decide_eq_true c42
     have c42b1 : decide (0 < t594.length) = true := decide_eq_true (by omega)
     clear c42
     by_cases c43 : (rd_L1 t594 0).length < 17592186044416
     ·rw [if_pos c43] at H
      have LMc43 := am_ c43
      clear c43
      obtain ⟨y611, hy611⟩ : ∃ y_ : List Int, y_ = ((rd_L1 t594 0) ++ [0]) := ⟨_, rfl⟩
      replace H : (some (t591, (t594.set (0 : Int).toNat y611), t601, t602)) = some (r1, r2, r3, r4) := by first | (rw [hy611]; with_reducible exact H) | (have H2_ := (Option.bind_some _ _).symm.trans H; rw [hy611]; with_reducible exact H2_) | (have H2_ := (Option.bind_some _ _).symm.trans H; with_reducible exact H2_) | with_reducible exact H | (rw [hy611]; exact H) | exact H
      have Ny611 := am_ hy611
      clear hy611
      obtain ⟨y614, hy614⟩ : ∃ y_ : List (List Int), y_ = (t594.set (0 : Int).toNat y611) := ⟨_, rfl⟩
      replace H : (some (t591, y614, t601, t602)) = some (r1, r2, r3, r4) := by first | (rw [hy614]; with_reducible exact H) | (have H2_ := (Option.bind_some _ _).symm.trans H; rw [hy614]; with_reducible exact H2_) | (have H2_ := (Option.bind_some _ _).symm.trans H; with_reducible exact H2_) | with_reducible exact H | (rw [hy614]; exact H) | exact H
      have Ny614 := am_ hy614
      clear hy614
      simp only [Option.some.injEq, Prod.mk.injEq] at H
      obtain ⟨rfl, rfl, rfl, rfl⟩ := H
      go_enter Try.func88, Try.ntmps88
      try go_wp2_with (first | ((with_reducible refine gate_dst (N := 2) rfl ?_); refine box_event ?hg (N := 2) ?hd (cs := #[.slice none 0 0, .slice none 0 0]) (t := 27) ?hr ?_; (case hd => rfl); (case hg => rfl); (case hr => first | (go_simp; done) | (go_simp; rfl)); intro gb590 hg w45 hbox hb; have n0_ := am_ (IsS125.below (zp32_0_ HI0.out) hb); have n1_ := am_ (KeepBut.trans (k0_ HK.out) (KeepBut.of_below hb g none) (.inl rfl)); have n2_ := am_ (below_step (b1_ HB.out (IsS125.ge HI0.out)) hb); have n3_ := am_ (hbox); have n4_ := am_ ((by rw [hg]; exact (keep_size (w := w) (g := g) (row := none) (k0_ HK.out)) : w.heap.size ≤ gb590)); have n5_ := am_ ((Nat.le_trans HW0.out (by rw [hg]; exact (keep_size (w := w) (g := g) (row := none) (k0_ HK.out)) : w.heap.size ≤ gb590) : w0.heap.size ≤ gb590)); have n6_ := am_ ((by rw [hg]; exact Nat.ne_of_lt (IsS125.lt (show IsS125 w0 _ g s0_0 s0_1 s0_2 from by exact zp32_0_ HI0.out)) : g ≠ gb590)); have n7_ := am_ ((by rw [hg]; exact Nat.ne_of_gt (IsS125.lt (show IsS125 w0 _ g s0_0 s0_1 s0_2 from by exact zp32_0_ HI0.out)) : gb590 ≠ g)); clear HI0; clear HK; clear HB; have HI0 := n0_; have HK := n1_; have HB := n2_; have BK590 := n3_; have GW590 := n4_; have GE590 := n5_; have NB0_590 := n6_; have NB590_0 := n7_; clear n0_ n1_ n2_ n3_ n4_ n5_ n6_ n7_; clear hb hbox hg) | ((with_reducible refine gate_callee (f := 86) rfl ?_); refine gL_ (some 5) Try.func86 #[.pointer (some ⟨g, 0, none⟩), .int .i64 5] ?_; (with_reducible refine (spec_l5Draw.calls k g s0_0 s0_1 s0_2 5 t591 t594 t597 t598 w0 _ ?side1 ?side2 A2.out).mono ?_); (case side1 => exact zp32_1_ HI0.out NB0_590.out); (case side2 => exact zp32_2_ HB.out (IsS125.ge HI0.out) GE590.out); rintro e w46 ⟨v592, v595, rfl, ho0, ho1, hi, hb, hk⟩; refine ⟨_, rfl, ?_⟩; have n0_ := am_ (KeepBut.blk hk (g' := gb590) (o := .cells #[.slice none 0 0, .slice none 0 0] 27 (0, 0)) (rb_ BK590.out) NB590_0.out (by simp)); have n1_ := am_ (Kd.R_lower ho0 (keep_size (w := w) (g := g) (row := none) (k1_ HK.out GW590.out))); have n2_ := am_ (Kd.S_lower ho1 (keep_size (w := w) (g := g) (row := none) (k1_ HK.out GW590.out))); have n3_ := am_ (KeepBut.trans (k1_ HK.out GW590.out) hk (.inl rfl)); have n4_ := am_ (hb); have n5_ := am_ (hi); clear BK590; clear HK; clear HB; clear HI0; have BK590 := n0_; have HO593 := n1_; have HO596 := n2_; have HK := n3_; have HB := n4_; have HI0 := n5_; clear n0_ n1_ n2_ n3_ n4_ n5_; (try clear hb); (try clear hb2); (try clear hk); (try clear hi); (try clear ho0); (try clear ho1)) | ((with_reducible refine gate_dst (N := 3) rfl ?_); refine box_event ?hg (N := 3) ?hd (cs := #[.slice none 0 0, .slice none 0 0]) (t := 27) ?hr ?_; (case hd => rfl); (case hg => rfl); (case hr => first | (go_simp; done) | (go_simp; rfl)); intro gb599 hg w47 hbox hb; have n0_ := am_ (Kd.R_below (rr_ HO593.out) hb); have n1_ := am_ (Kd.S_below (rs_ HO596.out) hb); have n2_ := am_ (IsS125.below (zp32_1_ HI0.out NB0_590.out) hb); have n3_ := am_ (blk_below (rb_ BK590.out) hb); have n4_ := am_ (KeepBut.trans (k1_ HK.out GW590.out) (KeepBut.of_below hb g none) (.inl rfl)); have n5_ := am_ (below_step (b2_ HB.out (IsS125.ge HI0.out) GE590.out) hb); have n6_ := am_ (hbox); have n7_ := am_ ((by rw [hg]; exact (keep_size (w := w) (g := g) (row := none) (k1_ HK.out GW590.out)) : w.heap.size ≤ gb599)); have n8_ := am_ ((Nat.le_trans HW0.out (by rw [hg]; exact (keep_size (w := w) (g := g) (row := none) (k1_ HK.out GW590.out)) : w.heap.size ≤ gb599) : w0.heap.size ≤ gb599)); have n9_ := am_ ((by rw [hg]; exact Nat.ne_of_lt (blk_lt (rb_ BK590.out)) : gb590 ≠ gb599)); have n10_ := am_ ((by rw [hg]; exact Nat.ne_of_gt (blk_lt (rb_ BK590.out)) : gb599 ≠ gb590)); have n11_ := am_ ((by rw [hg]; exact Nat.ne_of_lt (IsS125.lt (show IsS125 w0 _ g s0_0 t597 t598 from by exact zp32_1_ HI0.out NB0_590.out)) : g ≠ gb599)); have n12_ := am_ ((by rw [hg]; exact Nat.ne_of_gt (IsS125.lt (show IsS125 w0 _ g s0_0 t597 t598 from by exact zp32_1_ HI0.out NB0_590.out)) : gb599 ≠ g)); clear HO593; clear HO596; clear HI0; clear BK590; clear HK; clear HB; have HO593 := n0_; have HO596 := n1_; have HI0 := n2_; have BK590 := n3_; have HK := n4_; have HB := n5_; have BK599 := n6_; have GW599 := n7_; have GE599 := n8_; have NB590_599 := n9_; have NB599_590 := n10_; have NB0_599 := n11_; have NB599_0 := n12_; clear n0_ n1_ n2_ n3_ n4_ n5_ n6_ n7_ n8_ n9_ n10_ n11_ n12_; clear hb hbox hg; obtain ⟨Ao48, co48, eo48⟩ := Kd.R_slice HO593.out; subst eo48; have hnb49 := NB599_590.out; have hnc49 := NB590_599.out; have hnb50 := NB599_0.out; have hnc50 := NB0_599.out; have hcz51_0 : w47.cell? ⟨gb599, 0, none⟩ = some (.slice none 0 0) := (blk_cell BK599.out 0).trans rfl; have hcz51_1 : w47.cell? ⟨gb599, 1, none⟩ = some (.slice none 0 0) := (blk_cell BK599.out 1).trans rfl; have hfz51_0 := blk_frozen BK599.out 0; have hfz51_1 := blk_frozen BK599.out 1; obtain ⟨Ao52, co52, eo52⟩ := Kd.S_slice HO596.out; subst eo52) | ((with_reducible refine gate_callee (f := 107) rfl ?_); refine gL_ (some 7) Try.func107 #[.pointer (some ⟨g, 0, none⟩), .int .i64 12] ?_; (with_reducible refine (spec_l1Below.calls g s0_0 t597 t598 12 t600 t601 t602 w0 _ ?side1 ?side2 A3.out).mono ?_); (case side1 => exact zp32_3_ HI0.out NB0_590.out NB0_599.out); (case side2 => exact zp32_4_ HB.out (IsS125.ge HI0.out) GE590.out GE599.out); rintro e w53 ⟨rfl, hi, hb, hk⟩; refine ⟨_, rfl, ?_⟩; have n0_ := am_ (KeepBut.blk hk (g' := gb590) (o := .cells #[.slice none 0 0, .slice none 0 0] 27 (0, 0)) (by refine rb_ ?_; refine blk_far ?_ NB590_599.out _; refine rb_ ?_; refine blk_far ?_ NB590_599.out _; refine rb_ ?_; exact BK590.out) NB590_0.out (by simp)); have n1_ := am_ (Kd.R_mono (Kd.R_keep (IsS125.apart (show IsS125 w0 _ g s0_0 t597 t598 from by exact zp32_3_ HI0.out NB0_590.out NB0_599.out) (rr_ (Kd.R_mono (Kd.R_far (p := ⟨gb599, 1, none⟩) (Kd.R_far (p := ⟨gb599, 0, none⟩) (Kd.R_types HO593.out BK599.out (by decide)) (fun _ hk => hk.2) (.slice Ao48 t591.length co48)) (fun _ hk => hk.2) (.slice Ao52 t594.length co52)) (fun _ h_ => h_.1))) (by decide)) hk (fun _ h => h.2)) (fun _ h => h.1)); have n2_ := am_ (Kd.S_mono (Kd.S_keep (IsS125.apartS (show IsS125 w0 _ g s0_0 t597 t598 from by exact zp32_3_ HI0.out NB0_590.out NB0_599.out) (rs_ (Kd.S_mono (Kd.S_far (p := ⟨gb599, 1, none⟩) (Kd.S_far (p := ⟨gb599, 0, none⟩) (Kd.S_types HO596.out BK599.out (by decide)) (fun _ hk => hk.2) (.slice Ao48 t591.length co48)) (fun _ hk => hk.2) (.slice Ao52 t594.length co52)) (fun _ h_ => h_.1))) (by decide)) hk (fun _ h => h.2)) (fun _ h => h.1)); have n3_ := am_ (KeepBut.blk hk (g' := gb599) (o := .cells #[.slice Ao48 t591.length co48, .slice Ao52 t594.length co52] 27 (0, 0)) (by refine rb_ ?_; refine blk_put (cs := #[.slice Ao48 t591.length co48, .slice none 0 0]) ?_ 1 _ rfl; refine rb_ ?_; refine blk_put (cs := #[.slice none 0 0, .slice none 0 0]) ?_ 0 _ rfl; refine rb_ ?_; exact BK599.out) NB599_0.out (by simp)); have n4_ := am_ (KeepBut.trans (k2_ HK.out GW590.out GW599.out) hk (.inl rfl)); have n5_ := am_ (hb); have n6_ := am_ (hi); clear BK590; clear HO593; clear HO596; clear BK599; clear HK; clear HB; clear HI0; have BK590 := n0_; have HO593 := n1_; have HO596 := n2_; have BK599 := n3_; have HK := n4_; have HB := n5_; have HI0 := n6_; clear n0_ n1_ n2_ n3_ n4_ n5_ n6_; (try clear hb); (try clear hb2); (try clear hk); (try clear hi)))
      replace HO593 := am_ (Kd.R_drew HO593.out)
      replace HO596 := am_ (Kd.S_drew HO596.out)
      replace BK590 := am_ (blk_drew BK590.out)
      replace BK599 := am_ (blk_drew BK599.out)
      replace HI0 := am_ (IsS125.drew HI0.out)
      replace HK := am_ (keep_drew HK.out)
      replace HB := am_ (below_drew1 HB.out)
      have p610 : 0 ≤ (0 : Int) := (by omega)
      have q610 : 0 < (t594.length : Int) := of_decide_eq_true ah_
      obtain ⟨ad610, A610_0, c610_0, e610, hx610_0, hl610_0, hi610_0⟩ := at_L1 (Kd.S_reads' HO596.out).2.2 0 p610 q610
      cases e610
      obtain ⟨ce610, hce610, hMe610, hcc610⟩ := Kd.S_get HO596.out [] 0 p610 (by first | exact q610 | exact of_decide_eq_true ah_ | (have e_ := (Kd.S_reads' HO596.out).1; omega))
      obtain ⟨ve610_0, rfl, ge610_0⟩ := hMe610
      have hv610_0 := hcc610 0 _ rfl
      rw [Nat.add_zero, show ((Kd.slice 3 (Kd.int .i64))).sz = 1 from rfl, Nat.mul_one] at hv610_0
      replace hv610_0 := Option.some.inj (hv610_0.symm.trans hx610_0)
      rw [hv610_0] at ge610_0
      have HL610_0 := am_ (show Kd.R (Kd.int .i64) 3 _ _ _ _ (rd_L1 t594 0) from ge610_0)
      clear hv610_0 ge610_0
      have HX610_0 := am_ hx610_0
      clear hcc610 hce610
      have qi610 : (0 < t594.length) = True := eq_true (by omega)
      (try rw [show ((0 : Int)).toNat = 0 from rfl] at hx610_0)
      (try rw [Addr.add_zero'] at hx610_0)
      have HR610_0 := am_ hi610_0
      have HC610_0 := am_ hl610_0
      clear hi610_0 hl610_0
      replace p610 := eq_true p610
      replace q610 := eq_true q610
      obtain ⟨go55, co55, eo55, gb55, gl55, cl55, HG55⟩ := Kd.S_form HO596.out (by have h_ : (0 : Int) < ((t594.length : Int) : Int) := of_decide_eq_true ah_; have h2_ : 0 ≤ (0 : Int) := (by omega); omega)
      (first | cases eo55 | (injection eo55 with ea_ en_ ec_; (first | subst ea_ | (injection ea_ with ea_; subst ea_)); subst ec_; clear en_))
      have GB55 := am_ gb55
      have GG55 := am_ HG55
      clear gb55 gl55 HG55
      (first | simp only [add_plain] at hx610_0 | skip)
      obtain ⟨oki55, ce55, hcl55, hM55, hcc55, _, _, hH55⟩ := Kd.S_elem HO596.out [] (0 : Int) (by omega) (by have h_ : (0 : Int) < ((t594.length : Int) : Int) := of_decide_eq_true ah_; first | exact h_ | (have e_ := (Kd.S_reads' HO596.out).1; omega) | simpa using h_)
      obtain ⟨ve55_0, rfl, ge55_0⟩ := hM55
      have hv55 := hcc55 0 _ rfl
      have hX55 := HX610_0.out
      (try simp only [add_plain] at hX55)
      (try simp only [Nat.add_zero] at hv55)
      (try rw [show ((Kd.slice 3 (Kd.int .i64))).sz = 1 from rfl, Nat.mul_one] at hv55)
      replace hv55 := Option.some.inj (hv55.symm.trans hX55)
      subst hv55
      clear hX55 hcc55 hcl55
      have UU55 := am_ (show Kd.R (Kd.int .i64) 3 _ w.heap.size oki55 (.slice A610_0 (rd_L1 t594 0).length c610_0) (rd_L1 t594 0) from ge55_0)
      have HH55 := am_ hH55
      have HN55 := am_ (Kd.S_reads' HO596.out).1
      clear hH55 ge55_0
      refine start_ (n := 10) (S := fun w' => w'.cell? ⟨gb599, 0, none⟩ = some (.slice Ao48 t591.length co48) ∧ w'.cell? ⟨gb599, 1, none⟩ = some (.slice (some ⟨go55, 0, none⟩) t594.length co52) ∧ w'.cell? ⟨go55, 0, none⟩ = some (.slice A610_0 (rd_L1 t594 0).length c610_0)) (ds := [9]) (bl 10 0) (by kernel_rfl) rfl rfl ⟨(blk_cell BK599.out 0).trans rfl, (blk_cell BK599.out 1).trans rfl, hx610_0⟩ (fun hHeld => ?_); refine with_tabW spec_l5Bent.tab8 spec_l5Bent.bits8 (fun HT_ HW_ => ?_)
      generalize w53.drew = w54 at HO593 HO596 BK590 BK599 HI0 HK HB GG55 HH55 HL610_0 HR610_0 HX610_0 UU55 hx610_0 hHeld ⊢
      refine pu_ 0 27 (bl 10 1) HT_ ?_
      refine pu_ 2 29 (bl 10 5) HT_ ?_
      refine tk_ 1 28 (bl 10 7) HT_ HW_ hHeld ?_
      refine tk_ 3 30 (bl 10 15) HT_ HW_ hHeld ?_
      refine pu_ 4 31 (bl 10 31) HT_ ?_
      refine tk_ 5 32 (bl 10 63) HT_ HW_ hHeld ?_
      refine one_ (i := 6) (N := some 33) (bl 10 127) rfl rfl (one_of HT_.out (by kernel_rfl)) (by decide) (fun K hK => ?_)
      refine value_ (w1 := ?_) (v := ?_) (by rfl) rfl ?_ ?_
      rotate_left 2
      ·go_simp
       constructor
       ·rfl
       ·rfl
      refine hK.out _ _ ⟨(blk_cell (blk_alloc BK599.out _) 0).trans rfl, (blk_cell (blk_alloc BK599.out _) 1).trans rfl, (World.cell?_alloc_lt _ _ _ (World.block_lt_of_cell? _ _ (hHeld.2.2))).trans (hHeld.2.2)⟩ (fun hHeld => ?_)
      clear hK K
      refine norm_ (a' := ?_) ?_ ?_
      rotate_left
      ·show Act.put _ (some 33) _ = _
       simp only [pn_, sz_, ss_, i64_w, i32_w]
       rfl
      refine one_ (i := 7) (N := some 34) (bl 10 255) rfl rfl (one_of HT_.out (by kernel_rfl)) (by decide) (fun K hK => ?_)
      refine Kd.R_append_step (Kd.int .i64) w.heap.size (by rfl) (.tmp 32) (.tmp 33) 67 3 (.int .i64 0) 8 rfl Try.underlying67 info3 rfl (by decide) (by omega) (.slice A610_0 (rd_L1 t594 0).length c610_0) (rd_L1 t594 0) 0 [.int .i64 0] (fun k_ => oki55 k_ ∨ ((fun _ => True)) k_ ∧ w54.heap.size ≤ k_) (fun _ => False) rfl rfl ?aP (fun _ hk => hk.elim) ?aF ?aO (Below.refl _ _) ?aS ?aL ?_
      (case aP => exact rfl)
      (case aF => exact (fun k_ hk => .inr ⟨trivial, hk⟩))
      (case aO => exact (by refine rr_ ?_; exact Kd.R_mono UU55.out (fun _ hk => .inl hk)))
      (case aS => exact (keep_size (w := w) (g := g) (row := none) (k2_ HK.out GW590.out GW599.out)))
      (case aL => have := LMc43.out; omega)
      intro v612 w56 ho hb hg hat
      (first | have HS2_ := cell_grown hg (hHeld.2.2) (by first | (rw [add_block]; exact (fun e_ => ((HL610_0.out.1 _ e_.symm).2) rfl)) | (show some (Addr.add _ _).block ≠ _; rw [add_block]; exact (fun e_ => ((HL610_0.out.1 _ e_.symm).2) rfl)) | exact (fun e_ => ((HL610_0.out.1 _ e_.symm).2) rfl)) | have HS2_ := cell_grown hg (cell_unalloc (hHeld.2.2) (by first | (rw [add_block]; exact Kd.S_lt HO596.out _ rfl) | (show (Addr.add _ _).block < _; rw [add_block]; exact Kd.S_lt HO596.out _ rfl) | exact Kd.S_lt HO596.out _ rfl)) (by first | (rw [add_block]; exact (fun e_ => ((HL610_0.out.1 _ e_.symm).2) rfl)) | (show some (Addr.add _ _).block ≠ _; rw [add_block]; exact (fun e_ => ((HL610_0.out.1 _ e_.symm).2) rfl)) | exact (fun e_ => ((HL610_0.out.1 _ e_.symm).2) rfl)))
      rw [← Ny611.out] at ho
      replace BK590 := am_ (blk_grown (g := gb590) (o := .cells #[.slice none 0 0, .slice none 0 0] 27 (0, 0)) (rb_ BK590.out) hg (Kd.R_ne HL610_0.out BK590.out (by decide)))
      replace HO593 := am_ (Kd.R_over' (v := (.slice A610_0 (rd_L1 t594 0).length c610_0)) (rr_ HO593.out) (Kd.R_typed HL610_0.out) (by decide) hg)
      replace BK599 := am_ (blk_grown (g := gb599) (o := .cells #[.slice Ao48 t591.length co48, .slice (some ⟨go55, 0, none⟩) t594.length co52] 27 (0, 0)) (rb_ BK599.out) hg (Kd.R_ne HL610_0.out BK599.out (by decide)))
      replace HB := am_ (below_weaken (b3_ HB.out (IsS125.ge HI0.out) GE590.out GE599.out) HL.out hb)
      replace HI0 := am_ (IsS125.grown (zp32_3_ HI0.out NB0_590.out NB0_599.out) hg (IsS125.own_ne HI0.out HL610_0.out (by decide)))
      replace HK := am_ (KeepBut.trans (k2_ HK.out GW590.out GW599.out) (KeepBut.of_grown hg g) (Kd.R_base2 HL610_0.out))
      replace HH55 := am_ (Kd.H_grown (Kd.H_widen (by repeat (first | exact HH55.out | refine Kd.H_alloc ?_ _ | refine Kd.H_drewN ?_ _ | refine Kd.H_drew ?_))) hg (fun k_ e_ => .inl (UU55.out.1 k_ e_)))
      replace HO613 := am_ (ho)
      clear HO596 UU55 HL610_0 ho hb hg hat
      have p44 : 0 ≤ (0 : Int) := (by omega)
      have q44 : (0 : Int) < ((t594.length : Int) : Int) := of_decide_eq_true ah_
      replace p44 := eq_true p44
      replace q44 := eq_true q44
      obtain ⟨Ao59, co59, eo59⟩ := Kd.R_slice HO613.out
      (first | subst eo59 | (injection eo59 with f1_ f2_ f3_; have f4_ := f1_.symm; have f5_ := f3_.symm; clear f1_ f2_ f3_; subst f4_; subst f5_))
      obtain ⟨_, _, hraw57, _, _, hcc57, _⟩ := Kd.H_raw HH55.out (by omega) (by have h_ : (0 : Int) < ((t594.length : Int) : Int) := of_decide_eq_true ah_; first | exact h_ | (have e_ := (HN55.out); omega) | simpa using h_)
      obtain ⟨_, hfr57⟩ := Kd.H_at HH55.out (by omega) (by have h_ : (0 : Int) < ((t594.length : Int) : Int) := of_decide_eq_true ah_; first | exact h_ | (have e_ := (HN55.out); omega) | simpa using h_)
      have hx57_0 := hcc57 0 _ rfl
      have hf57_0 := hfr57 0
      (try simp only [Nat.add_zero] at hx57_0 hf57_0)
      (try rw [show ((Kd.slice 3 (Kd.int .i64))).sz = 1 from rfl, Nat.mul_one] at hx57_0)
      (try rw [show ((Kd.slice 3 (Kd.int .i64))).sz = 1 from rfl, Nat.mul_one] at hf57_0)
      (try rw [show ((0 : Int)).toNat = 0 from rfl] at hx57_0)
      (try simp only [Nat.reduceMul, Nat.zero_mul, Nat.zero_add, Nat.reduceAdd] at hx57_0)
      (try rw [show ((0 : Int)).toNat = 0 from rfl] at hf57_0)
      (try simp only [Nat.reduceMul, Nat.zero_mul, Nat.zero_add, Nat.reduceAdd] at hf57_0)
      have HP57 := Kd.S_seg0 HH55.out (by omega) (by have h_ : (0 : Int) < ((t594.length : Int) : Int) := of_decide_eq_true ah_; first | exact h_ | (have e_ := (HN55.out); omega) | simpa using h_) (seg := [.slice Ao59 y611.length co59]) (j := 0) (show 1 ≤ 1 from by decide) (x' := y611) (Kd.M_row HO613.out) (fun _ hk => hk)
      (try simp only [show ((Kd.slice 3 (Kd.int .i64))).sz = 1 from rfl, Nat.mul_one, Nat.add_zero] at HP57)
      clear hcc57 hfr57
      have HN0_go55 := am_ (show g ≠ go55 from by have h_ := IsS125.own_ne HI0.out hraw57 (by decide); intro e_; exact h_ (by rw [e_]; rfl))
      have HNB590_go55 := am_ (show gb590 ≠ go55 from by have h_ := Kd.R_ne hraw57 BK590.out (by decide); intro e_; exact h_ (by rw [e_]; rfl))
      have HNB599_go55 := am_ (show gb599 ≠ go55 from by have h_ := Kd.R_ne hraw57 BK599.out (by decide); intro e_; exact h_ (by rw [e_]; rfl))
      have HS57 := HP57.1
      rw [← Ny614.out] at HS57
      have HQ57 := am_ HS57
      obtain ⟨_, hgg57⟩ := Kd.R_typed hraw57 go55 rfl
      have GG57_ := am_ hgg57
      clear HP57 HS57 hgg57
      refine hK.out _ _ ⟨(blk_cell BK599.out 0).trans rfl, (blk_cell BK599.out 1).trans rfl, HS2_⟩ (fun hHeld => ?_)
      clear hK K
      refine norm_ (a' := ?_) ?_ ?_
      rotate_left
      ·show Act.put _ (some 34) _ = _
       simp only [pn_, sz_, ss_, i64_w, i32_w]
       rfl
      refine pu_ 8 35 (bl 10 511) HT_ ?_
      refine last_ (i := 9) (N := none) (bl 10 1023) rfl rfl (one_of HT_.out (by kernel_rfl)) (by decide) (fun K hK => ?_)
      refine skip_ (w1 := ?_) (by rfl) rfl ?_ ?_
      rotate_left
      ·go_simp
       rfl
      refine hK.out _ _ ?_
      clear hK K
      refine done_ (done_of HT_.out (by kernel_rfl)) ?_
      have n0_ : Aside0 (Kd.R Kd.bool 4 (w56.setCell ⟨go55, 0, none⟩ (.slice Ao59 y611.length co59)) w.heap.size (fun _ => True) (.slice Ao48 t591.length co48) t591) := ⟨by refine rr_ ?_; exact Kd.R_mono (Kd.R_far (p := ⟨go55, 0, none⟩) (Kd.R_types HO593.out GG57_.out (by decide)) (fun _ hk => hk.2) (.slice Ao59 y611.length co59)) (fun _ hk => trivial)⟩
      have n1_ : Aside0 (Kd.S (Kd.slice 3 (Kd.int .i64)) 67 (w56.setCell ⟨go55, 0, none⟩ (.slice Ao59 y611.length co59)) w.heap.size (fun _ => True) (.slice (some ⟨go55, 0, none⟩) t594.length co52) y614) := ⟨by refine rs_ ?_; exact HQ57.out⟩
      have n2_ : Aside0 ((w56.setCell ⟨go55, 0, none⟩ (.slice Ao59 y611.length co59)).heap[gb590]? = some (.cells #[.slice none 0 0, .slice none 0 0] 27 (0, 0))) := ⟨by refine rb_ ?_; refine blk_far ?_ HNB590_go55.out _; refine rb_ ?_; exact BK590.out⟩
      have n3_ : Aside0 ((w56.setCell ⟨go55, 0, none⟩ (.slice Ao59 y611.length co59)).heap[gb599]? = some (.cells #[.slice Ao48 t591.length co48, .slice (some ⟨go55, 0, none⟩) t594.length co52] 27 (0, 0))) := ⟨by refine rb_ ?_; refine blk_far ?_ HNB599_go55.out _; refine rb_ ?_; exact BK599.out⟩
      have n4_ : Aside0 (IsS125 w0 (w56.setCell ⟨go55, 0, none⟩ (.slice Ao59 y611.length co59)) g s0_0 t601 t602) := ⟨by repeat (first | (with_reducible first | exact HI0.out | apply IsS125.alloc | apply IsS125.drewN | apply IsS125.drew | apply IsS125.set_1 | apply IsS125.set_2 | refine IsS125.far ?_ HN0_go55.out _ | refine IsS125.far ?_ NB0_590.out _ | refine IsS125.far ?_ NB0_599.out _) | exact HI0.out)⟩
      have n5_ : Aside0 (KeepBut w (w56.setCell ⟨go55, 0, none⟩ (.slice Ao59 y611.length co59)) g none) := ⟨by repeat (first | (with_reducible first | exact HK.out | apply KeepBut.set_ | apply keep_drewN | apply keep_drew | apply keep_alloc | refine keep_far ?_ GB55.out _ | refine keep_far ?_ GW590.out _ | refine keep_far ?_ GW599.out _) | exact HK.out)⟩
      have n6_ : Aside0 (Below w0.heap.size w0 (w56.setCell ⟨go55, 0, none⟩ (.slice Ao59 y611.length co59))) := ⟨by repeat (first | (with_reducible first | exact HB.out | apply below_alloc | apply pw_below_drewN | apply below_drew1 | refine below_set ?_ (Nat.le_trans HL.out GB55.out) | refine below_set ?_ (IsS125.ge HI0.out) | refine below_set ?_ GE590.out | refine below_set ?_ GE599.out) | exact HB.out)⟩
      (try clear HO593)
      (try clear HO596)
      (try clear BK590)
      (try clear BK599)
      (try clear HI0)
      (try clear HK)
      (try clear HB)
      generalize (w56.setCell ⟨go55, 0, none⟩ (.slice Ao59 y611.length co59)) = w60 at n0_ n1_ n2_ n3_ n4_ n5_ n6_ ⊢
      have HO593 := n0_; have HO596 := n1_; have BK590 := n2_; have BK599 := n3_; have HI0 := n4_; have HK := n5_; have HB := n6_
      clear n0_ n1_ n2_ n3_ n4_ n5_ n6_
      have hcz61_0 : w60.cell? ⟨gb599, 0, none⟩ = some (.slice Ao48 t591.length co48) := (blk_cell BK599.out 0).trans rfl
      have hcz61_1 : w60.cell? ⟨gb599, 1, none⟩ = some (.slice (some ⟨go55, 0, none⟩) t594.length co52) := (blk_cell BK599.out 1).trans rfl
      have hfz61_0 := blk_frozen BK599.out 0
      have hfz61_1 := blk_frozen BK599.out 1
      have hnb62 := NB590_0.out
      have hnc62 := NB0_590.out
      have hcz63_0 : w60.cell? ⟨gb590, 0, none⟩ = some (.slice none 0 0) := (blk_cell BK590.out 0).trans rfl
      have hcz63_1 : w60.cell? ⟨gb590, 1, none⟩ = some (.slice none 0 0) := (blk_cell BK590.out 1).trans rfl
      have hfz63_0 := blk_frozen BK590.out 0
      have hfz63_1 := blk_frozen BK590.out 1
      try go_wp2
      refine bodyPost_ret (results_cell_row rfl _ _ gb590 27 #[.slice Ao48 t591.length co48, .slice (some ⟨go55, 0, none⟩) t594.length co52] (0, 0) _ rfl (by refine rb_ ?_; refine blk_put (cs := #[.slice Ao48 t591.length co48, .slice none 0 0]) ?_ 1 _ rfl; refine rb_ ?_; refine blk_put (cs := #[.slice none 0 0, .slice none 0 0]) ?_ 0 _ rfl; refine rb_ ?_; exact BK590.out) Try.underlying27 rfl (by kernel_rfl)) rfl ?_
      exact ⟨_, _, by first | rfl | (simp [errW_none, errW_some] <;> rfl) | (simp [*, errW_none, errW_some] <;> rfl), by refine rr_ ?_; exact Kd.R_mono (Kd.R_far (p := ⟨gb590, 1, none⟩) (Kd.R_far (p := ⟨gb590, 0, none⟩) (Kd.R_types HO593.out BK590.out (by decide)) (fun _ hk => hk.2) (.slice Ao48 t591.length co48)) (fun _ hk => hk.2) (.slice (some ⟨go55, 0, none⟩) t594.length co52)) (fun _ hk => trivial), by refine rs_ ?_; exact Kd.S_mono (Kd.S_far (p := ⟨gb590, 1, none⟩) (Kd.S_far (p := ⟨gb590, 0, none⟩) (Kd.S_types HO596.out BK590.out (by decide)) (fun _ hk => hk.2) (.slice Ao48 t591.length co48)) (fun _ hk => hk.2) (.slice (some ⟨go55, 0, none⟩) t594.length co52)) (fun _ hk => trivial), by exact zp32_3_ HI0.out NB0_590.out NB0_599.out, by exact zp32_4_ HB.out (IsS125.ge HI0.out) GE590.out GE599.out, by exact zp32_5_ HK.out GW590.out GW599.out⟩
     ·rw [if_neg c43] at H
      exact absurd H (by simp)
    ·rw [if_neg c42] at H
     exact absurd H (by simp)
   ·rw [if_neg c41] at H
    have c41b0 : (t600 == 2) = false := beq_eq_false_iff_ne.mpr c41
    have c41b1 : (t600 != 2) = true := bne_iff_ne.mpr c41
    simp only [Option.some.injEq, Prod.mk.injEq] at H
    obtain ⟨rfl, rfl, rfl, rfl⟩ := H
    go_enter Try.func88, Try.ntmps88
    go_wp2_with (first | ((with_reducible refine gate_dst (N := 2) rfl ?_); refine box_event ?hg (N := 2) ?hd (cs := #[.slice none 0 0, .slice none 0 0]) (t := 27) ?hr ?_; (case hd => rfl); (case hg => rfl); (case hr => first | (go_simp; done) | (go_simp; rfl)); intro gb590 hg w64 hbox hb; have n0_ := am_ (IsS125.below (zp32_0_ HI0.out) hb); have n1_ := am_ (KeepBut.trans (k0_ HK.out) (KeepBut.of_below hb g none) (.inl rfl)); have n2_ := am_ (below_step (b1_ HB.out (IsS125.ge HI0.out)) hb); have n3_ := am_ (hbox); have n4_ := am_ ((by rw [hg]; exact (keep_size (w := w) (g := g) (row := none) (k0_ HK.out)) : w.heap.size ≤ gb590)); have n5_ := am_ ((Nat.le_trans HW0.out (by rw [hg]; exact (keep_size (w := w) (g := g) (row := none) (k0_ HK.out)) : w.heap.size ≤ gb590) : w0.heap.size ≤ gb590)); have n6_ := am_ ((by rw [hg]; exact Nat.ne_of_lt (IsS125.lt (show IsS125 w0 _ g s0_0 s0_1 s0_2 from by exact zp32_0_ HI0.out)) : g ≠ gb590)); have n7_ := am_ ((by rw [hg]; exact Nat.ne_of_gt (IsS125.lt (show IsS125 w0 _ g s0_0 s0_1 s0_2 from by exact zp32_0_ HI0.out)) : gb590 ≠ g)); clear HI0; clear HK; clear HB; have HI0 := n0_; have HK := n1_; have HB := n2_; have BK590 := n3_; have GW590 := n4_; have GE590 := n5_; have NB0_590 := n6_; have NB590_0 := n7_; clear n0_ n1_ n2_ n3_ n4_ n5_ n6_ n7_; clear hb hbox hg) | ((with_reducible refine gate_callee (f := 86) rfl ?_); refine gL_ (some 5) Try.func86 #[.pointer (some ⟨g, 0, none⟩), .int .i64 5] ?_; (with_reducible refine (spec_l5Draw.calls k g s0_0 s0_1 s0_2 5 t591 t594 t597 t598 w0 _ ?side1 ?side2 A2.out).mono ?_); (case side1 => exact zp32_1_ HI0.out NB0_590.out); (case side2 => exact zp32_2_ HB.out (IsS125.ge HI0.out) GE590.out); rintro e w65 ⟨v592, v595, rfl, ho0, ho1, hi, hb, hk⟩; refine ⟨_, rfl, ?_⟩; have n0_ := am_ (KeepBut.blk hk (g' := gb590) (o := .cells #[.slice none 0 0, .slice none 0 0] 27 (0, 0)) (rb_ BK590.out) NB590_0.out (by simp)); have n1_ := am_ (Kd.R_lower ho0 (keep_size (w := w) (g := g) (row := none) (k1_ HK.out GW590.out))); have n2_ := am_ (Kd.S_lower ho1 (keep_size (w := w) (g := g) (row := none) (k1_ HK.out GW590.out))); have n3_ := am_ (KeepBut.trans (k1_ HK.out GW590.out) hk (.inl rfl)); have n4_ := am_ (hb); have n5_ := am_ (hi); clear BK590; clear HK; clear HB; clear HI0; have BK590 := n0_; have HO593 := n1_; have HO596 := n2_; have HK := n3_; have HB := n4_; have HI0 := n5_; clear n0_ n1_ n2_ n3_ n4_ n5_; (try clear hb); (try clear hb2); (try clear hk); (try clear hi); (try clear ho0); (try clear ho1)) | ((with_reducible refine gate_dst (N := 3) rfl ?_); refine box_event ?hg (N := 3) ?hd (cs := #[.slice none 0 0, .slice none 0 0]) (t := 27) ?hr ?_; (case hd => rfl); (case hg => rfl); (case hr => first | (go_simp; done) | (go_simp; rfl)); intro gb599 hg w66 hbox hb; have n0_ := am_ (Kd.R_below (rr_ HO593.out) hb); have n1_ := am_ (Kd.S_below (rs_ HO596.out) hb); have n2_ := am_ (IsS125.below (zp32_1_ HI0.out NB0_590.out) hb); have n3_ := am_ (blk_below (rb_ BK590.out) hb); have n4_ := am_ (KeepBut.trans (k1_ HK.out GW590.out) (KeepBut.of_below hb g none) (.inl rfl)); have n5_ := am_ (below_step (b2_ HB.out (IsS125.ge HI0.out) GE590.out) hb); have n6_ := am_ (hbox); have n7_ := am_ ((by rw [hg]; exact (keep_size (w := w) (g := g) (row := none) (k1_ HK.out GW590.out)) : w.heap.size ≤ gb599)); have n8_ := am_ ((Nat.le_trans HW0.out (by rw [hg]; exact (keep_size (w := w) (g := g) (row := none) (k1_ HK.out GW590.out)) : w.heap.size ≤ gb599) : w0.heap.size ≤ gb599)); have n9_ := am_ ((by rw [hg]; exact Nat.ne_of_lt (blk_lt (rb_ BK590.out)) : gb590 ≠ gb599)); have n10_ := am_ ((by rw [hg]; exact Nat.ne_of_gt (blk_lt (rb_ BK590.out)) : gb599 ≠ gb590)); have n11_ := am_ ((by rw [hg]; exact Nat.ne_of_lt (IsS125.lt (show IsS125 w0 _ g s0_0 t597 t598 from by exact zp32_1_ HI0.out NB0_590.out)) : g ≠ gb599)); have n12_ := am_ ((by rw [hg]; exact Nat.ne_of_gt (IsS125.lt (show IsS125 w0 _ g s0_0 t597 t598 from by exact zp32_1_ HI0.out NB0_590.out)) : gb599 ≠ g)); clear HO593; clear HO596; clear HI0; clear BK590; clear HK; clear HB; have HO593 := n0_; have HO596 := n1_; have HI0 := n2_; have BK590 := n3_; have HK := n4_; have HB := n5_; have BK599 := n6_; have GW599 := n7_; have GE599 := n8_; have NB590_599 := n9_; have NB599_590 := n10_; have NB0_599 := n11_; have NB599_0 := n12_; clear n0_ n1_ n2_ n3_ n4_ n5_ n6_ n7_ n8_ n9_ n10_ n11_ n12_; clear hb hbox hg; obtain ⟨Ao67, co67, eo67⟩ := Kd.R_slice HO593.out; subst eo67; have hnb68 := NB599_590.out; have hnc68 := NB590_599.out; have hnb69 := NB599_0.out; have hnc69 := NB0_599.out; have hcz70_0 : w66.cell? ⟨gb599, 0, none⟩ = some (.slice none 0 0) := (blk_cell BK599.out 0).trans rfl; have hcz70_1 : w66.cell? ⟨gb599, 1, none⟩ = some (.slice none 0 0) := (blk_cell BK599.out 1).trans rfl; have hfz70_0 := blk_frozen BK599.out 0; have hfz70_1 := blk_frozen BK599.out 1; obtain ⟨Ao71, co71, eo71⟩ := Kd.S_slice HO596.out; subst eo71) | ((with_reducible refine gate_callee (f := 107) rfl ?_); refine gL_ (some 7) Try.func107 #[.pointer (some ⟨g, 0, none⟩), .int .i64 12] ?_; (with_reducible refine (spec_l1Below.calls g s0_0 t597 t598 12 t600 t601 t602 w0 _ ?side1 ?side2 A3.out).mono ?_); (case side1 => exact zp32_3_ HI0.out NB0_590.out NB0_599.out); (case side2 => exact zp32_4_ HB.out (IsS125.ge HI0.out) GE590.out GE599.out); rintro e w72 ⟨rfl, hi, hb, hk⟩; refine ⟨_, rfl, ?_⟩; have n0_ := am_ (KeepBut.blk hk (g' := gb590) (o := .cells #[.slice none 0 0, .slice none 0 0] 27 (0, 0)) (by refine rb_ ?_; refine blk_far ?_ NB590_599.out _; refine rb_ ?_; refine blk_far ?_ NB590_599.out _; refine rb_ ?_; exact BK590.out) NB590_0.out (by simp)); have n1_ := am_ (Kd.R_mono (Kd.R_keep (IsS125.apart (show IsS125 w0 _ g s0_0 t597 t598 from by exact zp32_3_ HI0.out NB0_590.out NB0_599.out) (rr_ (Kd.R_mono (Kd.R_far (p := ⟨gb599, 1, none⟩) (Kd.R_far (p := ⟨gb599, 0, none⟩) (Kd.R_types HO593.out BK599.out (by decide)) (fun _ hk => hk.2) (.slice Ao67 t591.length co67)) (fun _ hk => hk.2) (.slice Ao71 t594.length co71)) (fun _ h_ => h_.1))) (by decide)) hk (fun _ h => h.2)) (fun _ h => h.1)); have n2_ := am_ (Kd.S_mono (Kd.S_keep (IsS125.apartS (show IsS125 w0 _ g s0_0 t597 t598 from by exact zp32_3_ HI0.out NB0_590.out NB0_599.out) (rs_ (Kd.S_mono (Kd.S_far (p := ⟨gb599, 1, none⟩) (Kd.S_far (p := ⟨gb599, 0, none⟩) (Kd.S_types HO596.out BK599.out (by decide)) (fun _ hk => hk.2) (.slice Ao67 t591.length co67)) (fun _ hk => hk.2) (.slice Ao71 t594.length co71)) (fun _ h_ => h_.1))) (by decide)) hk (fun _ h => h.2)) (fun _ h => h.1)); have n3_ := am_ (KeepBut.blk hk (g' := gb599) (o := .cells #[.slice Ao67 t591.length co67, .slice Ao71 t594.length co71] 27 (0, 0)) (by refine rb_ ?_; refine blk_put (cs := #[.slice Ao67 t591.length co67, .slice none 0 0]) ?_ 1 _ rfl; refine rb_ ?_; refine blk_put (cs := #[.slice none 0 0, .slice none 0 0]) ?_ 0 _ rfl; refine rb_ ?_; exact BK599.out) NB599_0.out (by simp)); have n4_ := am_ (KeepBut.trans (k2_ HK.out GW590.out GW599.out) hk (.inl rfl)); have n5_ := am_ (hb); have n6_ := am_ (hi); clear BK590; clear HO593; clear HO596; clear BK599; clear HK; clear HB; clear HI0; have BK590 := n0_; have HO593 := n1_; have HO596 := n2_; have BK599 := n3_; have HK := n4_; have HB := n5_; have HI0 := n6_; clear n0_ n1_ n2_ n3_ n4_ n5_ n6_; (try clear hb); (try clear hb2); (try clear hk); (try clear hi); have hcz73_0 : w72.cell? ⟨gb599, 0, none⟩ = some (.slice Ao67 t591.length co67) := (blk_cell BK599.out 0).trans rfl; have hcz73_1 : w72.cell? ⟨gb599, 1, none⟩ = some (.slice Ao71 t594.length co71) := (blk_cell BK599.out 1).trans rfl; have hfz73_0 := blk_frozen BK599.out 0; have hfz73_1 := blk_frozen BK599.out 1; have hnb74 := NB590_0.out; have hnc74 := NB0_590.out; have hcz75_0 : w72.cell? ⟨gb590, 0, none⟩ = some (.slice none 0 0) := (blk_cell BK590.out 0).trans rfl; have hcz75_1 : w72.cell? ⟨gb590, 1, none⟩ = some (.slice none 0 0) := (blk_cell BK590.out 1).trans rfl; have hfz75_0 := blk_frozen BK590.out 0; have hfz75_1 := blk_frozen BK590.out 1))
    refine bodyPost_ret (results_cell_row rfl _ _ gb590 27 #[.slice Ao67 t591.length co67, .slice Ao71 t594.length co71] (0, 0) _ rfl (by refine rb_ ?_; refine blk_put (cs := #[.slice Ao67 t591.length co67, .slice none 0 0]) ?_ 1 _ rfl; refine rb_ ?_; refine blk_put (cs := #[.slice none 0 0, .slice none 0 0]) ?_ 0 _ rfl; refine rb_ ?_; exact BK590.out) Try.underlying27 rfl (by kernel_rfl)) rfl ?_
    exact ⟨_, _, by first | rfl | (simp [errW_none, errW_some] <;> rfl) | (simp [*, errW_none, errW_some] <;> rfl), by refine rr_ ?_; exact Kd.R_mono (Kd.R_far (p := ⟨gb590, 1, none⟩) (Kd.R_far (p := ⟨gb590, 0, none⟩) (Kd.R_types HO593.out BK590.out (by decide)) (fun _ hk => hk.2) (.slice Ao67 t591.length co67)) (fun _ hk => hk.2) (.slice Ao71 t594.length co71)) (fun _ hk => trivial), by refine rs_ ?_; exact Kd.S_mono (Kd.S_far (p := ⟨gb590, 1, none⟩) (Kd.S_far (p := ⟨gb590, 0, none⟩) (Kd.S_types HO596.out BK590.out (by decide)) (fun _ hk => hk.2) (.slice Ao67 t591.length co67)) (fun _ hk => hk.2) (.slice Ao71 t594.length co71)) (fun _ hk => trivial), by exact zp32_3_ HI0.out NB0_590.out NB0_599.out, by exact zp32_4_ HB.out (IsS125.ge HI0.out) GE590.out GE599.out, by exact zp32_5_ HK.out GW590.out GW599.out⟩
end Go.Proofs.Ytogamkblkoobkaa.P
end
