/- Texts of the proof of FnExactConcatDfa, put together. No condition. -/
import Derived.Test.YtogamkblkoobkaaQFnExactConcatDfa2
import Derived.Test.YtogamkblkoobkaaQFnExactConcatDfa3
import Derived.Test.YtogamkblkoobkaaQFnExactConcatDfa4
section
namespace Go.Proofs.Ytogamkblkoobkaa.P
open Go.RowKit Go.Proofs.YtogamkblkoobkaaW.PrintWords Go.Proofs.YtogamkblkoobkaaW.PrintLast Go.Proofs.YtogamkblkoobkaaW.PrintMore
attribute [local go_sem] max2_int min2_int max_two min_two max_three min_three max_four min_four
set_option linter.unusedVariables false
set_option linter.unusedSimpArgs false
mutual
def spec_l5Minimal.l0 : Nat → List Int → List Int → Int → List Bool → List (List Int) → List Bool → List (List Int) → Option (List Bool × (List (List Int)))
  | 0, _, _, _, _, _, _, _ => none
  | k + 1, x3, x4, x6, aM, aC, aN, aQ => if x6 < (x4.length : Int) then (spec_l5Minimal.l1 k x3 x4 x6 (([] : List Int)) 0 aM aC aN aQ) else (some (aN, aQ))
def spec_l5Minimal.l1 : Nat → List Int → List Int → Int → List Int → Int → List Bool → List (List Int) → List Bool → List (List Int) → Option (List Bool × (List (List Int)))
  | 0, _, _, _, _, _, _, _, _, _ => none
  | k + 1, x3, x4, x6, x7, x8, aM, aC, aN, aQ => if x8 < 3 then (if 0 ≤ x6 then (if x6 < (x4.length : Int) then (if 0 ≤ (rd x4 x6) then (if (rd x4 x6) < (aC.length : Int) then (if 0 ≤ x8 then (if x8 < ((rd_L1 aC (rd x4 x6)).length : Int) then (if 0 ≤ (rd (rd_L1 aC (rd x4 x6)) x8) then (if (rd (rd_L1 aC (rd x4 x6)) x8) < (x3.length : Int) then ((spec_l5Find.f k x4 (rd x3 (rd (rd_L1 aC (rd x4 x6)) x8))).bind fun bm => (if bm < 0 then (if x4.length < 17592186044416 then ((some (x4 ++ [rd x3 (rd (rd_L1 aC (rd x4 x6)) x8)] : List Int)).bind fun aU => ((spec_l5Find.f k aU (rd x3 (rd (rd_L1 aC (rd x4 x6)) x8))).bind fun bi => (if x7.length < 17592186044416 then (spec_l5Minimal.l1 k x3 aU x6 (x7 ++ [bi]) (wrap64 (x8 + 1)) aM aC aN aQ) else (none)))) else (none)) else ((spec_l5Find.f k x4 (rd x3 (rd (rd_L1 aC (rd x4 x6)) x8))).bind fun br => (if x7.length < 17592186044416 then (spec_l5Minimal.l1 k x3 x4 x6 (x7 ++ [br]) (wrap64 (x8 + 1)) aM aC aN aQ) else (none))))) else (none)) else (none)) else (none)) else (none)) else (none)) else (none)) else (none)) else (none)) else (if 0 ≤ x6 then (if x6 < (x4.length : Int) then (if 0 ≤ (rd x4 x6) then (if (rd x4 x6) < (aM.length : Int) then (if aN.length < 140737488355328 then (if aQ.length < 5864062014805 then (spec_l5Minimal.l0 k x3 x4 (wrap64 (x6 + 1)) aM aC (aN ++ [rdOf false aM (rd x4 x6)]) (aQ ++ [x7])) else (none)) else (none)) else (none)) else (none)) else (none)) else (none))
end
def spec_l5Minimal.f (k : Nat) (l0_0 : List Bool) (l0_1 : List (List Int)) : Option (List Bool × (List (List Int))) := (spec_l5Classes.f k l0_0 l0_1).bind fun ai => (if 0 < (ai.length : Int) then (spec_l5Minimal.l0 k ai (([rd ai 0] : List Int)) 0 l0_0 l0_1 ([] : List Bool) ([] : List (List Int))) else (none))
theorem spec_l5Minimal.mono_l : ∀ k, (∀ y0 y1 y2 y3 y4 y5 y6, LeO (spec_l5Minimal.l0 k y0 y1 y2 y3 y4 y5 y6) (spec_l5Minimal.l0 (k + 1) y0 y1 y2 y3 y4 y5 y6)) ∧ (∀ y0 y1 y2 y3 y4 y5 y6 y7 y8, LeO (spec_l5Minimal.l1 k y0 y1 y2 y3 y4 y5 y6 y7 y8) (spec_l5Minimal.l1 (k + 1) y0 y1 y2 y3 y4 y5 y6 y7 y8))
 | 0 => ⟨fun _ _ _ _ _ _ _ r h => by simp [spec_l5Minimal.l0] at h, fun _ _ _ _ _ _ _ _ _ r h => by simp [spec_l5Minimal.l1] at h⟩
 | k + 1 => by
  obtain ⟨ih0, ih1⟩ := spec_l5Minimal.mono_l k
  refine ⟨?_, ?_⟩
  ·intro y0 y1 y2 y3 y4 y5 y6
   unfold spec_l5Minimal.l0
   repeat' first
   | (with_reducible exact ih0 _ _ _ _ _ _ _)
   | (with_reducible exact ih1 _ _ _ _ _ _ _ _ _)
   | (with_reducible exact spec_l5Classes.mono _ _ _)
   | (with_reducible exact spec_l5Find.mono _ _ _)
   | (with_reducible exact LeO.refl _)
   | (with_reducible exact LeO.none _)
   | (with_reducible refine LeO.ite ?_ ?_)
   | (with_reducible refine LeO.bind ?_ (fun _ => ?_))
   | exact ih0 _ _ _ _ _ _ _
   | exact ih1 _ _ _ _ _ _ _ _ _
   | exact spec_l5Classes.mono _ _ _
   | exact spec_l5Find.mono _ _ _
   | exact LeO.none _
   | refine LeO.ite ?_ ?_
   | refine LeO.bind ?_ (fun _ => ?_)
  ·intro y0 y1 y2 y3 y4 y5 y6 y7 y8
   unfold spec_l5Minimal.l1
   repeat' first
   | (with_reducible exact ih0 _ _ _ _ _ _ _)
   | (with_reducible exact ih1 _ _ _ _ _ _ _ _ _)
   | (with_reducible exact spec_l5Classes.mono _ _ _)
   | (with_reducible exact spec_l5Find.mono _ _ _)
   | (with_reducible exact LeO.refl _)
   | (with_reducible exact LeO.none _)
   | (with_reducible refine LeO.ite ?_ ?_)
   | (with_reducible refine LeO.bind ?_ (fun _ => ?_))
   | exact ih0 _ _ _ _ _ _ _
   | exact ih1 _ _ _ _ _ _ _ _ _
   | exact spec_l5Classes.mono _ _ _
   | exact spec_l5Find.mono _ _ _
   | exact LeO.none _
   | refine LeO.ite ?_ ?_
   | refine LeO.bind ?_ (fun _ => ?_)
theorem spec_l5Minimal.mono : ∀ a0 a1 k, LeO (spec_l5Minimal.f k a0 a1) (spec_l5Minimal.f (k + 1) a0 a1) := by
 intro a0 a1 k
 obtain ⟨ih0, ih1⟩ := spec_l5Minimal.mono_l k
 unfold spec_l5Minimal.f
 repeat' first
   | (with_reducible exact ih0 _ _ _ _ _ _ _)
   | (with_reducible exact ih1 _ _ _ _ _ _ _ _ _)
   | (with_reducible exact spec_l5Classes.mono _ _ _)
   | (with_reducible exact spec_l5Find.mono _ _ _)
   | (with_reducible exact LeO.refl _)
   | (with_reducible exact LeO.none _)
   | (with_reducible refine LeO.ite ?_ ?_)
   | (with_reducible refine LeO.bind ?_ (fun _ => ?_))
   | exact ih0 _ _ _ _ _ _ _
   | exact ih1 _ _ _ _ _ _ _ _ _
   | exact spec_l5Classes.mono _ _ _
   | exact spec_l5Find.mono _ _ _
   | exact LeO.none _
   | refine LeO.ite ?_ ?_
   | refine LeO.bind ?_ (fun _ => ?_)
def spec_l5Minimal.T11 : Bool × List (List Nat × List Nat) := (true, [([], []), ([], []), ([1], [1]), ([], []), ([], []), ([3, 4], [3, 4]), ([5], [5]), ([2, 6], [2, 6]), ([7], [7]), ([], []), ([8, 9], [8, 9]), ([10], [10]), ([0, 11], [0, 11]), ([12], [12]), ([13, 0, 1, 2, 3, 4, 5, 6, 7, 8, 9, 10, 11, 12, 13], [13])])
def spec_l5Minimal.B11 : List Nat := [0, 0, 2, 0, 0, 24, 56, 126, 254, 0, 1022, 2046, 4095, 8191, 16383]
theorem spec_l5Minimal.tab11 : rtab .any (opsOf Try.f94 11) = spec_l5Minimal.T11 := by kernel_rfl
theorem spec_l5Minimal.bits11 : waitsOk spec_l5Minimal.T11.2 spec_l5Minimal.B11 = true := by kernel_rfl
def spec_l5Minimal.T15 : Bool × List (List Nat × List Nat) := (true, [([], []), ([0], [0]), ([], []), ([2], [2]), ([], []), ([], []), ([4, 5], [4, 5]), ([6], [6]), ([3, 7], [3, 7]), ([8], [8]), ([9], [9]), ([1, 10], [1, 10]), ([0, 1, 2, 3, 4, 5, 6, 7, 8, 9, 10, 11], []), ([12, 11, 11, 0, 1, 2, 3, 4, 5, 6, 7, 8, 9, 10, 11], [11, 12])])
def spec_l5Minimal.B15 : List Nat := [0, 1, 0, 4, 0, 0, 48, 112, 252, 508, 1020, 2047, 4095, 8191]
theorem spec_l5Minimal.tab15 : rtab .any (opsOf Try.f94 15) = spec_l5Minimal.T15 := by kernel_rfl
theorem spec_l5Minimal.bits15 : waitsOk spec_l5Minimal.T15.2 spec_l5Minimal.B15 = true := by kernel_rfl
theorem zp5_0_ {p q g1 g2 g3 : Prop} (h : p) (h1 : g1) (h2 : g2) (h3 : g3) (c : p → g1 → g2 → g3 → q := by intro h_ h1_ h2_ h3_; repeat (first | (with_reducible first | exact h_ | apply below_alloc | apply pw_below_drewN | apply below_drew1 | refine below_set ?_ h1_ | refine below_set ?_ h2_ | refine below_set ?_ h3_) | exact h_)) : q := c h h1 h2 h3
set_option maxHeartbeats 8000000 in
set_option maxRecDepth 100000 in
theorem spec_l5Minimal.calls (k : Nat) (A0_0 : Option Addr) (c0_0 : Nat) (l0_0 : List Bool) (A0_1 : Option Addr) (c0_1 : Nat) (l0_1 : List (List Int)) (r1 : List Bool) (r2 : List (List Int)) (w : World) (hr0_0 : Kd.C Kd.bool w A0_0 l0_0.length l0_0) (hc0_0 : l0_0.length ≤ c0_0) (hr0_1 : Kd.C (Kd.slice 3 (Kd.int .i64)) w A0_1 l0_1.length l0_1) (hc0_1 : l0_1.length ≤ c0_1) (h : spec_l5Minimal.f k l0_0 l0_1 = some (r1, r2)) :
  Calls Try.prog 94 #[.agg #[.slice A0_0 l0_0.length c0_0, .slice A0_1 l0_1.length c0_1]] w fun e w' => ∃ v0_ v1_ : Value, e = .returned (.agg #[v0_, v1_]) ∧ Kd.R Kd.bool 4 w' w.heap.size (fun _ => True) v0_ r1 ∧ Kd.S (Kd.slice 3 (Kd.int .i64)) 67 w' w.heap.size (fun _ => True) v1_ r2 ∧ Below w.heap.size w w' := by
 have hu27 := Try.underlying27
 have bQ := am_ hr0_0
 have cj := am_ hc0_0
 clear hr0_0 hc0_0
 have bE := am_ hr0_1
 have ck := am_ hc0_1
 clear hr0_1 hc0_1
 have HB := am_ (Below.refl w.heap.size w)
 have H : ((spec_l5Classes.f k l0_0 l0_1).bind fun ai => (if 0 < (ai.length : Int) then (spec_l5Minimal.l0 k ai (([rd ai 0] : List Int)) 0 l0_0 l0_1 ([] : List Bool) ([] : List (List Int))) else (none))) = some (r1, r2) := h
 clear h
 replace H := Option.bind_eq_some_iff.mp H
 obtain ⟨ai, A20, H⟩ := H
 have A2 := am_ A20
 clear A20
 by_cases c3 : 0 < (ai.length : Int)
 ·rw [if_pos c3] at H
  have c3b0 : decide (0 < (ai.length : Int)) = true := decide_eq_true c3
  have c3b1 : decide (0 < ai.length) = true := decide_eq_true (by omega)
  clear c3
  obtain ⟨bV, hy148⟩ : ∃ y_ : List Int, y_ = (([rd ai 0] : List Int)) := ⟨_, rfl⟩
  replace H : (spec_l5Minimal.l0 k ai bV 0 l0_0 l0_1 ([] : List Bool) ([] : List (List Int))) = some (r1, r2) := by first | (rw [hy148]; with_reducible exact H) | (have H2_ := (Option.bind_some _ _).symm.trans H; rw [hy148]; with_reducible exact H2_) | (have H2_ := (Option.bind_some _ _).symm.trans H; with_reducible exact H2_) | with_reducible exact H | (rw [hy148]; exact H) | exact H
  have bR := am_ hy148
  clear hy148
  have H' := am_ H
  clear H
  go_enter Try.func94, Try.ntmps94
  go_wp2_with (first | ((with_reducible refine gate_dst (N := 1) rfl ?_); refine box_event ?hg (N := 1) ?hd (cs := #[.slice A0_0 l0_0.length c0_0, .slice A0_1 l0_1.length c0_1]) (t := 27) ?hr ?_; (case hd => rfl); (case hg => rfl); (case hr => first | (go_simp; done) | (go_simp; rfl)); intro ax hg w4 hbox hb; replace af := am_ (hbox); replace cR := am_ ((by rw [hg]; exact (below_size (b0_ HB.out)) : w.heap.size ≤ ax)); replace aq := am_ ((by rw [hg]; exact (below_size (b0_ HB.out)) : w.heap.size ≤ ax)); replace HB := am_ (below_step (b0_ HB.out) hb); clear hb hbox hg) | ((with_reducible refine gate_dst (N := 2) rfl ?_); refine box_event ?hg (N := 2) ?hd (cs := #[.slice none 0 0, .slice none 0 0]) (t := 27) ?hr ?_; (case hd => rfl); (case hg => rfl); (case hr => first | (go_simp; done) | (go_simp; rfl)); intro az hg w5 hbox hb; have n0_ := am_ (blk_below (rb_ af.out) hb); have n1_ := am_ (below_step (b1_ HB.out aq.out) hb); have n2_ := am_ (hbox); have n3_ := am_ ((by rw [hg]; exact (below_size (b1_ HB.out aq.out)) : w.heap.size ≤ az)); have n4_ := am_ ((by rw [hg]; exact (below_size (b1_ HB.out aq.out)) : w.heap.size ≤ az)); have n5_ := am_ ((by rw [hg]; exact Nat.ne_of_lt (blk_lt (rb_ af.out)) : ax ≠ az)); have n6_ := am_ ((by rw [hg]; exact Nat.ne_of_gt (blk_lt (rb_ af.out)) : az ≠ ax)); clear af; clear HB; have af := n0_; have HB := n1_; have ah := n2_; have cS := n3_; have av := n4_; have bs := n5_; have bt := n6_; clear n0_ n1_ n2_ n3_ n4_ n5_ n6_; clear hb hbox hg; have di := bs.out; have dj := bt.out; have bK := ck_ (v := (.slice A0_0 l0_0.length c0_0)) af 0 rfl; have bL := ck_ (v := (.slice A0_1 l0_1.length c0_1)) af 1 rfl; have bM := blk_frozen af.out 0; have bN := blk_frozen af.out 1) | ((with_reducible refine gate_callee (f := 126) rfl ?_); refine gL_ (some 11) Try.func126 #[.agg #[.slice A0_0 l0_0.length c0_0, .slice A0_1 l0_1.length c0_1]] ?_; (with_reducible refine (spec_l5Classes.calls k _ _ l0_0 _ _ l0_1 ai _ ?side1 ?side2 ?side3 ?side4 A2.out).mono ?_); (case side1 => exact rc_ (Kd.C_below bQ.out HB.out)); (case side2 => exact cj.out); (case side3 => exact rc_ (Kd.C_below bE.out HB.out)); (case side4 => exact ck.out); rintro e w8 ⟨dk, rfl, ho0, hb⟩; refine ⟨_, rfl, ?_⟩; have n0_ := am_ (Kd.R_lower ho0 (below_size (b2_ HB.out aq.out av.out))); have n1_ := am_ (blk_below (rb_ af.out) hb); have n2_ := am_ (blk_below (rb_ ah.out) hb); have n3_ := am_ (below_step (b2_ HB.out aq.out av.out) hb); clear af; clear ah; clear HB; have aR := n0_; have af := n1_; have ah := n2_; have HB := n3_; clear n0_ n1_ n2_ n3_; (try clear hb); (try clear hb2); (try clear hk); (try clear hi); (try clear ho0); obtain ⟨Ao9, co9, eo9⟩ := Kd.R_slice aR.out; subst eo9; have p147 : 0 ≤ (0 : Int) := (by omega); have q147 : 0 < (ai.length : Int) := of_decide_eq_true ah_; obtain ⟨ar, e147, bk⟩ := Kd.at_int (Kd.R_reads' aR.out).2.2 0 p147 q147; cases e147; have qi147 : (0 < ai.length) = True := eq_true (by omega); (try rw [show ((0 : Int)).toNat = 0 from rfl] at bk); (try rw [Addr.add_zero'] at bk); replace p147 := eq_true p147; replace q147 := eq_true q147) | ((with_reducible refine gate_dst (N := 15) rfl ?_); refine Kd.R_lit (Kd.int .i64) _ 3 ?hg (N := 15) ?hd (xs := ([rd ai 0] : List Int)) (inner := [.int .i64 (rd ai 0)]) (ok := fun _ => True) (okp := fun _ => True) ?hr ?hp (fun _ hk => hk) trivial (Below.refl _ _) (Nat.le_refl _) (by simp) ?_; (case hd => rfl); (case hg => rfl); (case hr => first | (go_simp; done) | (go_simp; rfl)); (case hp => exact (Reps.one (show Kd.M (Kd.int .i64) _ _ _ (rd ai 0) [.int .i64 (rd ai 0)] from rfl) (Reps.none _ _))); intro dl w10 ho11 hb hg_ hnew_; clear hg_ hnew_; (first | rw [← bR.out] at ho11 | (simp only [Int.reduceToNat] at ho11; rw [← bR.out] at ho11)); have n0_ := am_ (Kd.R_elder' (rr_ aR.out) (Kd.R_base ho11) hb); have n1_ := am_ (Kd.R_lower (Kd.R_new' ho11 (Kd.R_lt (rr_ aR.out))) (below_size (b2_ HB.out aq.out av.out))); have n2_ := am_ (blk_below (rb_ af.out) hb); have n3_ := am_ (blk_below (rb_ ah.out) hb); have n4_ := am_ (below_step (b2_ HB.out aq.out av.out) hb); clear aR; clear af; clear ah; clear HB; have aR := n0_; have bu := n1_; have af := n2_; have ah := n3_; have HB := n4_; clear n0_ n1_ n2_ n3_ n4_; clear hb ho11) | ((with_reducible refine gate_dst (N := 5) rfl ?_); refine box_event ?hg (N := 5) ?hd (cs := #[.slice none 0 0, .slice none 0 0]) (t := 27) ?hr ?_; (case hd => rfl); (case hg => rfl); (case hr => first | (go_simp; done) | (go_simp; rfl)); intro ak hg w12 hbox hb; have n0_ := am_ (Kd.R_below (rr_ aR.out) hb); have n1_ := am_ (Kd.R_below (rr_ bu.out) hb); have n2_ := am_ (blk_below (rb_ af.out) hb); have n3_ := am_ (blk_below (rb_ ah.out) hb); have n4_ := am_ (below_step (b2_ HB.out aq.out av.out) hb); have n5_ := am_ (hbox); have n6_ := am_ ((by rw [hg]; exact (below_size (b2_ HB.out aq.out av.out)) : w.heap.size ≤ ak)); have n7_ := am_ ((by rw [hg]; exact (below_size (b2_ HB.out aq.out av.out)) : w.heap.size ≤ ak)); have n8_ := am_ ((by rw [hg]; exact Nat.ne_of_lt (blk_lt (rb_ af.out)) : ax ≠ ak)); have n9_ := am_ ((by rw [hg]; exact Nat.ne_of_gt (blk_lt (rb_ af.out)) : ak ≠ ax)); have n10_ := am_ ((by rw [hg]; exact Nat.ne_of_lt (blk_lt (rb_ ah.out)) : az ≠ ak)); have n11_ := am_ ((by rw [hg]; exact Nat.ne_of_gt (blk_lt (rb_ ah.out)) : ak ≠ az)); clear aR; clear bu; clear af; clear ah; clear HB; have aR := n0_; have bu := n1_; have af := n2_; have ah := n3_; have HB := n4_; have ae := n5_; have cT := n6_; have aA := n7_; have aI := n8_; have aW := n9_; have aJ := n10_; have aX := n11_; clear n0_ n1_ n2_ n3_ n4_ n5_ n6_ n7_ n8_ n9_ n10_ n11_; clear hb hbox hg; have cU := aW.out; have cV := aI.out; have cW := aX.out; have cX := aJ.out; have bz := ck_ (v := (.slice none 0 0)) ae 0 rfl; have bA := ck_ (v := (.slice none 0 0)) ae 1 rfl; have bB := blk_frozen ae.out 0; have bC := blk_frozen ae.out 1))
  go_loopg [4, 6] k (fun kq v4 v6 w' => ∃ (bj : List Int) (ad : Int) (ap : List Bool) (am : List (List Int)) (ay : Value) (ao : Value), v6 = .int .i64 ad ∧ Aside0 (spec_l5Minimal.l0 kq ai bj ad l0_0 l0_1 ap am = some (r1, r2)) ∧ Aside0 (kq ≤ k) ∧ Aside0 (Kd.R (Kd.int .i64) 3 w' w.heap.size (fun k_ => some k_ ≠ (v4 : Value).ownBlock) (.slice (some ar) ai.length co9) ai) ∧ Aside0 (Kd.R (Kd.int .i64) 3 w' w.heap.size (fun k_ => some k_ ≠ ((.slice (some ar) ai.length co9) : Value).ownBlock) v4 bj) ∧ Aside0 (Kd.R Kd.bool 4 w' w.heap.size (fun _ => True) ay ap) ∧ Aside0 (Kd.S (Kd.slice 3 (Kd.int .i64)) 67 w' w.heap.size (fun k_ => some k_ ≠ ((.slice (some ar) ai.length co9) : Value).ownBlock ∧ some k_ ≠ (v4 : Value).ownBlock) ao am) ∧ Aside0 (w'.heap[ax]? = some (.cells #[(.slice A0_0 l0_0.length c0_0), (.slice A0_1 l0_1.length c0_1)] 27 (0, 0))) ∧ Aside0 (w'.heap[az]? = some (.cells #[(.slice none 0 0), (.slice none 0 0)] 27 (0, 0))) ∧ Aside0 (w'.heap[ak]? = some (.cells #[ay, ao] 27 (0, 0))) ∧ Aside0 (Below w.heap.size w w'))
  case atStart => exact ⟨(bV), (0), (([] : List Bool)), (([] : List (List Int))), (.slice none 0 0), (.slice none 0 0), (by first | rfl | (simp; done) | (simp [*]; done)), H', ⟨Nat.le_refl _⟩, ⟨by refine rr_ ?_; exact Kd.R_mono (Kd.R_far (p := ⟨ak, 1, none⟩) (Kd.R_far (p := ⟨ak, 0, none⟩) (Kd.R_types aR.out ae.out (by decide)) (fun _ hk => hk.2) (.slice none 0 0)) (fun _ hk => hk.2) (.slice none 0 0)) (fun _ hk => hk.1.2)⟩, ⟨by refine rr_ ?_; exact Kd.R_mono (Kd.R_far (p := ⟨ak, 1, none⟩) (Kd.R_far (p := ⟨ak, 0, none⟩) (Kd.R_types bu.out ae.out (by decide)) (fun _ hk => hk.2) (.slice none 0 0)) (fun _ hk => hk.2) (.slice none 0 0)) (fun _ hk => hk.1.2)⟩, ⟨by first | exact Kd.R_nil _ _ _ _ _ | exact Kd.N_nil _ _ _ _ _ | exact Kd.V_nil _ _ _ _ _ | exact Kd.Q_nil _ _ _ _ _ | exact Kd.S_nil _ _ _ _ _⟩, ⟨by first | exact Kd.S_nil _ _ _ _ _ | exact Kd.N_nil _ _ _ _ _ | exact Kd.V_nil _ _ _ _ _ | exact Kd.Q_nil _ _ _ _ _ | exact Kd.R_nil _ _ _ _ _⟩, ⟨by refine rb_ ?_; refine blk_far ?_ aI.out _; refine rb_ ?_; refine blk_far ?_ aI.out _; refine rb_ ?_; exact af.out⟩, ⟨by refine rb_ ?_; refine blk_far ?_ aJ.out _; refine rb_ ?_; refine blk_far ?_ aJ.out _; refine rb_ ?_; exact ah.out⟩, ⟨by refine rb_ ?_; refine blk_put (cs := #[.slice none 0 0, .slice none 0 0]) ?_ 1 _ rfl; refine rb_ ?_; refine blk_put (cs := #[.slice none 0 0, .slice none 0 0]) ?_ 0 _ rfl; refine rb_ ?_; exact ae.out⟩, ⟨by exact zp5_0_ HB.out aq.out av.out aA.out⟩⟩
  case round =>
   clear H'
   try clear c1
   try clear p1
   try clear q1
   try clear hx1
   try clear qi1
   try clear p2
   try clear c3
   try clear c3b0
   try clear c3b1
   try clear c6
   try clear c9
   try clear c12
   try clear c13
   try clear c14
   try clear p14
   try clear q14
   try clear hx14
   try clear qi14
   try clear bz
   try clear bA
   try clear bK
   try clear bL
   try clear bB
   try clear bC
   try clear bM
   try clear bN
   try clear bk
   try clear p147
   try clear q147
   obtain ⟨bj, ad, ap, am, ay, ao, rfl, HA, HK1, an, al, ag, ab, af, ah, ae, HB⟩ := hrel
   cases gk with
   | zero => exact absurd HA.out (by simp [spec_l5Minimal.l0])
   | succ k1 =>
    have H := HA.out
    clear HA
    simp only [spec_l5Minimal.l0] at H
    by_cases c16 : ad < (bj.length : Int)
    ·rw [if_pos c16] at H
     have c16b0 : decide (ad < (bj.length : Int)) = true := decide_eq_true c16
     clear c16
     obtain ⟨bW, hy152⟩ : ∃ y_ : List Int, y_ = (([] : List Int)) := ⟨_, rfl⟩
     replace H : (spec_l5Minimal.l1 k1 ai bj ad bW 0 l0_0 l0_1 ap am) = some (r1, r2) := by first | (rw [hy152]; with_reducible exact H) | (have H2_ := (Option.bind_some _ _).symm.trans H; rw [hy152]; with_reducible exact H2_) | (have H2_ := (Option.bind_some _ _).symm.trans H; with_reducible exact H2_) | with_reducible exact H | (rw [hy152]; exact H) | exact H
     have bS := am_ hy152
     clear hy152
     have H' := am_ H
     clear H
     obtain ⟨dm, dn, cu⟩ := Kd.R_slice al.out
     subst cu
     go_wp2_with (first | ((with_reducible refine gate_dst (N := 23) rfl ?_); refine Kd.R_lit (Kd.int .i64) _ 3 ?hg (N := 23) ?hd (xs := ([] : List Int)) (inner := []) (ok := fun _ => True) (okp := fun _ => True) ?hr ?hp (fun _ hk => hk) trivial (Below.refl _ _) (Nat.le_refl _) (by simp) ?_; (case hd => rfl); (case hg => rfl); (case hr => first | (go_simp; done) | (go_simp; rfl)); (case hp => exact (Reps.none _ _)); intro dp w18 ho19 hb hg_ hnew_; clear hg_ hnew_; (first | rw [← bS.out] at ho19 | (simp only [Int.reduceToNat] at ho19; rw [← bS.out] at ho19)); have n0_ := am_ (Kd.R_elder' (rr_ an.out) (Kd.R_base ho19) hb); have n1_ := am_ (Kd.R_elder' (rr_ al.out) (Kd.R_base ho19) hb); have n2_ := am_ (Kd.R_below (rr_ ag.out) hb); have n3_ := am_ (Kd.S_elder' (rs_ ab.out) (Kd.R_base ho19) hb); have n4_ := am_ (Kd.R_lower (Kd.R_new' (Kd.R_new' ho19 (Kd.R_lt (rr_ an.out))) (Kd.R_lt (rr_ al.out))) (below_size (b3_ HB.out aq.out av.out aA.out))); have n5_ := am_ (blk_below (rb_ af.out) hb); have n6_ := am_ (blk_below (rb_ ah.out) hb); have n7_ := am_ (blk_below (rb_ ae.out) hb); have n8_ := am_ (below_step (b3_ HB.out aq.out av.out aA.out) hb); clear an; clear al; clear ag; clear ab; clear af; clear ah; clear ae; clear HB; have an := n0_; have al := n1_; have ag := n2_; have ab := n3_; have cl := n4_; have af := n5_; have ah := n6_; have ae := n7_; have HB := n8_; clear n0_ n1_ n2_ n3_ n4_ n5_ n6_ n7_ n8_; clear hb ho19))
     go_loopg [4, 7, 8] k1 (fun kq v4 v7 v8 w' => ∃ (aa : List Int) (aK : List Int) (aj : Int), v8 = .int .i64 aj ∧ Aside0 (spec_l5Minimal.l1 kq ai aa ad aK aj l0_0 l0_1 ap am = some (r1, r2)) ∧ Aside0 (kq ≤ k1) ∧ Aside0 (Kd.R (Kd.int .i64) 3 w' w.heap.size (fun k_ => some k_ ≠ (v4 : Value).ownBlock ∧ some k_ ≠ (v7 : Value).ownBlock) (.slice (some ar) ai.length co9) ai) ∧ Aside0 (Kd.R (Kd.int .i64) 3 w' w.heap.size (fun k_ => some k_ ≠ ((.slice (some ar) ai.length co9) : Value).ownBlock ∧ some k_ ≠ (v7 : Value).ownBlock) v4 aa) ∧ Aside0 (Kd.R (Kd.int .i64) 3 w' w.heap.size (fun k_ => some k_ ≠ ((.slice (some ar) ai.length co9) : Value).ownBlock ∧ some k_ ≠ (v4 : Value).ownBlock) v7 aK) ∧ Aside0 (Kd.R Kd.bool 4 w' w.heap.size (fun _ => True) ay ap) ∧ Aside0 (Kd.S (Kd.slice 3 (Kd.int .i64)) 67 w' w.heap.size (fun k_ => some k_ ≠ ((.slice (some ar) ai.length co9) : Value).ownBlock ∧ some k_ ≠ (v4 : Value).ownBlock ∧ some k_ ≠ (v7 : Value).ownBlock) ao am) ∧ Aside0 (w'.heap[ax]? = some (.cells #[(.slice A0_0 l0_0.length c0_0), (.slice A0_1 l0_1.length c0_1)] 27 (0, 0))) ∧ Aside0 (w'.heap[az]? = some (.cells #[(.slice none 0 0), (.slice none 0 0)] 27 (0, 0))) ∧ Aside0 (w'.heap[ak]? = some (.cells #[ay, ao] 27 (0, 0))) ∧ Aside0 (Below w.heap.size w w'))
     case atStart => exact ⟨(bj), (bW), (0), (by first | rfl | (simp; done) | (simp [*]; done)), H', ⟨Nat.le_refl _⟩, ⟨by refine rr_ ?_; exact an.out⟩, ⟨by refine rr_ ?_; exact al.out⟩, ⟨by refine rr_ ?_; exact Kd.R_mono cl.out (fun _ hk => ⟨hk.1.2, hk.2⟩)⟩, ⟨by refine rr_ ?_; exact ag.out⟩, ⟨by refine rs_ ?_; exact Kd.S_mono ab.out (fun _ hk => ⟨hk.1.1, ⟨hk.1.2, hk.2⟩⟩)⟩, ⟨by refine rb_ ?_; exact af.out⟩, ⟨by refine rb_ ?_; exact ah.out⟩, ⟨by refine rb_ ?_; exact ae.out⟩, ⟨by exact zp5_0_ HB.out aq.out av.out aA.out⟩⟩
     case round =>
      clear H'
      try clear c1
      try clear p1
      try clear q1
      try clear hx1
      try clear qi1
      try clear p2
      try clear c3
      try clear c3b0
      try clear c3b1
      try clear c6
      try clear c9
      try clear c12
      try clear c13
      try clear c14
      try clear p14
      try clear q14
      try clear hx14
      try clear qi14
      try clear c16
      try clear c16b0
      try clear bz
      try clear bA
      try clear bK
      try clear bL
      try clear bB
      try clear bC
      try clear bM
      try clear bN
      try clear bk
      try clear p1
      try clear p14
      try clear p147
      try clear p2
      try clear q1
      try clear q14
      try clear q147
      obtain ⟨aa, aK, aj, rfl, HA, HK2, an, al, au, ag, ab, af, ah, ae, HB⟩ := hrel
      cases gk with
      | zero => exact absurd HA.out (by simp [spec_l5Minimal.l1])
      | succ k2 =>
       have H := HA.out
       clear HA
       simp only [spec_l5Minimal.l1] at H
       by_cases c20 : aj < 3
       ·rw [if_pos c20] at H
        have c20b0 : decide (aj < 3) = true := decide_eq_true c20
        clear c20
        by_cases c21 : 0 ≤ ad
        ·rw [if_pos c21] at H
         have c21b0 : decide (0 ≤ ad) = true := decide_eq_true c21
         clear c21
         by_cases c22 : ad < (aa.length : Int)
         ·rw [if_pos c22] at H
          have c22b0 : decide (ad < (aa.length : Int)) = true := decide_eq_true c22
          clear c22
          by_cases c23 : 0 ≤ (rd aa ad)
          ·rw [if_pos c23] at H
           have c23b0 : decide (0 ≤ (rd aa ad)) = true := decide_eq_true c23
           clear c23
           by_cases c24 : (rd aa ad) < (l0_1.length : Int)
           ·rw [if_pos c24] at H
            have c24b0 : decide ((rd aa ad) < (l0_1.length : Int)) = true := decide_eq_true c24
            clear c24
            by_cases c25 : 0 ≤ aj
            ·rw [if_pos c25] at H
             have c25b0 : decide (0 ≤ aj) = true := decide_eq_true c25
             clear c25
             by_cases c26 : aj < ((rd_L1 l0_1 (rd aa ad)).length : Int)
             ·rw [if_pos c26] at H
              have c26b0 : decide (aj < ((rd_L1 l0_1 (rd aa ad)).length : Int)) = true := decide_eq_true c26
              clear c26
              by_cases c27 : 0 ≤ (rd (rd_L1 l0_1 (rd aa ad)) aj)
              ·rw [if_pos c27] at H
               have c27b0 : decide (0 ≤ (rd (rd_L1 l0_1 (rd aa ad)) aj)) = true := decide_eq_true c27
               clear c27
               by_cases c28 : (rd (rd_L1 l0_1 (rd aa ad)) aj) < (ai.length : Int)
               ·rw [if_pos c28] at H
                have c28b0 : decide ((rd (rd_L1 l0_1 (rd aa ad)) aj) < (ai.length : Int)) = true := decide_eq_true c28
                clear c28
                replace H := Option.bind_eq_some_iff.mp H
                obtain ⟨bm, bX, H⟩ := H
                have A29 := am_ bX
                clear bX
                by_cases c30 : bm < 0
                ·rw [if_pos c30] at H
                 have c30b0 : decide (bm < 0) = true := decide_eq_true c30
                 clear c30
                 by_cases c31 : aa.length < 17592186044416
                 ·rw [if_pos c31] at H
                  have LMc31 := am_ c31
                  clear c31
                  obtain ⟨aU, hy168⟩ : ∃ y_ : List Int, y_ = (aa ++ [rd ai (rd (rd_L1 l0_1 (rd aa ad)) aj)]) := ⟨_, rfl⟩
                  replace H : ((spec_l5Find.f k2 aU (rd ai (rd (rd_L1 l0_1 (rd aa ad)) aj))).bind fun bi => (if aK.length < 17592186044416 then (spec_l5Minimal.l1 k2 ai aU ad (aK ++ [bi]) (wrap64 (aj + 1)) l0_0 l0_1 ap am) else (none))) = some (r1, r2) := by first | (rw [hy168]; with_reducible exact H) | (have H2_ := (Option.bind_some _ _).symm.trans H; rw [hy168]; with_reducible exact H2_) | (have H2_ := (Option.bind_some _ _).symm.trans H; with_reducible exact H2_) | with_reducible exact H | (rw [hy168]; exact H) | exact H
                  have cm := am_ hy168
                  clear hy168
                  replace H := Option.bind_eq_some_iff.mp H
                  obtain ⟨bi, bY, H⟩ := H
                  have A32 := am_ bY
                  clear bY
                  by_cases c33 : aK.length < 17592186044416
                  ·rw [if_pos c33] at H
                   have LMc33 := am_ c33
                   clear c33
                   obtain ⟨bZ, hy172⟩ : ∃ y_ : List Int, y_ = (aK ++ [bi]) := ⟨_, rfl⟩
                   replace H : (spec_l5Minimal.l1 k2 ai aU ad bZ (wrap64 (aj + 1)) l0_0 l0_1 ap am) = some (r1, r2) := by first | (rw [hy172]; with_reducible exact H) | (have H2_ := (Option.bind_some _ _).symm.trans H; rw [hy172]; with_reducible exact H2_) | (have H2_ := (Option.bind_some _ _).symm.trans H; with_reducible exact H2_) | with_reducible exact H | (rw [hy172]; exact H) | exact H
                   have cn := am_ hy172
                   clear hy172
                   have H' := am_ H
                   clear H
                   try go_wp2
                   replace an := am_ (Kd.R_drew an.out)
                   replace al := am_ (Kd.R_drew al.out)
                   replace au := am_ (Kd.R_drew au.out)
                   replace ag := am_ (Kd.R_drew ag.out)
                   replace ab := am_ (Kd.S_drew ab.out)
                   replace af := am_ (blk_drew af.out)
                   replace ah := am_ (blk_drew ah.out)
                   replace ae := am_ (blk_drew ae.out)
                   replace HB := am_ (below_drew1 HB.out)
                   obtain ⟨dq, ca, cb⟩ := Kd.R_slice al.out
                   (first | subst cb | (injection cb with f1_ f2_ f3_; have f4_ := f1_.symm; have f5_ := f3_.symm; clear f1_ f2_ f3_; subst f4_; subst f5_))
                   have p163 : 0 ≤ (ad : Int) := of_decide_eq_true ah_
                   have q163 : ad < (aa.length : Int) := of_decide_eq_true ah_
                   obtain ⟨aT, e163, bc⟩ := Kd.at_int (Kd.R_reads' al.out).2.2 ad p163 q163
                   cases e163
                   replace p163 := eq_true p163
                   replace q163 := eq_true q163
                   have p164 : 0 ≤ ((rd aa ad) : Int) := of_decide_eq_true ah_
                   have q164 : (rd aa ad) < (l0_1.length : Int) := of_decide_eq_true ah_
                   obtain ⟨aY, A164_0, c164_0, e164, aG, hl164_0, hi164_0⟩ := at_L1 bE.out (rd aa ad) p164 q164
                   have bd := aG
                   cases e164
                   replace aG := (HB.out.cell (World.block_lt_of_cell? w _ aG)).trans aG
                   have be := am_ hi164_0
                   have bU := am_ hl164_0
                   clear hi164_0 hl164_0
                   replace p164 := eq_true p164
                   replace q164 := eq_true q164
                   have p165 : 0 ≤ (aj : Int) := of_decide_eq_true ah_
                   have q165 : aj < ((rd_L1 l0_1 (rd aa ad)).length : Int) := of_decide_eq_true ah_
                   obtain ⟨bp, e165, aH⟩ := Kd.at_int be.out aj p165 q165
                   have bf := aH
                   cases e165
                   replace aH := (HB.out.cell (World.block_lt_of_cell? w _ aH)).trans aH
                   replace p165 := eq_true p165
                   replace q165 := eq_true q165
                   have p166 : 0 ≤ ((rd (rd_L1 l0_1 (rd aa ad)) aj) : Int) := of_decide_eq_true ah_
                   have q166 : (rd (rd_L1 l0_1 (rd aa ad)) aj) < (ai.length : Int) := of_decide_eq_true ah_
                   obtain ⟨bF, e166, bg⟩ := Kd.at_int (Kd.R_reads' an.out).2.2 (rd (rd_L1 l0_1 (rd aa ad)) aj) p166 q166
                   obtain rfl : ar = bF := (by injection e166)
                   replace p166 := eq_true p166
                   replace q166 := eq_true q166
                   refine start_ (n := 15) (S := fun w' => w'.cell? ⟨ax, 0, none⟩ = some (.slice A0_0 l0_0.length c0_0) ∧ w'.cell? ⟨ax, 1, none⟩ = some (.slice (some aY) l0_1.length c0_1) ∧ w'.cell? (aT.add (ad).toNat) = some (.int .i64 (rd aa ad)) ∧ w'.cell? (aY.add ((rd aa ad)).toNat) = some (.slice (some bp) (rd_L1 l0_1 (rd aa ad)).length c164_0) ∧ w'.cell? (bp.add (aj).toNat) = some (.int .i64 (rd (rd_L1 l0_1 (rd aa ad)) aj)) ∧ w'.cell? (ar.add ((rd (rd_L1 l0_1 (rd aa ad)) aj)).toNat) = some (.int .i64 (rd ai (rd (rd_L1 l0_1 (rd aa ad)) aj)))) (ds := []) (bl 15 0) (by kernel_rfl) rfl rfl ⟨(blk_cell af.out 0).trans rfl, (blk_cell af.out 1).trans rfl, bc, ((HB.out.cell (World.block_lt_of_cell? w _ bd)).trans bd), ((HB.out.cell (World.block_lt_of_cell? w _ bf)).trans bf), bg⟩ (fun hHeld => ?_); refine with_tabW spec_l5Minimal.tab11 spec_l5Minimal.bits11 (fun HT_ HW_ => ?_)
                   generalize wr.drew = w34 at an al au ag ab af ah ae HB be bc aG aH bg hHeld ⊢
                   refine pu_ 0 28 (bl 15 1) HT_ ?_
                   refine pu_ 1 29 (bl 15 3) HT_ ?_
                   refine pu_ 3 31 (bl 15 11) HT_ ?_
                   refine pu_ 4 32 (bl 15 27) HT_ ?_
                   refine pu_ 5 33 (bl 15 59) HT_ ?_
                   refine pu_ 9 37 (bl 15 571) HT_ ?_
                   refine tk_ 2 30 (bl 15 575) HT_ HW_ hHeld ?_
                   refine tk_ 6 34 (bl 15 639) HT_ HW_ hHeld ?_
                   refine pu_ 7 35 (bl 15 767) HT_ ?_
                   refine tk_ 8 36 (bl 15 1023) HT_ HW_ hHeld ?_
                   refine pu_ 10 38 (bl 15 2047) HT_ ?_
                   refine tk_ 11 39 (bl 15 4095) HT_ HW_ hHeld ?_
                   refine pu_ 12 40 (bl 15 8191) HT_ ?_
                   refine tk_ 13 41 (bl 15 16383) HT_ HW_ hHeld ?_
                   refine pu_ 14 9 (bl 15 32767) HT_ ?_
                   refine done_ (done_of HT_.out (by kernel_rfl)) ?_
                   try go_wp2_with (first | ((with_reducible refine gate_callee (f := 63) rfl ?_); refine gL_ (some 44) Try.func63 #[.slice (some aT) aa.length ca, .int .i64 (rd ai (rd (rd_L1 l0_1 (rd aa ad)) aj))] ?_; (with_reducible refine (spec_l5Find.calls k2 _ _ aa (rd ai (rd (rd_L1 l0_1 (rd aa ad)) aj)) bm _ ?side1 ?side2 A29.out).mono ?_); (case side1 => exact rc_ ((Kd.R_reads' al.out).2.2)); (case side2 => exact (Kd.R_reads' al.out).2.1); rintro e w' ⟨rfl, ⟨nd, rfl⟩⟩; refine ⟨_, rfl, ?_⟩) | ((with_reducible refine gate_builtin (b := .append) (xs := #[.tmp 46, .tmp 48]) rfl ?_); at_builtin; refine Kd.R_append (Kd.int .i64) (w0 := w) w.heap.size rfl (.tmp 46) (.tmp 48) 67 3 (.int .i64 0) 8 rfl Try.underlying67 info3 rfl (by decide) (by omega) (.slice (some aT) aa.length ca) aa (rd ai (rd (rd_L1 l0_1 (rd aa ad)) aj)) [.int .i64 (rd ai (rd (rd_L1 l0_1 (rd aa ad)) aj))] (fun k_ => some k_ ≠ (.slice (some ar) ai.length co9 : Value).ownBlock ∧ some k_ ≠ (u7 : Value).ownBlock) (fun _ => False) rfl rfl ?aP (fun _ hk => hk.elim) ?aF ?aO ?aB ?aS ?aL ?_; (case aP => exact rfl); (case aB => exact (b3_ HB.out aq.out av.out aA.out)); (case aF => exact (fun k_ hk => ⟨Kd.fresh' (Kd.R_lt (rr_ an.out)) k_ hk, Kd.fresh' (Kd.R_lt (rr_ au.out)) k_ hk⟩)); (case aO => exact (rr_ al.out)); (case aS => exact (below_size (b3_ HB.out aq.out av.out aA.out))); (case aL => have := LMc31.out; omega); intro dr w36 ho hb hg hat; rw [← cm.out] at ho; have n0_ := am_ (Kd.R_after (ok := (fun k_ => some k_ ≠ (u7 : Value).ownBlock)) (by refine rr_ ?_; exact Kd.R_mono an.out (fun _ hk => ⟨hk.2, hk.1⟩)) hg hat); have n1_ := am_ (Kd.R_after (ok := (fun k_ => some k_ ≠ (.slice (some ar) ai.length co9 : Value).ownBlock)) (rr_ au.out) hg hat); have n2_ := am_ (Kd.R_over' (rr_ ag.out) (Kd.R_typed (rr_ al.out)) (by decide) hg); have n3_ := am_ (Kd.S_after (ok := (fun k_ => some k_ ≠ (.slice (some ar) ai.length co9 : Value).ownBlock ∧ some k_ ≠ (u7 : Value).ownBlock)) (by refine rs_ ?_; exact Kd.S_mono ab.out (fun _ hk => ⟨⟨hk.1, hk.2.2⟩, hk.2.1⟩)) hg hat); have n4_ := am_ (blk_grown (g := ax) (o := .cells #[.slice A0_0 l0_0.length c0_0, .slice (some aY) l0_1.length c0_1] 27 (0, 0)) (rb_ af.out) hg (Kd.R_ne al.out af.out (by decide))); have n5_ := am_ (blk_grown (g := az) (o := .cells #[.slice none 0 0, .slice none 0 0] 27 (0, 0)) (rb_ ah.out) hg (Kd.R_ne al.out ah.out (by decide))); have n6_ := am_ (blk_grown (g := ak) (o := .cells #[ay, ao] 27 (0, 0)) (rb_ ae.out) hg (Kd.R_ne al.out ae.out (by decide))); have n7_ := am_ (hb); have n8_ := am_ (ho); clear an; clear au; clear ag; clear ab; clear af; clear ah; clear ae; clear HB; clear al; have an := n0_; have au := n1_; have ag := n2_; have ab := n3_; have af := n4_; have ah := n5_; have ae := n6_; have HB := n7_; have aZ := n8_; clear n0_ n1_ n2_ n3_ n4_ n5_ n6_ n7_ n8_; clear ho hb hg hat; obtain ⟨bG, bH, cv⟩ := Kd.R_slice aZ.out; subst cv) | ((with_reducible refine gate_callee (f := 63) rfl ?_); refine gL_ (some 53) Try.func63 #[.slice bG aU.length bH, .int .i64 (rd ai (rd (rd_L1 l0_1 (rd aa ad)) aj))] ?_; (with_reducible refine (spec_l5Find.calls k2 _ _ aU (rd ai (rd (rd_L1 l0_1 (rd aa ad)) aj)) bi _ ?side1 ?side2 A32.out).mono ?_); (case side1 => exact rc_ ((Kd.R_reads' aZ.out).2.2)); (case side2 => exact (Kd.R_reads' aZ.out).2.1); rintro e w' ⟨rfl, ⟨nd, rfl⟩⟩; refine ⟨_, rfl, ?_⟩) | ((with_reducible refine gate_builtin (b := .append) (xs := #[.tmp 50, .tmp 54]) rfl ?_); at_builtin; refine Kd.R_append (Kd.int .i64) (w0 := w) w.heap.size rfl (.tmp 50) (.tmp 54) 67 3 (.int .i64 0) 8 rfl Try.underlying67 info3 rfl (by decide) (by omega) u7 aK bi [.int .i64 bi] (fun k_ => some k_ ≠ (.slice (some ar) ai.length co9 : Value).ownBlock ∧ some k_ ≠ (.slice bG aU.length bH : Value).ownBlock) (fun _ => False) rfl rfl ?aP (fun _ hk => hk.elim) ?aF ?aO ?aB ?aS ?aL ?_; (case aP => exact rfl); (case aB => exact (b3_ HB.out aq.out av.out aA.out)); (case aF => exact (fun k_ hk => ⟨Kd.fresh' (Kd.R_lt (rr_ an.out)) k_ hk, Kd.fresh' (Kd.R_lt (rr_ aZ.out)) k_ hk⟩)); (case aO => exact (rr_ au.out)); (case aS => exact (below_size (b3_ HB.out aq.out av.out aA.out))); (case aL => have := LMc33.out; omega); intro dt w38 ho hb hg hat; rw [← cn.out] at ho; have n0_ := am_ (Kd.R_after (ok := (fun k_ => some k_ ≠ (.slice bG aU.length bH : Value).ownBlock)) (by refine rr_ ?_; exact Kd.R_mono an.out (fun _ hk => ⟨hk.2, hk.1⟩)) hg hat); have n1_ := am_ (Kd.R_over' (rr_ ag.out) (Kd.R_typed (rr_ au.out)) (by decide) hg); have n2_ := am_ (Kd.S_after (ok := (fun k_ => some k_ ≠ (.slice (some ar) ai.length co9 : Value).ownBlock ∧ some k_ ≠ (.slice bG aU.length bH : Value).ownBlock)) (by refine rs_ ?_; exact Kd.S_mono ab.out (fun _ hk => ⟨⟨hk.1.1, hk.2⟩, hk.1.2⟩)) hg hat); have n3_ := am_ (blk_grown (g := ax) (o := .cells #[.slice A0_0 l0_0.length c0_0, .slice (some aY) l0_1.length c0_1] 27 (0, 0)) (rb_ af.out) hg (Kd.R_ne au.out af.out (by decide))); have n4_ := am_ (blk_grown (g := az) (o := .cells #[.slice none 0 0, .slice none 0 0] 27 (0, 0)) (rb_ ah.out) hg (Kd.R_ne au.out ah.out (by decide))); have n5_ := am_ (blk_grown (g := ak) (o := .cells #[ay, ao] 27 (0, 0)) (rb_ ae.out) hg (Kd.R_ne au.out ae.out (by decide))); have n6_ := am_ (Kd.R_after (ok := (fun k_ => some k_ ≠ (.slice (some ar) ai.length co9 : Value).ownBlock)) (rr_ aZ.out) hg hat); have n7_ := am_ (hb); have n8_ := am_ (ho); clear an; clear ag; clear ab; clear af; clear ah; clear ae; clear aZ; clear HB; clear au; have an := n0_; have ag := n1_; have ab := n2_; have af := n3_; have ah := n4_; have ae := n5_; have aZ := n6_; have HB := n7_; have co := n8_; clear n0_ n1_ n2_ n3_ n4_ n5_ n6_ n7_ n8_; clear ho hb hg hat))
                   go_roundg k2
                   case measure => have := HK1.out; have := HK2.out; omega
                   case rel => exact ⟨(aU), (bZ), (wrap64 (aj + 1)), (by first | rfl | (simp; done) | (simp [*]; done)), H', ⟨by have := HK1.out; have := HK2.out; omega⟩, ⟨by refine rr_ ?_; exact an.out⟩, ⟨by refine rr_ ?_; exact aZ.out⟩, ⟨by refine rr_ ?_; exact co.out⟩, ⟨by refine rr_ ?_; exact ag.out⟩, ⟨by refine rs_ ?_; exact Kd.S_mono ab.out (fun _ hk => ⟨hk.1.1, ⟨hk.1.2, hk.2⟩⟩)⟩, ⟨by refine rb_ ?_; exact af.out⟩, ⟨by refine rb_ ?_; exact ah.out⟩, ⟨by refine rb_ ?_; exact ae.out⟩, ⟨by exact zp5_0_ HB.out aq.out av.out aA.out⟩⟩
                  ·rw [if_neg c33] at H
                   exact absurd H (by simp)
                 ·rw [if_neg c31] at H
                  exact absurd H (by simp)
                ·rw [if_neg c30] at H
                 have c30b0 : decide (bm < 0) = false := decide_eq_false c30
                 clear c30
                 replace H := Option.bind_eq_some_iff.mp H
                 obtain ⟨br, cc, H⟩ := H
                 have A39 := am_ cc
                 clear cc
                 by_cases c40 : aK.length < 17592186044416
                 ·rw [if_pos c40] at H
                  have LMc40 := am_ c40
                  clear c40
                  obtain ⟨cd, hy176⟩ : ∃ y_ : List Int, y_ = (aK ++ [br]) := ⟨_, rfl⟩
                  replace H : (spec_l5Minimal.l1 k2 ai aa ad cd (wrap64 (aj + 1)) l0_0 l0_1 ap am) = some (r1, r2) := by first | (rw [hy176]; with_reducible exact H) | (have H2_ := (Option.bind_some _ _).symm.trans H; rw [hy176]; with_reducible exact H2_) | (have H2_ := (Option.bind_some _ _).symm.trans H; with_reducible exact H2_) | with_reducible exact H | (rw [hy176]; exact H) | exact H
                  have cp := am_ hy176
                  clear hy176
                  have H' := am_ H
                  clear H
                  try go_wp2
                  replace an := am_ (Kd.R_drew an.out)
                  replace al := am_ (Kd.R_drew al.out)
                  replace au := am_ (Kd.R_drew au.out)
                  replace ag := am_ (Kd.R_drew ag.out)
                  replace ab := am_ (Kd.S_drew ab.out)
                  replace af := am_ (blk_drew af.out)
                  replace ah := am_ (blk_drew ah.out)
                  replace ae := am_ (blk_drew ae.out)
                  replace HB := am_ (below_drew1 HB.out)
                  obtain ⟨du, bv, ce⟩ := Kd.R_slice al.out
                  (first | subst ce | (injection ce with f1_ f2_ f3_; have f4_ := f1_.symm; have f5_ := f3_.symm; clear f1_ f2_ f3_; subst f4_; subst f5_))
                  have p163 : 0 ≤ (ad : Int) := of_decide_eq_true ah_
                  have q163 : ad < (aa.length : Int) := of_decide_eq_true ah_
                  obtain ⟨aT, e163, bc⟩ := Kd.at_int (Kd.R_reads' al.out).2.2 ad p163 q163
                  cases e163
                  replace p163 := eq_true p163
                  replace q163 := eq_true q163
                  have p164 : 0 ≤ ((rd aa ad) : Int) := of_decide_eq_true ah_
                  have q164 : (rd aa ad) < (l0_1.length : Int) := of_decide_eq_true ah_
                  obtain ⟨aY, A164_0, c164_0, e164, aG, hl164_0, hi164_0⟩ := at_L1 bE.out (rd aa ad) p164 q164
                  have bd := aG
                  cases e164
                  replace aG := (HB.out.cell (World.block_lt_of_cell? w _ aG)).trans aG
                  have be := am_ hi164_0
                  have bU := am_ hl164_0
                  clear hi164_0 hl164_0
                  replace p164 := eq_true p164
                  replace q164 := eq_true q164
                  have p165 : 0 ≤ (aj : Int) := of_decide_eq_true ah_
                  have q165 : aj < ((rd_L1 l0_1 (rd aa ad)).length : Int) := of_decide_eq_true ah_
                  obtain ⟨bp, e165, aH⟩ := Kd.at_int be.out aj p165 q165
                  have bf := aH
                  cases e165
                  replace aH := (HB.out.cell (World.block_lt_of_cell? w _ aH)).trans aH
                  replace p165 := eq_true p165
                  replace q165 := eq_true q165
                  have p166 : 0 ≤ ((rd (rd_L1 l0_1 (rd aa ad)) aj) : Int) := of_decide_eq_true ah_
                  have q166 : (rd (rd_L1 l0_1 (rd aa ad)) aj) < (ai.length : Int) := of_decide_eq_true ah_
                  obtain ⟨bF, e166, bg⟩ := Kd.at_int (Kd.R_reads' an.out).2.2 (rd (rd_L1 l0_1 (rd aa ad)) aj) p166 q166
                  obtain rfl : ar = bF := (by injection e166)
                  replace p166 := eq_true p166
                  replace q166 := eq_true q166
                  refine start_ (n := 15) (S := fun w' => w'.cell? ⟨ax, 0, none⟩ = some (.slice A0_0 l0_0.length c0_0) ∧ w'.cell? ⟨ax, 1, none⟩ = some (.slice (some aY) l0_1.length c0_1) ∧ w'.cell? (aT.add (ad).toNat) = some (.int .i64 (rd aa ad)) ∧ w'.cell? (aY.add ((rd aa ad)).toNat) = some (.slice (some bp) (rd_L1 l0_1 (rd aa ad)).length c164_0) ∧ w'.cell? (bp.add (aj).toNat) = some (.int .i64 (rd (rd_L1 l0_1 (rd aa ad)) aj)) ∧ w'.cell? (ar.add ((rd (rd_L1 l0_1 (rd aa ad)) aj)).toNat) = some (.int .i64 (rd ai (rd (rd_L1 l0_1 (rd aa ad)) aj)))) (ds := []) (bl 15 0) (by kernel_rfl) rfl rfl ⟨(blk_cell af.out 0).trans rfl, (blk_cell af.out 1).trans rfl, bc, ((HB.out.cell (World.block_lt_of_cell? w _ bd)).trans bd), ((HB.out.cell (World.block_lt_of_cell? w _ bf)).trans bf), bg⟩ (fun hHeld => ?_); refine with_tabW spec_l5Minimal.tab11 spec_l5Minimal.bits11 (fun HT_ HW_ => ?_)
                  generalize wr.drew = w41 at an al au ag ab af ah ae HB be bc aG aH bg hHeld ⊢
                  refine pu_ 0 28 (bl 15 1) HT_ ?_
                  refine pu_ 1 29 (bl 15 3) HT_ ?_
                  refine pu_ 3 31 (bl 15 11) HT_ ?_
                  refine pu_ 4 32 (bl 15 27) HT_ ?_
                  refine pu_ 5 33 (bl 15 59) HT_ ?_
                  refine pu_ 9 37 (bl 15 571) HT_ ?_
                  refine tk_ 2 30 (bl 15 575) HT_ HW_ hHeld ?_
                  refine tk_ 6 34 (bl 15 639) HT_ HW_ hHeld ?_
                  refine pu_ 7 35 (bl 15 767) HT_ ?_
                  refine tk_ 8 36 (bl 15 1023) HT_ HW_ hHeld ?_
                  refine pu_ 10 38 (bl 15 2047) HT_ ?_
                  refine tk_ 11 39 (bl 15 4095) HT_ HW_ hHeld ?_
                  refine pu_ 12 40 (bl 15 8191) HT_ ?_
                  refine tk_ 13 41 (bl 15 16383) HT_ HW_ hHeld ?_
                  refine pu_ 14 9 (bl 15 32767) HT_ ?_
                  refine done_ (done_of HT_.out (by kernel_rfl)) ?_
                  try go_wp2_with (first | ((with_reducible refine gate_callee (f := 63) rfl ?_); refine gL_ (some 44) Try.func63 #[.slice (some aT) aa.length bv, .int .i64 (rd ai (rd (rd_L1 l0_1 (rd aa ad)) aj))] ?_; (with_reducible refine (spec_l5Find.calls k2 _ _ aa (rd ai (rd (rd_L1 l0_1 (rd aa ad)) aj)) bm _ ?side1 ?side2 A29.out).mono ?_); (case side1 => exact rc_ ((Kd.R_reads' al.out).2.2)); (case side2 => exact (Kd.R_reads' al.out).2.1); rintro e w' ⟨rfl, ⟨nd, rfl⟩⟩; refine ⟨_, rfl, ?_⟩) | ((with_reducible refine gate_callee (f := 63) rfl ?_); refine gL_ (some 53) Try.func63 #[.slice (some aT) aa.length bv, .int .i64 (rd ai (rd (rd_L1 l0_1 (rd aa ad)) aj))] ?_; (with_reducible refine (spec_l5Find.calls k2 _ _ aa (rd ai (rd (rd_L1 l0_1 (rd aa ad)) aj)) br _ ?side1 ?side2 A39.out).mono ?_); (case side1 => exact rc_ ((Kd.R_reads' al.out).2.2)); (case side2 => exact (Kd.R_reads' al.out).2.1); rintro e w' ⟨rfl, ⟨nd, rfl⟩⟩; refine ⟨_, rfl, ?_⟩) | ((with_reducible refine gate_builtin (b := .append) (xs := #[.tmp 50, .tmp 54]) rfl ?_); at_builtin; refine Kd.R_append (Kd.int .i64) (w0 := w) w.heap.size rfl (.tmp 50) (.tmp 54) 67 3 (.int .i64 0) 8 rfl Try.underlying67 info3 rfl (by decide) (by omega) u7 aK br [.int .i64 br] (fun k_ => some k_ ≠ (.slice (some ar) ai.length co9 : Value).ownBlock ∧ some k_ ≠ (.slice (some aT) aa.length bv : Value).ownBlock) (fun _ => False) rfl rfl ?aP (fun _ hk => hk.elim) ?aF ?aO ?aB ?aS ?aL ?_; (case aP => exact rfl); (case aB => exact (b3_ HB.out aq.out av.out aA.out)); (case aF => exact (fun k_ hk => ⟨Kd.fresh' (Kd.R_lt (rr_ an.out)) k_ hk, Kd.fresh' (Kd.R_lt (rr_ al.out)) k_ hk⟩)); (case aO => exact (rr_ au.out)); (case aS => exact (below_size (b3_ HB.out aq.out av.out aA.out))); (case aL => have := LMc40.out; omega); intro dv w43 ho hb hg hat; rw [← cp.out] at ho; have n0_ := am_ (Kd.R_after (ok := (fun k_ => some k_ ≠ (.slice (some aT) aa.length bv : Value).ownBlock)) (rr_ an.out) hg hat); have n1_ := am_ (Kd.R_after (ok := (fun k_ => some k_ ≠ (.slice (some ar) ai.length co9 : Value).ownBlock)) (rr_ al.out) hg hat); have n2_ := am_ (Kd.R_over' (rr_ ag.out) (Kd.R_typed (rr_ au.out)) (by decide) hg); have n3_ := am_ (Kd.S_after (ok := (fun k_ => some k_ ≠ (.slice (some ar) ai.length co9 : Value).ownBlock ∧ some k_ ≠ (.slice (some aT) aa.length bv : Value).ownBlock)) (by refine rs_ ?_; exact Kd.S_mono ab.out (fun _ hk => ⟨⟨hk.1, hk.2.1⟩, hk.2.2⟩)) hg hat); have n4_ := am_ (blk_grown (g := ax) (o := .cells #[.slice A0_0 l0_0.length c0_0, .slice (some aY) l0_1.length c0_1] 27 (0, 0)) (rb_ af.out) hg (Kd.R_ne au.out af.out (by decide))); have n5_ := am_ (blk_grown (g := az) (o := .cells #[.slice none 0 0, .slice none 0 0] 27 (0, 0)) (rb_ ah.out) hg (Kd.R_ne au.out ah.out (by decide))); have n6_ := am_ (blk_grown (g := ak) (o := .cells #[ay, ao] 27 (0, 0)) (rb_ ae.out) hg (Kd.R_ne au.out ae.out (by decide))); have n7_ := am_ (hb); have n8_ := am_ (ho); clear an; clear al; clear ag; clear ab; clear af; clear ah; clear ae; clear HB; clear au; have an := n0_; have al := n1_; have ag := n2_; have ab := n3_; have af := n4_; have ah := n5_; have ae := n6_; have HB := n7_; have cq := n8_; clear n0_ n1_ n2_ n3_ n4_ n5_ n6_ n7_ n8_; clear ho hb hg hat))
                  go_roundg k2
                  case measure => have := HK1.out; have := HK2.out; omega
                  case rel => exact ⟨(aa), (cd), (wrap64 (aj + 1)), (by first | rfl | (simp; done) | (simp [*]; done)), H', ⟨by have := HK1.out; have := HK2.out; omega⟩, ⟨by refine rr_ ?_; exact an.out⟩, ⟨by refine rr_ ?_; exact al.out⟩, ⟨by refine rr_ ?_; exact cq.out⟩, ⟨by refine rr_ ?_; exact ag.out⟩, ⟨by refine rs_ ?_; exact Kd.S_mono ab.out (fun _ hk => ⟨hk.1.1, ⟨hk.1.2, hk.2⟩⟩)⟩, ⟨by refine rb_ ?_; exact af.out⟩, ⟨by refine rb_ ?_; exact ah.out⟩, ⟨by refine rb_ ?_; exact ae.out⟩, ⟨by exact zp5_0_ HB.out aq.out av.out aA.out⟩⟩
                 ·rw [if_neg c40] at H
                  exact absurd H (by simp)
               ·rw [if_neg c28] at H
                exact absurd H (by simp)
              ·rw [if_neg c27] at H
               exact absurd H (by simp)
             ·rw [if_neg c26] at H
              exact absurd H (by simp)
            ·rw [if_neg c25] at H
             exact absurd H (by simp)
           ·rw [if_neg c24] at H
            exact absurd H (by simp)
          ·rw [if_neg c23] at H
           exact absurd H (by simp)
         ·rw [if_neg c22] at H
          exact absurd H (by simp)
        ·rw [if_neg c21] at H
         exact absurd H (by simp)
       ·rw [if_neg c20] at H
        have c20b0 : decide (aj < 3) = false := decide_eq_false c20
        clear c20
        by_cases c44 : 0 ≤ ad
        ·rw [if_pos c44] at H
         have c44b0 : decide (0 ≤ ad) = true := decide_eq_true c44
         clear c44
         by_cases c45 : ad < (aa.length : Int)
         ·rw [if_pos c45] at H
          have c45b0 : decide (ad < (aa.length : Int)) = true := decide_eq_true c45
          clear c45
          by_cases c46 : 0 ≤ (rd aa ad)
          ·rw [if_pos c46] at H
           have c46b0 : decide (0 ≤ (rd aa ad)) = true := decide_eq_true c46
           clear c46
           by_cases c47 : (rd aa ad) < (l0_0.length : Int)
           ·rw [if_pos c47] at H
            have c47b0 : decide ((rd aa ad) < (l0_0.length : Int)) = true := decide_eq_true c47
            clear c47
            by_cases c48 : ap.length < 140737488355328
            ·rw [if_pos c48] at H
             have LMc48 := am_ c48
             clear c48
             obtain ⟨aw, hy157⟩ : ∃ y_ : List Bool, y_ = (ap ++ [rdOf false l0_0 (rd aa ad)]) := ⟨_, rfl⟩
             replace H : (if am.length < 5864062014805 then (spec_l5Minimal.l0 k2 ai aa (wrap64 (ad + 1)) l0_0 l0_1 aw (am ++ [aK])) else (none)) = some (r1, r2) := by first | (rw [hy157]; with_reducible exact H) | (have H2_ := (Option.bind_some _ _).symm.trans H; rw [hy157]; with_reducible exact H2_) | (have H2_ := (Option.bind_some _ _).symm.trans H; with_reducible exact H2_) | with_reducible exact H | (rw [hy157]; exact H) | exact H
             have cr := am_ hy157
             clear hy157
             by_cases c49 : am.length < 5864062014805
             ·rw [if_pos c49] at H
              have LMc49 := am_ c49
              clear c49
              obtain ⟨bn, hy160⟩ : ∃ y_ : List (List Int), y_ = (am ++ [aK]) := ⟨_, rfl⟩
              replace H : (spec_l5Minimal.l0 k2 ai aa (wrap64 (ad + 1)) l0_0 l0_1 aw bn) = some (r1, r2) := by first | (rw [hy160]; with_reducible exact H) | (have H2_ := (Option.bind_some _ _).symm.trans H; rw [hy160]; with_reducible exact H2_) | (have H2_ := (Option.bind_some _ _).symm.trans H; with_reducible exact H2_) | with_reducible exact H | (rw [hy160]; exact H) | exact H
              have ct := am_ hy160
              clear hy160
              have H' := am_ H
              clear H
              try go_wp2
              replace an := am_ (Kd.R_drew an.out)
              replace al := am_ (Kd.R_drew al.out)
              replace au := am_ (Kd.R_drew au.out)
              replace ag := am_ (Kd.R_drew ag.out)
              replace ab := am_ (Kd.S_drew ab.out)
              replace af := am_ (blk_drew af.out)
              replace ah := am_ (blk_drew ah.out)
              replace ae := am_ (blk_drew ae.out)
              replace HB := am_ (below_drew1 HB.out)
              obtain ⟨dw, bo, cf⟩ := Kd.R_slice al.out
              (first | subst cf | (injection cf with f1_ f2_ f3_; have f4_ := f1_.symm; have f5_ := f3_.symm; clear f1_ f2_ f3_; subst f4_; subst f5_))
              have p155 : 0 ≤ (ad : Int) := of_decide_eq_true ah_
              have q155 : ad < (aa.length : Int) := of_decide_eq_true ah_
              obtain ⟨ba, e155, bD⟩ := Kd.at_int (Kd.R_reads' al.out).2.2 ad p155 q155
              cases e155
              replace p155 := eq_true p155
              replace q155 := eq_true q155
              have p156 : 0 ≤ ((rd aa ad) : Int) := of_decide_eq_true ah_
              have q156 : (rd aa ad) < (l0_0.length : Int) := of_decide_eq_true ah_
              obtain ⟨bq, e156, bh⟩ := Kd.at_bool bQ.out (rd aa ad) p156 q156
              have aV := bh
              cases e156
              replace bh := (HB.out.cell (World.block_lt_of_cell? w _ bh)).trans bh
              replace p156 := eq_true p156
              replace q156 := eq_true q156
              refine start_ (n := 14) (S := fun w' => w'.cell? ⟨ak, 0, none⟩ = some (ay) ∧ w'.cell? ⟨ak, 1, none⟩ = some (ao) ∧ w'.cell? ⟨ax, 0, none⟩ = some (.slice (some bq) l0_0.length c0_0) ∧ w'.cell? ⟨ax, 1, none⟩ = some (.slice A0_1 l0_1.length c0_1) ∧ w'.cell? (ba.add (ad).toNat) = some (.int .i64 (rd aa ad)) ∧ w'.cell? (bq.add ((rd aa ad)).toNat) = some (.bool (rdOf false l0_0 (rd aa ad)))) (ds := [11, 13]) (bl 14 0) (by kernel_rfl) rfl rfl ⟨(blk_cell ae.out 0).trans rfl, (blk_cell ae.out 1).trans rfl, (blk_cell af.out 0).trans rfl, (blk_cell af.out 1).trans rfl, bD, ((HB.out.cell (World.block_lt_of_cell? w _ aV)).trans aV)⟩ (fun hHeld => ?_); refine with_tabW spec_l5Minimal.tab15 spec_l5Minimal.bits15 (fun HT_ HW_ => ?_)
              generalize wr.drew = w50 at an al au ag ab af ah ae HB bD bh hHeld ⊢
              refine pu_ 0 56 (bl 14 1) HT_ ?_
              refine pu_ 2 58 (bl 14 5) HT_ ?_
              refine pu_ 4 60 (bl 14 21) HT_ ?_
              refine pu_ 5 61 (bl 14 53) HT_ ?_
              refine pu_ 6 62 (bl 14 117) HT_ ?_
              refine tk_ 1 57 (bl 14 119) HT_ HW_ hHeld ?_
              refine tk_ 3 59 (bl 14 127) HT_ HW_ hHeld ?_
              refine tk_ 7 63 (bl 14 255) HT_ HW_ hHeld ?_
              refine pu_ 8 64 (bl 14 511) HT_ ?_
              refine tk_ 9 65 (bl 14 1023) HT_ HW_ hHeld ?_
              refine on_ 10 (some 66) (bl 14 2047) HT_ (fun K hK => ?_)
              refine value_ (w1 := ?_) (v := ?_) (by rfl) rfl ?_ ?_
              rotate_left 2
              ·go_simp
               constructor
               ·rfl
               ·rfl
              refine hK.out _ _ ⟨(blk_cell (blk_alloc ae.out _) 0).trans rfl, (blk_cell (blk_alloc ae.out _) 1).trans rfl, (blk_cell (blk_alloc af.out _) 0).trans rfl, (blk_cell (blk_alloc af.out _) 1).trans rfl, (World.cell?_alloc_lt _ _ _ (World.block_lt_of_cell? _ _ (hHeld.2.2.2.2.1))).trans (hHeld.2.2.2.2.1), (World.cell?_alloc_lt _ _ _ (World.block_lt_of_cell? _ _ (((HB.out.cell (World.block_lt_of_cell? w _ aV)).trans aV)))).trans (((HB.out.cell (World.block_lt_of_cell? w _ aV)).trans aV))⟩ (fun hHeld => ?_)
              clear hK K
              refine norm_ (a' := ?_) ?_ ?_
              rotate_left
              ·show Act.put _ (some 66) _ = _
               simp only [pn_, sz_, ss_, i64_w, i32_w]
               rfl
              refine last_ (i := 11) (N := some 67) (bl 14 4095) rfl rfl (one_of HT_.out (by kernel_rfl)) (by decide) (fun K hK => ?_)
              refine Kd.R_append_step Kd.bool (w0 := w) w.heap.size (by rfl) (.tmp 57) (.tmp 66) 22 4 (.bool false) 1 rfl Try.underlying22 info4 rfl (by decide) (by omega) ay ap (rdOf false l0_0 (rd aa ad)) [.bool (rdOf false l0_0 (rd aa ad))] (fun _ => True) (fun _ => False) rfl rfl ?aP (fun _ hk => hk.elim) ?aF ?aO ?aB ?aS ?aL ?_
              (case aP => exact rfl)
              (case aB => exact (b3_ HB.out aq.out av.out aA.out))
              (case aF => exact (fun _ _ => trivial))
              (case aO => exact (rr_ ag.out))
              (case aS => exact (below_size (b3_ HB.out aq.out av.out aA.out)))
              (case aL => have := LMc48.out; omega)
              intro dx w52 ho hb hg hat
              rw [← cr.out] at ho
              replace an := am_ (Kd.R_over' (rr_ an.out) (Kd.R_typed (rr_ ag.out)) (by decide) hg)
              replace al := am_ (Kd.R_over' (rr_ al.out) (Kd.R_typed (rr_ ag.out)) (by decide) hg)
              replace au := am_ (Kd.R_over' (rr_ au.out) (Kd.R_typed (rr_ ag.out)) (by decide) hg)
              replace ab := am_ (Kd.S_over' (rs_ ab.out) (Kd.R_typed (rr_ ag.out)) (by decide) hg)
              replace af := am_ (blk_grown (g := ax) (o := .cells #[.slice (some bq) l0_0.length c0_0, .slice A0_1 l0_1.length c0_1] 27 (0, 0)) (rb_ af.out) hg (Kd.R_ne ag.out af.out (by decide)))
              replace ah := am_ (blk_grown (g := az) (o := .cells #[.slice none 0 0, .slice none 0 0] 27 (0, 0)) (rb_ ah.out) hg (Kd.R_ne ag.out ah.out (by decide)))
              replace ae := am_ (blk_grown (g := ak) (o := .cells #[ay, ao] 27 (0, 0)) (rb_ ae.out) hg (Kd.R_ne ag.out ae.out (by decide)))
              replace HB := am_ (hb)
              replace bb := am_ (ho)
              clear ag ho hb hg hat
              obtain ⟨aD, aE, cg⟩ := Kd.R_slice bb.out
              (first | subst cg | (injection cg with f1_ f2_ f3_; have f4_ := f1_.symm; have f5_ := f3_.symm; clear f1_ f2_ f3_; subst f4_; subst f5_))
              refine hK.out _ _ ?_
              clear hK K
              refine norm_ (a' := ?_) ?_ ?_
              rotate_left
              ·show Act.put _ (some 67) _ = _
               simp only [pn_, sz_, ss_, i64_w, i32_w]
               rfl
              refine pu_ 12 68 (bl 14 8191) HT_ ?_
              refine last_ (i := 13) (N := none) (bl 14 16383) rfl rfl (one_of HT_.out (by kernel_rfl)) (by decide) (fun K hK => ?_)
              have hs54 : w52.cell? ⟨ak, 0, none⟩ = some (ay) := (blk_cell ae.out 0).trans rfl
              have hfs54 := blk_frozen ae.out 0
              have hns54_0 := aI.out
              have hns54_1 := aJ.out
              have hms54_0 := aW.out
              have hms54_1 := aX.out
              refine skip_ (w1 := ?_) (by rfl) rfl ?_ ?_
              rotate_left
              ·go_simp
               rfl
              refine hK.out _ _ ?_
              clear hK K
              refine done_ (done_of HT_.out (by kernel_rfl)) ?_
              have n0_ : Aside0 (Kd.R (Kd.int .i64) 3 (w52.setCell ⟨ak, 0, none⟩ (.slice aD aw.length aE)) w.heap.size (fun k_ => some k_ ≠ (.slice (some ba) aa.length bo : Value).ownBlock ∧ some k_ ≠ (u7 : Value).ownBlock) (.slice (some ar) ai.length co9) ai) := ⟨by refine rr_ ?_; exact Kd.R_mono (Kd.R_far (p := ⟨ak, 0, none⟩) (Kd.R_types an.out ae.out (by decide)) (fun _ hk => hk.2) (.slice aD aw.length aE)) (fun _ hk => ⟨hk.1.1, hk.1.2⟩)⟩
              have n1_ : Aside0 (Kd.R (Kd.int .i64) 3 (w52.setCell ⟨ak, 0, none⟩ (.slice aD aw.length aE)) w.heap.size (fun k_ => some k_ ≠ (.slice (some ar) ai.length co9 : Value).ownBlock ∧ some k_ ≠ (u7 : Value).ownBlock) (.slice (some ba) aa.length bo) aa) := ⟨by refine rr_ ?_; exact Kd.R_mono (Kd.R_far (p := ⟨ak, 0, none⟩) (Kd.R_types al.out ae.out (by decide)) (fun _ hk => hk.2) (.slice aD aw.length aE)) (fun _ hk => ⟨hk.1.1, hk.1.2⟩)⟩
              have n2_ : Aside0 (Kd.R (Kd.int .i64) 3 (w52.setCell ⟨ak, 0, none⟩ (.slice aD aw.length aE)) w.heap.size (fun k_ => some k_ ≠ (.slice (some ar) ai.length co9 : Value).ownBlock ∧ some k_ ≠ (.slice (some ba) aa.length bo : Value).ownBlock) u7 aK) := ⟨by refine rr_ ?_; exact Kd.R_mono (Kd.R_far (p := ⟨ak, 0, none⟩) (Kd.R_types au.out ae.out (by decide)) (fun _ hk => hk.2) (.slice aD aw.length aE)) (fun _ hk => ⟨hk.1.1, hk.1.2⟩)⟩
              have n3_ : Aside0 (Kd.S (Kd.slice 3 (Kd.int .i64)) 67 (w52.setCell ⟨ak, 0, none⟩ (.slice aD aw.length aE)) w.heap.size (fun k_ => some k_ ≠ (.slice (some ar) ai.length co9 : Value).ownBlock ∧ some k_ ≠ (.slice (some ba) aa.length bo : Value).ownBlock ∧ some k_ ≠ (u7 : Value).ownBlock) ao am) := ⟨by refine rs_ ?_; exact Kd.S_mono (Kd.S_far (p := ⟨ak, 0, none⟩) (Kd.S_types ab.out ae.out (by decide)) (fun _ hk => hk.2) (.slice aD aw.length aE)) (fun _ hk => ⟨hk.1.1, ⟨hk.1.2.1, hk.1.2.2⟩⟩)⟩
              have n4_ : Aside0 (Kd.R Kd.bool 4 (w52.setCell ⟨ak, 0, none⟩ (.slice aD aw.length aE)) w.heap.size (fun _ => True) (.slice aD aw.length aE) aw) := ⟨by refine rr_ ?_; exact Kd.R_mono (Kd.R_far (p := ⟨ak, 0, none⟩) (Kd.R_types bb.out ae.out (by decide)) (fun _ hk => hk.2) (.slice aD aw.length aE)) (fun _ hk => trivial)⟩
              have n5_ : Aside0 ((w52.setCell ⟨ak, 0, none⟩ (.slice aD aw.length aE)).heap[ax]? = some (.cells #[.slice (some bq) l0_0.length c0_0, .slice A0_1 l0_1.length c0_1] 27 (0, 0))) := ⟨by refine rb_ ?_; refine blk_far ?_ aI.out _; refine rb_ ?_; exact af.out⟩
              have n6_ : Aside0 ((w52.setCell ⟨ak, 0, none⟩ (.slice aD aw.length aE)).heap[az]? = some (.cells #[.slice none 0 0, .slice none 0 0] 27 (0, 0))) := ⟨by refine rb_ ?_; refine blk_far ?_ aJ.out _; refine rb_ ?_; exact ah.out⟩
              have n7_ : Aside0 ((w52.setCell ⟨ak, 0, none⟩ (.slice aD aw.length aE)).heap[ak]? = some (.cells #[.slice aD aw.length aE, ao] 27 (0, 0))) := ⟨by refine rb_ ?_; refine blk_put (cs := #[ay, ao]) ?_ 0 _ rfl; refine rb_ ?_; exact ae.out⟩
              have n8_ : Aside0 (Below w.heap.size w (w52.setCell ⟨ak, 0, none⟩ (.slice aD aw.length aE))) := ⟨by exact zp5_0_ HB.out aq.out av.out aA.out⟩
              (try clear an)
              (try clear al)
              (try clear au)
              (try clear ab)
              (try clear bb)
              (try clear af)
              (try clear ah)
              (try clear ae)
              (try clear HB)
              generalize (w52.setCell ⟨ak, 0, none⟩ (.slice aD aw.length aE)) = w55 at n0_ n1_ n2_ n3_ n4_ n5_ n6_ n7_ n8_ ⊢
              have an := n0_; have al := n1_; have au := n2_; have ab := n3_; have bb := n4_; have af := n5_; have ah := n6_; have ae := n7_; have HB := n8_
              clear n0_ n1_ n2_ n3_ n4_ n5_ n6_ n7_ n8_
              have cY := aW.out
              have cZ := aI.out
              have da := aX.out
              have db := aJ.out
              have cB := ck_ (v := (.slice aD aw.length aE)) ae 0 rfl
              have cC := ck_ (v := (ao)) ae 1 rfl
              have cD := blk_frozen ae.out 0
              have cE := blk_frozen ae.out 1
              obtain ⟨ch, ci, cw⟩ := Kd.R_slice au.out
              subst cw
              try go_wp2_with (first | ((with_reducible refine gate_builtin (b := .append) (xs := #[.tmp 70, .tmp 72]) rfl ?_); at_builtin; refine Kd.S_append (Kd.slice 3 (Kd.int .i64)) (w0 := w) w.heap.size rfl (.tmp 70) (.tmp 72) 23 67 (.slice none 0 0) 24 rfl Try.underlying23 info67 rfl (by decide) (by omega) ao am aK [.slice ch aK.length ci] (fun k_ => some k_ ≠ (.slice (some ar) ai.length co9 : Value).ownBlock ∧ some k_ ≠ (.slice (some ba) aa.length bo : Value).ownBlock) (fun k_ => some k_ = (.slice ch aK.length ci : Value).ownBlock) rfl rfl ?aP (fun k_ hk_ => ((Kd.R_mono (ok' := fun k_ => ((fun k_ => some k_ ≠ (.slice (some ar) ai.length co9 : Value).ownBlock ∧ some k_ ≠ (.slice (some ba) aa.length bo : Value).ownBlock)) k_ ∧ some k_ ≠ (ao : Value).ownBlock) (Kd.R_apart' (au.out) (Kd.S_typed ab.out) (by decide)) (fun k_ hk => ⟨⟨hk.1.1, hk.1.2⟩, hk.2⟩))).1 k_ hk_.symm) ?aF ?aO ?aB ?aS ?aL ?_; (case aP => exact Kd.M_row (Kd.R_mono (Kd.R_tight rfl (Kd.R_mono (ok' := fun k_ => ((fun k_ => some k_ ≠ (.slice (some ar) ai.length co9 : Value).ownBlock ∧ some k_ ≠ (.slice (some ba) aa.length bo : Value).ownBlock)) k_ ∧ some k_ ≠ (ao : Value).ownBlock) (Kd.R_apart' (au.out) (Kd.S_typed ab.out) (by decide)) (fun k_ hk => ⟨⟨hk.1.1, hk.1.2⟩, hk.2⟩))) (fun _ h_ => h_))); (case aB => exact (b3_ HB.out aq.out av.out aA.out)); (case aF => exact (fun k_ hk => ⟨Kd.fresh' (Kd.R_lt (rr_ an.out)) k_ hk, Kd.fresh' (Kd.R_lt (rr_ al.out)) k_ hk⟩)); (case aO => exact (by refine rs_ ?_; exact Kd.S_mono ab.out (fun k_ hk => ⟨⟨hk.1, hk.2.1⟩, fun e_ => hk.2.2 e_⟩))); (case aS => exact (below_size (b3_ HB.out aq.out av.out aA.out))); (case aL => have := LMc49.out; omega); intro dy w59 ho hb hg hat; rw [← ct.out] at ho; have n0_ := am_ (Kd.R_over' (rr_ an.out) (Kd.S_typed (rs_ ab.out)) (by decide) hg); have n1_ := am_ (Kd.R_over' (rr_ al.out) (Kd.S_typed (rs_ ab.out)) (by decide) hg); have n2_ := am_ (blk_grown (g := ax) (o := .cells #[.slice (some bq) l0_0.length c0_0, .slice A0_1 l0_1.length c0_1] 27 (0, 0)) (rb_ af.out) hg (Kd.S_ne ab.out af.out (by decide))); have n3_ := am_ (blk_grown (g := az) (o := .cells #[.slice none 0 0, .slice none 0 0] 27 (0, 0)) (rb_ ah.out) hg (Kd.S_ne ab.out ah.out (by decide))); have n4_ := am_ (blk_grown (g := ak) (o := .cells #[.slice aD aw.length aE, ao] 27 (0, 0)) (rb_ ae.out) hg (Kd.S_ne ab.out ae.out (by decide))); have n5_ := am_ (Kd.R_over' (rr_ bb.out) (Kd.S_typed (rs_ ab.out)) (by decide) hg); have n6_ := am_ (hb); have n7_ := am_ (ho); clear an; clear al; clear af; clear ah; clear ae; clear bb; clear HB; clear ab; clear au; have an := n0_; have al := n1_; have af := n2_; have ah := n3_; have ae := n4_; have bb := n5_; have HB := n6_; have bT := n7_; clear n0_ n1_ n2_ n3_ n4_ n5_ n6_ n7_; clear ho hb hg hat; obtain ⟨bw, bx, cx⟩ := Kd.S_slice bT.out; subst cx; have cF := ck_ (v := (.slice aD aw.length aE)) ae 0 rfl; have cG := ck_ (v := (ao)) ae 1 rfl; have cH := blk_frozen ae.out 0; have cI := blk_frozen ae.out 1))
              go_roundg k2
              case measure => have := HK1.out; have := HK2.out; omega
              case rel => exact ⟨(aa), (wrap64 (ad + 1)), (aw), (bn), (.slice aD aw.length aE), (.slice bw bn.length bx), (by first | rfl | (simp; done) | (simp [*]; done)), H', ⟨by have := HK1.out; have := HK2.out; omega⟩, ⟨by refine rr_ ?_; exact Kd.R_mono (Kd.R_far (p := ⟨ak, 1, none⟩) (Kd.R_types an.out ae.out (by decide)) (fun _ hk => hk.2) (.slice bw bn.length bx)) (fun _ hk => hk.1.1)⟩, ⟨by refine rr_ ?_; exact Kd.R_mono (Kd.R_far (p := ⟨ak, 1, none⟩) (Kd.R_types al.out ae.out (by decide)) (fun _ hk => hk.2) (.slice bw bn.length bx)) (fun _ hk => hk.1.1)⟩, ⟨by refine rr_ ?_; exact Kd.R_mono (Kd.R_far (p := ⟨ak, 1, none⟩) (Kd.R_types bb.out ae.out (by decide)) (fun _ hk => hk.2) (.slice bw bn.length bx)) (fun _ hk => trivial)⟩, ⟨by refine rs_ ?_; exact Kd.S_mono (Kd.S_far (p := ⟨ak, 1, none⟩) (Kd.S_types bT.out ae.out (by decide)) (fun _ hk => hk.2) (.slice bw bn.length bx)) (fun _ hk => ⟨hk.1.1, hk.1.2⟩)⟩, ⟨by refine rb_ ?_; refine blk_far ?_ aI.out _; refine rb_ ?_; exact af.out⟩, ⟨by refine rb_ ?_; refine blk_far ?_ aJ.out _; refine rb_ ?_; exact ah.out⟩, ⟨by refine rb_ ?_; refine blk_put (cs := #[.slice aD aw.length aE, ao]) ?_ 1 _ rfl; refine rb_ ?_; exact ae.out⟩, ⟨by exact zp5_0_ HB.out aq.out av.out aA.out⟩⟩
             ·rw [if_neg c49] at H
              exact absurd H (by simp)
            ·rw [if_neg c48] at H
             exact absurd H (by simp)
           ·rw [if_neg c47] at H
            exact absurd H (by simp)
          ·rw [if_neg c46] at H
           exact absurd H (by simp)
         ·rw [if_neg c45] at H
          exact absurd H (by simp)
        ·rw [if_neg c44] at H
         exact absurd H (by simp)
    ·rw [if_neg c16] at H
     have c16b0 : decide (ad < (bj.length : Int)) = false := decide_eq_false c16
     clear c16
     simp only [Option.some.injEq, Prod.mk.injEq] at H
     obtain ⟨rfl, rfl⟩ := H
     obtain ⟨dz, dA, cy⟩ := Kd.R_slice al.out
     subst cy
     have dc := aW.out
     have dd := aI.out
     have de := aX.out
     have df := aJ.out
     have cJ := ck_ (v := (ay)) ae 0 rfl
     have cK := ck_ (v := (ao)) ae 1 rfl
     have cL := blk_frozen ae.out 0
     have cM := blk_frozen ae.out 1
     obtain ⟨bI, bJ, cz⟩ := Kd.R_slice ag.out
     subst cz
     have dg := bt.out
     have dh := bs.out
     have cN := ck_ (v := (.slice none 0 0)) ah 0 rfl
     have cO := ck_ (v := (.slice none 0 0)) ah 1 rfl
     have cP := blk_frozen ah.out 0
     have cQ := blk_frozen ah.out 1
     obtain ⟨bO, bP, cA⟩ := Kd.S_slice ab.out
     subst cA
     go_wp2
     refine bodyPost_ret (results_cell_row rfl _ _ az 27 #[.slice bI ap.length bJ, .slice bO am.length bP] (0, 0) _ rfl (by refine rb_ ?_; refine blk_put (cs := #[.slice bI ap.length bJ, .slice none 0 0]) ?_ 1 _ rfl; refine rb_ ?_; refine blk_put (cs := #[.slice none 0 0, .slice none 0 0]) ?_ 0 _ rfl; refine rb_ ?_; exact ah.out) Try.underlying27 rfl (by kernel_rfl)) rfl ?_
     exact ⟨_, _, by first | rfl | (simp [errW_none, errW_some] <;> rfl) | (simp [*, errW_none, errW_some] <;> rfl), by refine rr_ ?_; exact Kd.R_mono (Kd.R_far (p := ⟨az, 1, none⟩) (Kd.R_far (p := ⟨az, 0, none⟩) (Kd.R_types ag.out ah.out (by decide)) (fun _ hk => hk.2) (.slice bI ap.length bJ)) (fun _ hk => hk.2) (.slice bO am.length bP)) (fun _ hk => trivial), by refine rs_ ?_; exact Kd.S_mono (Kd.S_far (p := ⟨az, 1, none⟩) (Kd.S_far (p := ⟨az, 0, none⟩) (Kd.S_types ab.out ah.out (by decide)) (fun _ hk => hk.2) (.slice bI ap.length bJ)) (fun _ hk => hk.2) (.slice bO am.length bP)) (fun _ hk => trivial), by exact zp5_0_ HB.out aq.out av.out aA.out⟩
 ·rw [if_neg c3] at H
  exact absurd H (by simp)
end Go.Proofs.Ytogamkblkoobkaa.P
end
