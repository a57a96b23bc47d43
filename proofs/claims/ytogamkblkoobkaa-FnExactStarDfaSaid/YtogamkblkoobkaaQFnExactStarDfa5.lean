/- Texts of the proof of FnExactStarDfa, put together. No condition. -/
import Derived.Test.YtogamkblkoobkaaQFnExactStarDfa2
import Derived.Test.YtogamkblkoobkaaQFnExactStarDfa3
import Derived.Test.YtogamkblkoobkaaQFnExactStarDfa4
section
namespace Go.Proofs.Ytogamkblkoobkaa.P
open Go.RowKit Go.Proofs.YtogamkblkoobkaaW.PrintWords Go.Proofs.YtogamkblkoobkaaW.PrintLast Go.Proofs.YtogamkblkoobkaaW.PrintMore
attribute [local go_sem] max2_int min2_int max_two min_two max_three min_three max_four min_four
set_option linter.unusedVariables false
set_option linter.unusedSimpArgs false
mutual
def spec_l5Minimal.l0 : Nat → List Int → List Int → Int → List Bool → List (List Int) → List Bool → List (List Int) → Option (List Bool × (List (List Int)))
  | 0, _, _, _, _, _, _, _ => none
  | k + 1, x3, x4, x6, x143000, x143001, x152000, x152001 => if x6 < (x4.length : Int) then (spec_l5Minimal.l1 k x3 x4 x6 (([] : List Int)) 0 x143000 x143001 x152000 x152001) else (some (x152000, x152001))
def spec_l5Minimal.l1 : Nat → List Int → List Int → Int → List Int → Int → List Bool → List (List Int) → List Bool → List (List Int) → Option (List Bool × (List (List Int)))
  | 0, _, _, _, _, _, _, _, _, _ => none
  | k + 1, x3, x4, x6, x7, x8, x143000, x143001, x152000, x152001 => if x8 < 3 then (if 0 ≤ x6 then (if x6 < (x4.length : Int) then (if 0 ≤ (rd x4 x6) then (if (rd x4 x6) < (x143001.length : Int) then (if 0 ≤ x8 then (if x8 < ((rd_L1 x143001 (rd x4 x6)).length : Int) then (if 0 ≤ (rd (rd_L1 x143001 (rd x4 x6)) x8) then (if (rd (rd_L1 x143001 (rd x4 x6)) x8) < (x3.length : Int) then ((spec_l5Find.f k x4 (rd x3 (rd (rd_L1 x143001 (rd x4 x6)) x8))).bind fun t167 => (if t167 < 0 then (if x4.length < 17592186044416 then ((some (x4 ++ [rd x3 (rd (rd_L1 x143001 (rd x4 x6)) x8)] : List Int)).bind fun y168 => ((spec_l5Find.f k y168 (rd x3 (rd (rd_L1 x143001 (rd x4 x6)) x8))).bind fun t171 => (if x7.length < 17592186044416 then (spec_l5Minimal.l1 k x3 y168 x6 (x7 ++ [t171]) (wrap64 (x8 + 1)) x143000 x143001 x152000 x152001) else (none)))) else (none)) else ((spec_l5Find.f k x4 (rd x3 (rd (rd_L1 x143001 (rd x4 x6)) x8))).bind fun t175 => (if x7.length < 17592186044416 then (spec_l5Minimal.l1 k x3 x4 x6 (x7 ++ [t175]) (wrap64 (x8 + 1)) x143000 x143001 x152000 x152001) else (none))))) else (none)) else (none)) else (none)) else (none)) else (none)) else (none)) else (none)) else (none)) else (if 0 ≤ x6 then (if x6 < (x4.length : Int) then (if 0 ≤ (rd x4 x6) then (if (rd x4 x6) < (x143000.length : Int) then (if x152000.length < 140737488355328 then (if x152001.length < 5864062014805 then (spec_l5Minimal.l0 k x3 x4 (wrap64 (x6 + 1)) x143000 x143001 (x152000 ++ [rdOf false x143000 (rd x4 x6)]) (x152001 ++ [x7])) else (none)) else (none)) else (none)) else (none)) else (none)) else (none))
end
def spec_l5Minimal.f (k : Nat) (l0_0 : List Bool) (l0_1 : List (List Int)) : Option (List Bool × (List (List Int))) := (spec_l5Classes.f k l0_0 l0_1).bind fun t144 => (if 0 < (t144.length : Int) then (spec_l5Minimal.l0 k t144 (([rd t144 0] : List Int)) 0 l0_0 l0_1 ([] : List Bool) ([] : List (List Int))) else (none))
theorem spec_l5Minimal.mono_l : ∀ k, (∀ y0 y1 y2 y3 y4 y5 y6, LeO (spec_l5Minimal.l0 k y0 y1 y2 y3 y4 y5 y6) (spec_l5Minimal.l0 (k + 1) y0 y1 y2 y3 y4 y5 y6)) ∧ (∀ y0 y1 y2 y3 y4 y5 y6 y7 y8, LeO (spec_l5Minimal.l1 k y0 y1 y2 y3 y4 y5 y6 y7 y8) (spec_l5Minimal.l1 (k + 1) y0 y1 y2 y3 y4 y5 y6 y7 y8))
 | 0 => ⟨fun _ _ _ _ _ _ _ r h => by simp [spec_l5Minimal.l0] at h, fun _ _ _ _ _ _ _ _ _ r h => by simp [spec_l5Minimal.l1] at h⟩
 | k + 1 => by
  obtain ⟨ih0, ih1⟩ := spec_l5Minimal.mono_l k
  refine ⟨?_, ?_⟩
  ·intro y0 y1 y2 y3 y4 y5 y6
   unfold spec_l5Minimal.l0
   repeat' first
   | (with_reducible exact ih0 _ _ _ _ _ _ _)
   | (with_reducible exact ih1 _ _ _ _ _ _ _ _ _)
   | (with_reducible exact spec_l5Classes.mono _ _ _)
   | (with_reducible exact spec_l5Find.mono _ _ _)
   | (with_reducible exact LeO.refl _)
   | (with_reducible exact LeO.none _)
   | (with_reducible refine LeO.ite ?_ ?_)
   | (with_reducible refine LeO.bind ?_ (fun _ => ?_))
   | exact ih0 _ _ _ _ _ _ _
   | exact ih1 _ _ _ _ _ _ _ _ _
   | exact spec_l5Classes.mono _ _ _
   | exact spec_l5Find.mono _ _ _
   | exact LeO.none _
   | refine LeO.ite ?_ ?_
   | refine LeO.bind ?_ (fun _ => ?_)
  ·intro y0 y1 y2 y3 y4 y5 y6 y7 y8
   unfold spec_l5Minimal.l1
   repeat' first
   | (with_reducible exact ih0 _ _ _ _ _ _ _)
   | (with_reducible exact ih1 _ _ _ _ _ _ _ _ _)
   | (with_reducible exact spec_l5Classes.mono _ _ _)
   | (with_reducible exact spec_l5Find.mono _ _ _)
   | (with_reducible exact LeO.refl _)
   | (with_reducible exact LeO.none _)
   | (with_reducible refine LeO.ite ?_ ?_)
   | (with_reducible refine LeO.bind ?_ (fun _ => ?_))
   | exact ih0 _ _ _ _ _ _ _
   | exact ih1 _ _ _ _ _ _ _ _ _
   | exact spec_l5Classes.mono _ _ _
   | exact spec_l5Find.mono _ _ _
   | exact LeO.none _
   | refine LeO.ite ?_ ?_
   | refine LeO.bind ?_ (fun _ => ?_)
theorem spec_l5Minimal.mono : ∀ a0 a1 k, LeO (spec_l5Minimal.f k a0 a1) (spec_l5Minimal.f (k + 1) a0 a1) := by
 intro a0 a1 k
 obtain ⟨ih0, ih1⟩ := spec_l5Minimal.mono_l k
 unfold spec_l5Minimal.f
 repeat' first
   | (with_reducible exact ih0 _ _ _ _ _ _ _)
   | (with_reducible exact ih1 _ _ _ _ _ _ _ _ _)
   | (with_reducible exact spec_l5Classes.mono _ _ _)
   | (with_reducible exact spec_l5Find.mono _ _ _)
   | (with_reducible exact LeO.refl _)
   | (with_reducible exact LeO.none _)
   | (with_reducible refine LeO.ite ?_ ?_)
   | (with_reducible refine LeO.bind ?_ (fun _ => ?_))
   | exact ih0 _ _ _ _ _ _ _
   | exact ih1 _ _ _ _ _ _ _ _ _
   | exact spec_l5Classes.mono _ _ _
   | exact spec_l5Find.mono _ _ _
   | exact LeO.none _
   | refine LeO.ite ?_ ?_
   | refine LeO.bind ?_ (fun _ => ?_)
def spec_l5Minimal.T11 : Bool × List (List Nat × List Nat) := (true, [([], []), ([], []), ([1], [1]), ([], []), ([], []), ([3, 4], [3, 4]), ([5], [5]), ([2, 6], [2, 6]), ([7], [7]), ([], []), ([8, 9], [8, 9]), ([10], [10]), ([0, 11], [0, 11]), ([12], [12]), ([13, 0, 1, 2, 3, 4, 5, 6, 7, 8, 9, 10, 11, 12, 13], [13])])
def spec_l5Minimal.B11 : List Nat := [0, 0, 2, 0, 0, 24, 56, 126, 254, 0, 1022, 2046, 4095, 8191, 16383]
theorem spec_l5Minimal.tab11 : rtab .any (opsOf Try.f94 11) = spec_l5Minimal.T11 := by kernel_rfl
theorem spec_l5Minimal.bits11 : waitsOk spec_l5Minimal.T11.2 spec_l5Minimal.B11 = true := by kernel_rfl
def spec_l5Minimal.T15 : Bool × List (List Nat × List Nat) := (true, [([], []), ([0], [0]), ([], []), ([2], [2]), ([], []), ([], []), ([4, 5], [4, 5]), ([6], [6]), ([3, 7], [3, 7]), ([8], [8]), ([9], [9]), ([1, 10], [1, 10]), ([0, 1, 2, 3, 4, 5, 6, 7, 8, 9, 10, 11], []), ([12, 11, 11, 0, 1, 2, 3, 4, 5, 6, 7, 8, 9, 10, 11], [11, 12])])
def spec_l5Minimal.B15 : List Nat := [0, 1, 0, 4, 0, 0, 48, 112, 252, 508, 1020, 2047, 4095, 8191]
theorem spec_l5Minimal.tab15 : rtab .any (opsOf Try.f94 15) = spec_l5Minimal.T15 := by kernel_rfl
theorem spec_l5Minimal.bits15 : waitsOk spec_l5Minimal.T15.2 spec_l5Minimal.B15 = true := by kernel_rfl
theorem zp5_0_ {p q g1 g2 g3 : Prop} (h : p) (h1 : g1) (h2 : g2) (h3 : g3) (c : p → g1 → g2 → g3 → q := by intro h_ h1_ h2_ h3_; repeat (first | (with_reducible first | exact h_ | apply below_alloc | apply pw_below_drewN | apply below_drew1 | refine below_set ?_ h1_ | refine below_set ?_ h2_ | refine below_set ?_ h3_) | exact h_)) : q := c h h1 h2 h3
set_option maxHeartbeats 8000000 in
set_option maxRecDepth 100000 in
theorem spec_l5Minimal.calls (k : Nat) (A0_0 : Option Addr) (c0_0 : Nat) (l0_0 : List Bool) (A0_1 : Option Addr) (c0_1 : Nat) (l0_1 : List (List Int)) (r1 : List Bool) (r2 : List (List Int)) (w : World) (hr0_0 : Kd.C Kd.bool w A0_0 l0_0.length l0_0) (hc0_0 : l0_0.length ≤ c0_0) (hr0_1 : Kd.C (Kd.slice 3 (Kd.int .i64)) w A0_1 l0_1.length l0_1) (hc0_1 : l0_1.length ≤ c0_1) (h : spec_l5Minimal.f k l0_0 l0_1 = some (r1, r2)) :
  Calls Try.prog 94 #[.agg #[.slice A0_0 l0_0.length c0_0, .slice A0_1 l0_1.length c0_1]] w fun e w' => ∃ v0_ v1_ : Value, e = .returned (.agg #[v0_, v1_]) ∧ Kd.R Kd.bool 4 w' w.heap.size (fun _ => True) v0_ r1 ∧ Kd.S (Kd.slice 3 (Kd.int .i64)) 67 w' w.heap.size (fun _ => True) v1_ r2 ∧ Below w.heap.size w w' := by
 have hu27 := Try.underlying27
 have HR0_0 := am_ hr0_0
 have HC0_0 := am_ hc0_0
 clear hr0_0 hc0_0
 have HR0_1 := am_ hr0_1
 have HC0_1 := am_ hc0_1
 clear hr0_1 hc0_1
 have HB := am_ (Below.refl w.heap.size w)
 have H : ((spec_l5Classes.f k l0_0 l0_1).bind fun t144 => (if 0 < (t144.length : Int) then (spec_l5Minimal.l0 k t144 (([rd t144 0] : List Int)) 0 l0_0 l0_1 ([] : List Bool) ([] : List (List Int))) else (none))) = some (r1, r2) := h
 clear h
 replace H := Option.bind_eq_some_iff.mp H
 obtain ⟨t144, A20, H⟩ := H
 have A2 := am_ A20
 clear A20
 by_cases c3 : 0 < (t144.length : Int)
 ·rw [if_pos c3] at H
  have c3b0 : decide (0 < (t144.length : Int)) = true := decide_eq_true c3
  have c3b1 : decide (0 < t144.length) = true := decide_eq_true (by omega)
  clear c3
  obtain ⟨y148, hy148⟩ : ∃ y_ : List Int, y_ = (([rd t144 0] : List Int)) := ⟨_, rfl⟩
  replace H : (spec_l5Minimal.l0 k t144 y148 0 l0_0 l0_1 ([] : List Bool) ([] : List (List Int))) = some (r1, r2) := by first | (rw [hy148]; with_reducible exact H) | (have H2_ := (Option.bind_some _ _).symm.trans H; rw [hy148]; with_reducible exact H2_) | (have H2_ := (Option.bind_some _ _).symm.trans H; with_reducible exact H2_) | with_reducible exact H | (rw [hy148]; exact H) | exact H
  have Ny148 := am_ hy148
  clear hy148
  have H' := am_ H
  clear H
  go_enter Try.func94, Try.ntmps94
  go_wp2_with (first | ((with_reducible refine gate_dst (N := 1) rfl ?_); refine box_event ?hg (N := 1) ?hd (cs := #[.slice A0_0 l0_0.length c0_0, .slice A0_1 l0_1.length c0_1]) (t := 27) ?hr ?_; (case hd => rfl); (case hg => rfl); (case hr => first | (go_simp; done) | (go_simp; rfl)); intro gb142 hg w4 hbox hb; replace BK142 := am_ (hbox); replace GW142 := am_ ((by rw [hg]; exact (below_size (b0_ HB.out)) : w.heap.size ≤ gb142)); replace GE142 := am_ ((by rw [hg]; exact (below_size (b0_ HB.out)) : w.heap.size ≤ gb142)); replace HB := am_ (below_step (b0_ HB.out) hb); clear hb hbox hg) | ((with_reducible refine gate_dst (N := 2) rfl ?_); refine box_event ?hg (N := 2) ?hd (cs := #[.slice none 0 0, .slice none 0 0]) (t := 27) ?hr ?_; (case hd => rfl); (case hg => rfl); (case hr => first | (go_simp; done) | (go_simp; rfl)); intro gb143 hg w5 hbox hb; have n0_ := am_ (blk_below (rb_ BK142.out) hb); have n1_ := am_ (below_step (b1_ HB.out GE142.out) hb); have n2_ := am_ (hbox); have n3_ := am_ ((by rw [hg]; exact (below_size (b1_ HB.out GE142.out)) : w.heap.size ≤ gb143)); have n4_ := am_ ((by rw [hg]; exact (below_size (b1_ HB.out GE142.out)) : w.heap.size ≤ gb143)); have n5_ := am_ ((by rw [hg]; exact Nat.ne_of_lt (blk_lt (rb_ BK142.out)) : gb142 ≠ gb143)); have n6_ := am_ ((by rw [hg]; exact Nat.ne_of_gt (blk_lt (rb_ BK142.out)) : gb143 ≠ gb142)); clear BK142; clear HB; have BK142 := n0_; have HB := n1_; have BK143 := n2_; have GW143 := n3_; have GE143 := n4_; have NB142_143 := n5_; have NB143_142 := n6_; clear n0_ n1_ n2_ n3_ n4_ n5_ n6_; clear hb hbox hg; have hnb6 := NB142_143.out; have hnc6 := NB143_142.out; have hcz7_0 : w5.cell? ⟨gb142, 0, none⟩ = some (.slice A0_0 l0_0.length c0_0) := (blk_cell BK142.out 0).trans rfl; have hcz7_1 : w5.cell? ⟨gb142, 1, none⟩ = some (.slice A0_1 l0_1.length c0_1) := (blk_cell BK142.out 1).trans rfl; have hfz7_0 := blk_frozen BK142.out 0; have hfz7_1 := blk_frozen BK142.out 1) | ((with_reducible refine gate_callee (f := 126) rfl ?_); refine gL_ (some 11) Try.func126 #[.agg #[.slice A0_0 l0_0.length c0_0, .slice A0_1 l0_1.length c0_1]] ?_; (with_reducible refine (spec_l5Classes.calls k _ _ l0_0 _ _ l0_1 t144 _ ?side1 ?side2 ?side3 ?side4 A2.out).mono ?_); (case side1 => exact rc_ (Kd.C_below HR0_0.out HB.out)); (case side2 => exact HC0_0.out); (case side3 => exact rc_ (Kd.C_below HR0_1.out HB.out)); (case side4 => exact HC0_1.out); rintro e w8 ⟨v145, rfl, ho0, hb⟩; refine ⟨_, rfl, ?_⟩; have n0_ := am_ (Kd.R_lower ho0 (below_size (b2_ HB.out GE142.out GE143.out))); have n1_ := am_ (blk_below (rb_ BK142.out) hb); have n2_ := am_ (blk_below (rb_ BK143.out) hb); have n3_ := am_ (below_step (b2_ HB.out GE142.out GE143.out) hb); clear BK142; clear BK143; clear HB; have HO146 := n0_; have BK142 := n1_; have BK143 := n2_; have HB := n3_; clear n0_ n1_ n2_ n3_; (try clear hb); (try clear hb2); (try clear hk); (try clear hi); (try clear ho0); obtain ⟨Ao9, co9, eo9⟩ := Kd.R_slice HO146.out; subst eo9; have p147 : 0 ≤ (0 : Int) := (by omega); have q147 : 0 < (t144.length : Int) := of_decide_eq_true ah_; obtain ⟨ad147, e147, hx147_0⟩ := Kd.at_int (Kd.R_reads' HO146.out).2.2 0 p147 q147; cases e147; have qi147 : (0 < t144.length) = True := eq_true (by omega); (try rw [show ((0 : Int)).toNat = 0 from rfl] at hx147_0); (try rw [Addr.add_zero'] at hx147_0); replace p147 := eq_true p147; replace q147 := eq_true q147) | ((with_reducible refine gate_dst (N := 15) rfl ?_); refine Kd.R_lit (Kd.int .i64) _ 3 ?hg (N := 15) ?hd (xs := ([rd t144 0] : List Int)) (inner := [.int .i64 (rd t144 0)]) (ok := fun _ => True) (okp := fun _ => True) ?hr ?hp (fun _ hk => hk) trivial (Below.refl _ _) (Nat.le_refl _) (by simp) ?_; (case hd => rfl); (case hg => rfl); (case hr => first | (go_simp; done) | (go_simp; rfl)); (case hp => exact (Reps.one (show Kd.M (Kd.int .i64) _ _ _ (rd t144 0) [.int .i64 (rd t144 0)] from rfl) (Reps.none _ _))); intro v149 w10 ho11 hb hg_ hnew_; clear hg_ hnew_; (first | rw [← Ny148.out] at ho11 | (simp only [Int.reduceToNat] at ho11; rw [← Ny148.out] at ho11)); have n0_ := am_ (Kd.R_elder' (rr_ HO146.out) (Kd.R_base ho11) hb); have n1_ := am_ (Kd.R_lower (Kd.R_new' ho11 (Kd.R_lt (rr_ HO146.out))) (below_size (b2_ HB.out GE142.out GE143.out))); have n2_ := am_ (blk_below (rb_ BK142.out) hb); have n3_ := am_ (blk_below (rb_ BK143.out) hb); have n4_ := am_ (below_step (b2_ HB.out GE142.out GE143.out) hb); clear HO146; clear BK142; clear BK143; clear HB; have HO146 := n0_; have HO150 := n1_; have BK142 := n2_; have BK143 := n3_; have HB := n4_; clear n0_ n1_ n2_ n3_ n4_; clear hb ho11) | ((with_reducible refine gate_dst (N := 5) rfl ?_); refine box_event ?hg (N := 5) ?hd (cs := #[.slice none 0 0, .slice none 0 0]) (t := 27) ?hr ?_; (case hd => rfl); (case hg => rfl); (case hr => first | (go_simp; done) | (go_simp; rfl)); intro gb151 hg w12 hbox hb; have n0_ := am_ (Kd.R_below (rr_ HO146.out) hb); have n1_ := am_ (Kd.R_below (rr_ HO150.out) hb); have n2_ := am_ (blk_below (rb_ BK142.out) hb); have n3_ := am_ (blk_below (rb_ BK143.out) hb); have n4_ := am_ (below_step (b2_ HB.out GE142.out GE143.out) hb); have n5_ := am_ (hbox); have n6_ := am_ ((by rw [hg]; exact (below_size (b2_ HB.out GE142.out GE143.out)) : w.heap.size ≤ gb151)); have n7_ := am_ ((by rw [hg]; exact (below_size (b2_ HB.out GE142.out GE143.out)) : w.heap.size ≤ gb151)); have n8_ := am_ ((by rw [hg]; exact Nat.ne_of_lt (blk_lt (rb_ BK142.out)) : gb142 ≠ gb151)); have n9_ := am_ ((by rw [hg]; exact Nat.ne_of_gt (blk_lt (rb_ BK142.out)) : gb151 ≠ gb142)); have n10_ := am_ ((by rw [hg]; exact Nat.ne_of_lt (blk_lt (rb_ BK143.out)) : gb143 ≠ gb151)); have n11_ := am_ ((by rw [hg]; exact Nat.ne_of_gt (blk_lt (rb_ BK143.out)) : gb151 ≠ gb143)); clear HO146; clear HO150; clear BK142; clear BK143; clear HB; have HO146 := n0_; have HO150 := n1_; have BK142 := n2_; have BK143 := n3_; have HB := n4_; have BK151 := n5_; have GW151 := n6_; have GE151 := n7_; have NB142_151 := n8_; have NB151_142 := n9_; have NB143_151 := n10_; have NB151_143 := n11_; clear n0_ n1_ n2_ n3_ n4_ n5_ n6_ n7_ n8_ n9_ n10_ n11_; clear hb hbox hg; have hnb13 := NB151_142.out; have hnc13 := NB142_151.out; have hnb14 := NB151_143.out; have hnc14 := NB143_151.out; have hcz15_0 : w12.cell? ⟨gb151, 0, none⟩ = some (.slice none 0 0) := (blk_cell BK151.out 0).trans rfl; have hcz15_1 : w12.cell? ⟨gb151, 1, none⟩ = some (.slice none 0 0) := (blk_cell BK151.out 1).trans rfl; have hfz15_0 := blk_frozen BK151.out 0; have hfz15_1 := blk_frozen BK151.out 1))
  go_loopg [4, 6] k (fun kq v4 v6 w' => ∃ (x4_1 : List Int) (x6_1 : Int) (x152000_1 : List Bool) (x152001_1 : List (List Int)) (u152000 : Value) (u152001 : Value), v6 = .int .i64 x6_1 ∧ Aside0 (spec_l5Minimal.l0 kq t144 x4_1 x6_1 l0_0 l0_1 x152000_1 x152001_1 = some (r1, r2)) ∧ Aside0 (kq ≤ k) ∧ Aside0 (Kd.R (Kd.int .i64) 3 w' w.heap.size (fun k_ => some k_ ≠ (v4 : Value).ownBlock) (.slice (some ad147) t144.length co9) t144) ∧ Aside0 (Kd.R (Kd.int .i64) 3 w' w.heap.size (fun k_ => some k_ ≠ ((.slice (some ad147) t144.length co9) : Value).ownBlock) v4 x4_1) ∧ Aside0 (Kd.R Kd.bool 4 w' w.heap.size (fun _ => True) u152000 x152000_1) ∧ Aside0 (Kd.S (Kd.slice 3 (Kd.int .i64)) 67 w' w.heap.size (fun k_ => some k_ ≠ ((.slice (some ad147) t144.length co9) : Value).ownBlock ∧ some k_ ≠ (v4 : Value).ownBlock) u152001 x152001_1) ∧ Aside0 (w'.heap[gb142]? = some (.cells #[(.slice A0_0 l0_0.length c0_0), (.slice A0_1 l0_1.length c0_1)] 27 (0, 0))) ∧ Aside0 (w'.heap[gb143]? = some (.cells #[(.slice none 0 0), (.slice none 0 0)] 27 (0, 0))) ∧ Aside0 (w'.heap[gb151]? = some (.cells #[u152000, u152001] 27 (0, 0))) ∧ Aside0 (Below w.heap.size w w'))
  case atStart => exact ⟨(y148), (0), (([] : List Bool)), (([] : List (List Int))), (.slice none 0 0), (.slice none 0 0), (by first | rfl | (simp; done) | (simp [*]; done)), H', ⟨Nat.le_refl _⟩, ⟨by refine rr_ ?_; exact Kd.R_mono (Kd.R_far (p := ⟨gb151, 1, none⟩) (Kd.R_far (p := ⟨gb151, 0, none⟩) (Kd.R_types HO146.out BK151.out (by decide)) (fun _ hk => hk.2) (.slice none 0 0)) (fun _ hk => hk.2) (.slice none 0 0)) (fun _ hk => hk.1.2)⟩, ⟨by refine rr_ ?_; exact Kd.R_mono (Kd.R_far (p := ⟨gb151, 1, none⟩) (Kd.R_far (p := ⟨gb151, 0, none⟩) (Kd.R_types HO150.out BK151.out (by decide)) (fun _ hk => hk.2) (.slice none 0 0)) (fun _ hk => hk.2) (.slice none 0 0)) (fun _ hk => hk.1.2)⟩, ⟨by first | exact Kd.R_nil _ _ _ _ _ | exact Kd.N_nil _ _ _ _ _ | exact Kd.V_nil _ _ _ _ _ | exact Kd.Q_nil _ _ _ _ _ | exact Kd.S_nil _ _ _ _ _⟩, ⟨by first | exact Kd.S_nil _ _ _ _ _ | exact Kd.N_nil _ _ _ _ _ | exact Kd.V_nil _ _ _ _ _ | exact Kd.Q_nil _ _ _ _ _ | exact Kd.R_nil _ _ _ _ _⟩, ⟨by refine rb_ ?_; refine blk_far ?_ NB142_151.out _; refine rb_ ?_; refine blk_far ?_ NB142_151.out _; refine rb_ ?_; exact BK142.out⟩, ⟨by refine rb_ ?_; refine blk_far ?_ NB143_151.out _; refine rb_ ?_; refine blk_far ?_ NB143_151.out _; refine rb_ ?_; exact BK143.out⟩, ⟨by refine rb_ ?_; refine blk_put (cs := #[.slice none 0 0, .slice none 0 0]) ?_ 1 _ rfl; refine rb_ ?_; refine blk_put (cs := #[.slice none 0 0, .slice none 0 0]) ?_ 0 _ rfl; refine rb_ ?_; exact BK151.out⟩, ⟨by exact zp5_0_ HB.out GE142.out GE143.out GE151.out⟩⟩
  case round =>
   clear H'
   try clear c1
   try clear p1
   try clear q1
   try clear hx1
   try clear qi1
   try clear p2
   try clear c3
   try clear c3b0
   try clear c3b1
   try clear c6
   try clear c9
   try clear c12
   try clear c13
   try clear c14
   try clear p14
   try clear q14
   try clear hx14
   try clear qi14
   try clear hcz15_0
   try clear hcz15_1
   try clear hcz7_0
   try clear hcz7_1
   try clear hfz15_0
   try clear hfz15_1
   try clear hfz7_0
   try clear hfz7_1
   try clear hx147_0
   try clear p147
   try clear q147
   obtain ⟨x4_1, x6_1, x152000_1, x152001_1, u152000, u152001, rfl, HA, HK1, HO_3, HO_4, HO_152000, HO_152001, BK142, BK143, BK151, HB⟩ := hrel
   cases gk with
   | zero => exact absurd HA.out (by simp [spec_l5Minimal.l0])
   | succ k1 =>
    have H := HA.out
    clear HA
    simp only [spec_l5Minimal.l0] at H
    by_cases c16 : x6_1 < (x4_1.length : Int)
    ·rw [if_pos c16] at H
     have c16b0 : decide (x6_1 < (x4_1.length : Int)) = true := decide_eq_true c16
     clear c16
     obtain ⟨y152, hy152⟩ : ∃ y_ : List Int, y_ = (([] : List Int)) := ⟨_, rfl⟩
     replace H : (spec_l5Minimal.l1 k1 t144 x4_1 x6_1 y152 0 l0_0 l0_1 x152000_1 x152001_1) = some (r1, r2) := by first | (rw [hy152]; with_reducible exact H) | (have H2_ := (Option.bind_some _ _).symm.trans H; rw [hy152]; with_reducible exact H2_) | (have H2_ := (Option.bind_some _ _).symm.trans H; with_reducible exact H2_) | with_reducible exact H | (rw [hy152]; exact H) | exact H
     have Ny152 := am_ hy152
     clear hy152
     have H' := am_ H
     clear H
     obtain ⟨Ao17, co17, eo17⟩ := Kd.R_slice HO_4.out
     subst eo17
     go_wp2_with (first | ((with_reducible refine gate_dst (N := 23) rfl ?_); refine Kd.R_lit (Kd.int .i64) _ 3 ?hg (N := 23) ?hd (xs := ([] : List Int)) (inner := []) (ok := fun _ => True) (okp := fun _ => True) ?hr ?hp (fun _ hk => hk) trivial (Below.refl _ _) (Nat.le_refl _) (by simp) ?_; (case hd => rfl); (case hg => rfl); (case hr => first | (go_simp; done) | (go_simp; rfl)); (case hp => exact (Reps.none _ _)); intro v153 w18 ho19 hb hg_ hnew_; clear hg_ hnew_; (first | rw [← Ny152.out] at ho19 | (simp only [Int.reduceToNat] at ho19; rw [← Ny152.out] at ho19)); have n0_ := am_ (Kd.R_elder' (rr_ HO_3.out) (Kd.R_base ho19) hb); have n1_ := am_ (Kd.R_elder' (rr_ HO_4.out) (Kd.R_base ho19) hb); have n2_ := am_ (Kd.R_below (rr_ HO_152000.out) hb); have n3_ := am_ (Kd.S_elder' (rs_ HO_152001.out) (Kd.R_base ho19) hb); have n4_ := am_ (Kd.R_lower (Kd.R_new' (Kd.R_new' ho19 (Kd.R_lt (rr_ HO_3.out))) (Kd.R_lt (rr_ HO_4.out))) (below_size (b3_ HB.out GE142.out GE143.out GE151.out))); have n5_ := am_ (blk_below (rb_ BK142.out) hb); have n6_ := am_ (blk_below (rb_ BK143.out) hb); have n7_ := am_ (blk_below (rb_ BK151.out) hb); have n8_ := am_ (below_step (b3_ HB.out GE142.out GE143.out GE151.out) hb); clear HO_3; clear HO_4; clear HO_152000; clear HO_152001; clear BK142; clear BK143; clear BK151; clear HB; have HO_3 := n0_; have HO_4 := n1_; have HO_152000 := n2_; have HO_152001 := n3_; have HO154 := n4_; have BK142 := n5_; have BK143 := n6_; have BK151 := n7_; have HB := n8_; clear n0_ n1_ n2_ n3_ n4_ n5_ n6_ n7_ n8_; clear hb ho19))
     go_loopg [4, 7, 8] k1 (fun kq v4 v7 v8 w' => ∃ (x4_2 : List Int) (x7_2 : List Int) (x8_2 : Int), v8 = .int .i64 x8_2 ∧ Aside0 (spec_l5Minimal.l1 kq t144 x4_2 x6_1 x7_2 x8_2 l0_0 l0_1 x152000_1 x152001_1 = some (r1, r2)) ∧ Aside0 (kq ≤ k1) ∧ Aside0 (Kd.R (Kd.int .i64) 3 w' w.heap.size (fun k_ => some k_ ≠ (v4 : Value).ownBlock ∧ some k_ ≠ (v7 : Value).ownBlock) (.slice (some ad147) t144.length co9) t144) ∧ Aside0 (Kd.R (Kd.int .i64) 3 w' w.heap.size (fun k_ => some k_ ≠ ((.slice (some ad147) t144.length co9) : Value).ownBlock ∧ some k_ ≠ (v7 : Value).ownBlock) v4 x4_2) ∧ Aside0 (Kd.R (Kd.int .i64) 3 w' w.heap.size (fun k_ => some k_ ≠ ((.slice (some ad147) t144.length co9) : Value).ownBlock ∧ some k_ ≠ (v4 : Value).ownBlock) v7 x7_2) ∧ Aside0 (Kd.R Kd.bool 4 w' w.heap.size (fun _ => True) u152000 x152000_1) ∧ Aside0 (Kd.S (Kd.slice 3 (Kd.int .i64)) 67 w' w.heap.size (fun k_ => some k_ ≠ ((.slice (some ad147) t144.length co9) : Value).ownBlock ∧ some k_ ≠ (v4 : Value).ownBlock ∧ some k_ ≠ (v7 : Value).ownBlock) u152001 x152001_1) ∧ Aside0 (w'.heap[gb142]? = some (.cells #[(.slice A0_0 l0_0.length c0_0), (.slice A0_1 l0_1.length c0_1)] 27 (0, 0))) ∧ Aside0 (w'.heap[gb143]? = some (.cells #[(.slice none 0 0), (.slice none 0 0)] 27 (0, 0))) ∧ Aside0 (w'.heap[gb151]? = some (.cells #[u152000, u152001] 27 (0, 0))) ∧ Aside0 (Below w.heap.size w w'))
     case atStart => exact ⟨(x4_1), (y152), (0), (by first | rfl | (simp; done) | (simp [*]; done)), H', ⟨Nat.le_refl _⟩, ⟨by refine rr_ ?_; exact HO_3.out⟩, ⟨by refine rr_ ?_; exact HO_4.out⟩, ⟨by refine rr_ ?_; exact Kd.R_mono HO154.out (fun _ hk => ⟨hk.1.2, hk.2⟩)⟩, ⟨by refine rr_ ?_; exact HO_152000.out⟩, ⟨by refine rs_ ?_; exact Kd.S_mono HO_152001.out (fun _ hk => ⟨hk.1.1, ⟨hk.1.2, hk.2⟩⟩)⟩, ⟨by refine rb_ ?_; exact BK142.out⟩, ⟨by refine rb_ ?_; exact BK143.out⟩, ⟨by refine rb_ ?_; exact BK151.out⟩, ⟨by exact zp5_0_ HB.out GE142.out GE143.out GE151.out⟩⟩
     case round =>
      clear H'
      try clear c1
      try clear p1
      try clear q1
      try clear hx1
      try clear qi1
      try clear p2
      try clear c3
      try clear c3b0
      try clear c3b1
      try clear c6
      try clear c9
      try clear c12
      try clear c13
      try clear c14
      try clear p14
      try clear q14
      try clear hx14
      try clear qi14
      try clear c16
      try clear c16b0
      try clear hcz15_0
      try clear hcz15_1
      try clear hcz7_0
      try clear hcz7_1
      try clear hfz15_0
      try clear hfz15_1
      try clear hfz7_0
      try clear hfz7_1
      try clear hx147_0
      try clear p1
      try clear p14
      try clear p147
      try clear p2
      try clear q1
      try clear q14
      try clear q147
      obtain ⟨x4_2, x7_2, x8_2, rfl, HA, HK2, HO_3, HO_4, HO_7, HO_152000, HO_152001, BK142, BK143, BK151, HB⟩ := hrel
      cases gk with
      | zero => exact absurd HA.out (by simp [spec_l5Minimal.l1])
      | succ k2 =>
       have H := HA.out
       clear HA
       simp only [spec_l5Minimal.l1] at H
       by_cases c20 : x8_2 < 3
       ·rw [if_pos c20] at H
        have c20b0 : decide (x8_2 < 3) = true := decide_eq_true c20
        clear c20
        by_cases c21 : 0 ≤ x6_1
        ·rw [if_pos c21] at H
         have c21b0 : decide (0 ≤ x6_1) = true := decide_eq_true c21
         clear c21
         by_cases c22 : x6_1 < (x4_2.length : Int)
         ·rw [if_pos c22] at H
          have c22b0 : decide (x6_1 < (x4_2.length : Int)) = true := decide_eq_true c22
          clear c22
          by_cases c23 : 0 ≤ (rd x4_2 x6_1)
          ·rw [if_pos c23] at H
           have c23b0 : decide (0 ≤ (rd x4_2 x6_1)) = true := decide_eq_true c23
           clear c23
           by_cases c24 : (rd x4_2 x6_1) < (l0_1.length : Int)
           ·rw [if_pos c24] at H
            have c24b0 : decide ((rd x4_2 x6_1) < (l0_1.length : Int)) = true := decide_eq_true c24
            clear c24
            by_cases c25 : 0 ≤ x8_2
            ·rw [if_pos c25] at H
             have c25b0 : decide (0 ≤ x8_2) = true := decide_eq_true c25
             clear c25
             by_cases c26 : x8_2 < ((rd_L1 l0_1 (rd x4_2 x6_1)).length : Int)
             ·rw [if_pos c26] at H
              have c26b0 : decide (x8_2 < ((rd_L1 l0_1 (rd x4_2 x6_1)).length : Int)) = true := decide_eq_true c26
              clear c26
              by_cases c27 : 0 ≤ (rd (rd_L1 l0_1 (rd x4_2 x6_1)) x8_2)
              ·rw [if_pos c27] at H
               have c27b0 : decide (0 ≤ (rd (rd_L1 l0_1 (rd x4_2 x6_1)) x8_2)) = true := decide_eq_true c27
               clear c27
               by_cases c28 : (rd (rd_L1 l0_1 (rd x4_2 x6_1)) x8_2) < (t144.length : Int)
               ·rw [if_pos c28] at H
                have c28b0 : decide ((rd (rd_L1 l0_1 (rd x4_2 x6_1)) x8_2) < (t144.length : Int)) = true := decide_eq_true c28
                clear c28
                replace H := Option.bind_eq_some_iff.mp H
                obtain ⟨t167, A290, H⟩ := H
                have A29 := am_ A290
                clear A290
                by_cases c30 : t167 < 0
                ·rw [if_pos c30] at H
                 have c30b0 : decide (t167 < 0) = true := decide_eq_true c30
                 clear c30
                 by_cases c31 : x4_2.length < 17592186044416
                 ·rw [if_pos c31] at H
                  have LMc31 := am_ c31
                  clear c31
                  obtain ⟨y168, hy168⟩ : ∃ y_ : List Int, y_ = (x4_2 ++ [rd t144 (rd (rd_L1 l0_1 (rd x4_2 x6_1)) x8_2)]) := ⟨_, rfl⟩
                  replace H : ((spec_l5Find.f k2 y168 (rd t144 (rd (rd_L1 l0_1 (rd x4_2 x6_1)) x8_2))).bind fun t171 => (if x7_2.length < 17592186044416 then (spec_l5Minimal.l1 k2 t144 y168 x6_1 (x7_2 ++ [t171]) (wrap64 (x8_2 + 1)) l0_0 l0_1 x152000_1 x152001_1) else (none))) = some (r1, r2) := by first | (rw [hy168]; with_reducible exact H) | (have H2_ := (Option.bind_some _ _).symm.trans H; rw [hy168]; with_reducible exact H2_) | (have H2_ := (Option.bind_some _ _).symm.trans H; with_reducible exact H2_) | with_reducible exact H | (rw [hy168]; exact H) | exact H
                  have Ny168 := am_ hy168
                  clear hy168
                  replace H := Option.bind_eq_some_iff.mp H
                  obtain ⟨t171, A320, H⟩ := H
                  have A32 := am_ A320
                  clear A320
                  by_cases c33 : x7_2.length < 17592186044416
                  ·rw [if_pos c33] at H
                   have LMc33 := am_ c33
                   clear c33
                   obtain ⟨y172, hy172⟩ : ∃ y_ : List Int, y_ = (x7_2 ++ [t171]) := ⟨_, rfl⟩
                   replace H : (spec_l5Minimal.l1 k2 t144 y168 x6_1 y172 (wrap64 (x8_2 + 1)) l0_0 l0_1 x152000_1 x152001_1) = some (r1, r2) := by first | (rw [hy172]; with_reducible exact H) | (have H2_ := (Option.bind_some _ _).symm.trans H; rw [hy172]; with_reducible exact H2_) | (have H2_ := (Option.bind_some _ _).symm.trans H; with_reducible exact H2_) | with_reducible exact H | (rw [hy172]; exact H) | exact H
                   have Ny172 := am_ hy172
                   clear hy172
                   have H' := am_ H
                   clear H
                   try go_wp2
                   replace HO_3 := am_ (Kd.R_drew HO_3.out)
                   replace HO_4 := am_ (Kd.R_drew HO_4.out)
                   replace HO_7 := am_ (Kd.R_drew HO_7.out)
                   replace HO_152000 := am_ (Kd.R_drew HO_152000.out)
                   replace HO_152001 := am_ (Kd.S_drew HO_152001.out)
                   replace BK142 := am_ (blk_drew BK142.out)
                   replace BK143 := am_ (blk_drew BK143.out)
                   replace BK151 := am_ (blk_drew BK151.out)
                   replace HB := am_ (below_drew1 HB.out)
                   obtain ⟨Ao35, co35, eo35⟩ := Kd.R_slice HO_4.out
                   (first | subst eo35 | (injection eo35 with f1_ f2_ f3_; have f4_ := f1_.symm; have f5_ := f3_.symm; clear f1_ f2_ f3_; subst f4_; subst f5_))
                   have p163 : 0 ≤ (x6_1 : Int) := of_decide_eq_true ah_
                   have q163 : x6_1 < (x4_2.length : Int) := of_decide_eq_true ah_
                   obtain ⟨ad163, e163, hx163_0⟩ := Kd.at_int (Kd.R_reads' HO_4.out).2.2 x6_1 p163 q163
                   cases e163
                   replace p163 := eq_true p163
                   replace q163 := eq_true q163
                   have p164 : 0 ≤ ((rd x4_2 x6_1) : Int) := of_decide_eq_true ah_
                   have q164 : (rd x4_2 x6_1) < (l0_1.length : Int) := of_decide_eq_true ah_
                   obtain ⟨ad164, A164_0, c164_0, e164, hx164_0, hl164_0, hi164_0⟩ := at_L1 HR0_1.out (rd x4_2 x6_1) p164 q164
                   have hw164_0 := hx164_0
                   cases e164
                   replace hx164_0 := (HB.out.cell (World.block_lt_of_cell? w _ hx164_0)).trans hx164_0
                   have HR164_0 := am_ hi164_0
                   have HC164_0 := am_ hl164_0
                   clear hi164_0 hl164_0
                   replace p164 := eq_true p164
                   replace q164 := eq_true q164
                   have p165 : 0 ≤ (x8_2 : Int) := of_decide_eq_true ah_
                   have q165 : x8_2 < ((rd_L1 l0_1 (rd x4_2 x6_1)).length : Int) := of_decide_eq_true ah_
                   obtain ⟨ad165, e165, hx165_0⟩ := Kd.at_int HR164_0.out x8_2 p165 q165
                   have hw165_0 := hx165_0
                   cases e165
                   replace hx165_0 := (HB.out.cell (World.block_lt_of_cell? w _ hx165_0)).trans hx165_0
                   replace p165 := eq_true p165
                   replace q165 := eq_true q165
                   have p166 : 0 ≤ ((rd (rd_L1 l0_1 (rd x4_2 x6_1)) x8_2) : Int) := of_decide_eq_true ah_
                   have q166 : (rd (rd_L1 l0_1 (rd x4_2 x6_1)) x8_2) < (t144.length : Int) := of_decide_eq_true ah_
                   obtain ⟨ad166, e166, hx166_0⟩ := Kd.at_int (Kd.R_reads' HO_3.out).2.2 (rd (rd_L1 l0_1 (rd x4_2 x6_1)) x8_2) p166 q166
                   obtain rfl : ad147 = ad166 := (by injection e166)
                   replace p166 := eq_true p166
                   replace q166 := eq_true q166
                   refine start_ (n := 15) (S := fun w' => w'.cell? ⟨gb142, 0, none⟩ = some (.slice A0_0 l0_0.length c0_0) ∧ w'.cell? ⟨gb142, 1, none⟩ = some (.slice (some ad164) l0_1.length c0_1) ∧ w'.cell? (ad163.add (x6_1).toNat) = some (.int .i64 (rd x4_2 x6_1)) ∧ w'.cell? (ad164.add ((rd x4_2 x6_1)).toNat) = some (.slice (some ad165) (rd_L1 l0_1 (rd x4_2 x6_1)).length c164_0) ∧ w'.cell? (ad165.add (x8_2).toNat) = some (.int .i64 (rd (rd_L1 l0_1 (rd x4_2 x6_1)) x8_2)) ∧ w'.cell? (ad147.add ((rd (rd_L1 l0_1 (rd x4_2 x6_1)) x8_2)).toNat) = some (.int .i64 (rd t144 (rd (rd_L1 l0_1 (rd x4_2 x6_1)) x8_2)))) (ds := []) (bl 15 0) (by kernel_rfl) rfl rfl ⟨(blk_cell BK142.out 0).trans rfl, (blk_cell BK142.out 1).trans rfl, hx163_0, ((HB.out.cell (World.block_lt_of_cell? w _ hw164_0)).trans hw164_0), ((HB.out.cell (World.block_lt_of_cell? w _ hw165_0)).trans hw165_0), hx166_0⟩ (fun hHeld => ?_); refine with_tabW spec_l5Minimal.tab11 spec_l5Minimal.bits11 (fun HT_ HW_ => ?_)
                   generalize wr.drew = w34 at HO_3 HO_4 HO_7 HO_152000 HO_152001 BK142 BK143 BK151 HB HR164_0 hx163_0 hx164_0 hx165_0 hx166_0 hHeld ⊢
                   refine pu_ 0 28 (bl 15 1) HT_ ?_
                   refine pu_ 1 29 (bl 15 3) HT_ ?_
                   refine pu_ 3 31 (bl 15 11) HT_ ?_
                   refine pu_ 4 32 (bl 15 27) HT_ ?_
                   refine pu_ 5 33 (bl 15 59) HT_ ?_
                   refine pu_ 9 37 (bl 15 571) HT_ ?_
                   refine tk_ 2 30 (bl 15 575) HT_ HW_ hHeld ?_
                   refine tk_ 6 34 (bl 15 639) HT_ HW_ hHeld ?_
                   refine pu_ 7 35 (bl 15 767) HT_ ?_
                   refine tk_ 8 36 (bl 15 1023) HT_ HW_ hHeld ?_
                   refine pu_ 10 38 (bl 15 2047) HT_ ?_
                   refine tk_ 11 39 (bl 15 4095) HT_ HW_ hHeld ?_
                   refine pu_ 12 40 (bl 15 8191) HT_ ?_
                   refine tk_ 13 41 (bl 15 16383) HT_ HW_ hHeld ?_
                   refine pu_ 14 9 (bl 15 32767) HT_ ?_
                   refine done_ (done_of HT_.out (by kernel_rfl)) ?_
                   try go_wp2_with (first | ((with_reducible refine gate_callee (f := 63) rfl ?_); refine gL_ (some 44) Try.func63 #[.slice (some ad163) x4_2.length co35, .int .i64 (rd t144 (rd (rd_L1 l0_1 (rd x4_2 x6_1)) x8_2))] ?_; (with_reducible refine (spec_l5Find.calls k2 _ _ x4_2 (rd t144 (rd (rd_L1 l0_1 (rd x4_2 x6_1)) x8_2)) t167 _ ?side1 ?side2 A29.out).mono ?_); (case side1 => exact rc_ ((Kd.R_reads' HO_4.out).2.2)); (case side2 => exact (Kd.R_reads' HO_4.out).2.1); rintro e w' ⟨rfl, ⟨nd, rfl⟩⟩; refine ⟨_, rfl, ?_⟩) | ((with_reducible refine gate_builtin (b := .append) (xs := #[.tmp 46, .tmp 48]) rfl ?_); at_builtin; refine Kd.R_append (Kd.int .i64) (w0 := w) w.heap.size rfl (.tmp 46) (.tmp 48) 67 3 (.int .i64 0) 8 rfl Try.underlying67 info3 rfl (by decide) (by omega) (.slice (some ad163) x4_2.length co35) x4_2 (rd t144 (rd (rd_L1 l0_1 (rd x4_2 x6_1)) x8_2)) [.int .i64 (rd t144 (rd (rd_L1 l0_1 (rd x4_2 x6_1)) x8_2))] (fun k_ => some k_ ≠ (.slice (some ad147) t144.length co9 : Value).ownBlock ∧ some k_ ≠ (u7 : Value).ownBlock) (fun _ => False) rfl rfl ?aP (fun _ hk => hk.elim) ?aF ?aO ?aB ?aS ?aL ?_; (case aP => exact rfl); (case aB => exact (b3_ HB.out GE142.out GE143.out GE151.out)); (case aF => exact (fun k_ hk => ⟨Kd.fresh' (Kd.R_lt (rr_ HO_3.out)) k_ hk, Kd.fresh' (Kd.R_lt (rr_ HO_7.out)) k_ hk⟩)); (case aO => exact (rr_ HO_4.out)); (case aS => exact (below_size (b3_ HB.out GE142.out GE143.out GE151.out))); (case aL => have := LMc31.out; omega); intro v169 w36 ho hb hg hat; rw [← Ny168.out] at ho; have n0_ := am_ (Kd.R_after (ok := (fun k_ => some k_ ≠ (u7 : Value).ownBlock)) (by refine rr_ ?_; exact Kd.R_mono HO_3.out (fun _ hk => ⟨hk.2, hk.1⟩)) hg hat); have n1_ := am_ (Kd.R_after (ok := (fun k_ => some k_ ≠ (.slice (some ad147) t144.length co9 : Value).ownBlock)) (rr_ HO_7.out) hg hat); have n2_ := am_ (Kd.R_over' (rr_ HO_152000.out) (Kd.R_typed (rr_ HO_4.out)) (by decide) hg); have n3_ := am_ (Kd.S_after (ok := (fun k_ => some k_ ≠ (.slice (some ad147) t144.length co9 : Value).ownBlock ∧ some k_ ≠ (u7 : Value).ownBlock)) (by refine rs_ ?_; exact Kd.S_mono HO_152001.out (fun _ hk => ⟨⟨hk.1, hk.2.2⟩, hk.2.1⟩)) hg hat); have n4_ := am_ (blk_grown (g := gb142) (o := .cells #[.slice A0_0 l0_0.length c0_0, .slice (some ad164) l0_1.length c0_1] 27 (0, 0)) (rb_ BK142.out) hg (Kd.R_ne HO_4.out BK142.out (by decide))); have n5_ := am_ (blk_grown (g := gb143) (o := .cells #[.slice none 0 0, .slice none 0 0] 27 (0, 0)) (rb_ BK143.out) hg (Kd.R_ne HO_4.out BK143.out (by decide))); have n6_ := am_ (blk_grown (g := gb151) (o := .cells #[u152000, u152001] 27 (0, 0)) (rb_ BK151.out) hg (Kd.R_ne HO_4.out BK151.out (by decide))); have n7_ := am_ (hb); have n8_ := am_ (ho); clear HO_3; clear HO_7; clear HO_152000; clear HO_152001; clear BK142; clear BK143; clear BK151; clear HB; clear HO_4; have HO_3 := n0_; have HO_7 := n1_; have HO_152000 := n2_; have HO_152001 := n3_; have BK142 := n4_; have BK143 := n5_; have BK151 := n6_; have HB := n7_; have HO170 := n8_; clear n0_ n1_ n2_ n3_ n4_ n5_ n6_ n7_ n8_; clear ho hb hg hat; obtain ⟨Ao37, co37, eo37⟩ := Kd.R_slice HO170.out; subst eo37) | ((with_reducible refine gate_callee (f := 63) rfl ?_); refine gL_ (some 53) Try.func63 #[.slice Ao37 y168.length co37, .int .i64 (rd t144 (rd (rd_L1 l0_1 (rd x4_2 x6_1)) x8_2))] ?_; (with_reducible refine (spec_l5Find.calls k2 _ _ y168 (rd t144 (rd (rd_L1 l0_1 (rd x4_2 x6_1)) x8_2)) t171 _ ?side1 ?side2 A32.out).mono ?_); (case side1 => exact rc_ ((Kd.R_reads' HO170.out).2.2)); (case side2 => exact (Kd.R_reads' HO170.out).2.1); rintro e w' ⟨rfl, ⟨nd, rfl⟩⟩; refine ⟨_, rfl, ?_⟩) | ((with_reducible refine gate_builtin (b := .append) (xs := #[.tmp 50, .tmp 54]) rfl ?_); at_builtin; refine Kd.R_append (Kd.int .i64) (w0 := w) w.heap.size rfl (.tmp 50) (.tmp 54) 67 3 (.int .i64 0) 8 rfl Try.underlying67 info3 rfl (by decide) (by omega) u7 x7_2 t171 [.int .i64 t171] (fun k_ => some k_ ≠ (.slice (some ad147) t144.length co9 : Value).ownBlock ∧ some k_ ≠ (.slice Ao37 y168.length co37 : Value).ownBlock) (fun _ => False) rfl rfl ?aP (fun _ hk => hk.elim) ?aF ?aO ?aB ?aS ?aL ?_; (case aP => exact rfl); (case aB => exact (b3_ HB.out GE142.out GE143.out GE151.out)); (case aF => exact (fun k_ hk => ⟨Kd.fresh' (Kd.R_lt (rr_ HO_3.out)) k_ hk, Kd.fresh' (Kd.R_lt (rr_ HO170.out)) k_ hk⟩)); (case aO => exact (rr_ HO_7.out)); (case aS => exact (below_size (b3_ HB.out GE142.out GE143.out GE151.out))); (case aL => have := LMc33.out; omega); intro v173 w38 ho hb hg hat; rw [← Ny172.out] at ho; have n0_ := am_ (Kd.R_after (ok := (fun k_ => some k_ ≠ (.slice Ao37 y168.length co37 : Value).ownBlock)) (by refine rr_ ?_; exact Kd.R_mono HO_3.out (fun _ hk => ⟨hk.2, hk.1⟩)) hg hat); have n1_ := am_ (Kd.R_over' (rr_ HO_152000.out) (Kd.R_typed (rr_ HO_7.out)) (by decide) hg); have n2_ := am_ (Kd.S_after (ok := (fun k_ => some k_ ≠ (.slice (some ad147) t144.length co9 : Value).ownBlock ∧ some k_ ≠ (.slice Ao37 y168.length co37 : Value).ownBlock)) (by refine rs_ ?_; exact Kd.S_mono HO_152001.out (fun _ hk => ⟨⟨hk.1.1, hk.2⟩, hk.1.2⟩)) hg hat); have n3_ := am_ (blk_grown (g := gb142) (o := .cells #[.slice A0_0 l0_0.length c0_0, .slice (some ad164) l0_1.length c0_1] 27 (0, 0)) (rb_ BK142.out) hg (Kd.R_ne HO_7.out BK142.out (by decide))); have n4_ := am_ (blk_grown (g := gb143) (o := .cells #[.slice none 0 0, .slice none 0 0] 27 (0, 0)) (rb_ BK143.out) hg (Kd.R_ne HO_7.out BK143.out (by decide))); have n5_ := am_ (blk_grown (g := gb151) (o := .cells #[u152000, u152001] 27 (0, 0)) (rb_ BK151.out) hg (Kd.R_ne HO_7.out BK151.out (by decide))); have n6_ := am_ (Kd.R_after (ok := (fun k_ => some k_ ≠ (.slice (some ad147) t144.length co9 : Value).ownBlock)) (rr_ HO170.out) hg hat); have n7_ := am_ (hb); have n8_ := am_ (ho); clear HO_3; clear HO_152000; clear HO_152001; clear BK142; clear BK143; clear BK151; clear HO170; clear HB; clear HO_7; have HO_3 := n0_; have HO_152000 := n1_; have HO_152001 := n2_; have BK142 := n3_; have BK143 := n4_; have BK151 := n5_; have HO170 := n6_; have HB := n7_; have HO174 := n8_; clear n0_ n1_ n2_ n3_ n4_ n5_ n6_ n7_ n8_; clear ho hb hg hat))
                   go_roundg k2
                   case measure => have := HK1.out; have := HK2.out; omega
                   case rel => exact ⟨(y168), (y172), (wrap64 (x8_2 + 1)), (by first | rfl | (simp; done) | (simp [*]; done)), H', ⟨by have := HK1.out; have := HK2.out; omega⟩, ⟨by refine rr_ ?_; exact HO_3.out⟩, ⟨by refine rr_ ?_; exact HO170.out⟩, ⟨by refine rr_ ?_; exact HO174.out⟩, ⟨by refine rr_ ?_; exact HO_152000.out⟩, ⟨by refine rs_ ?_; exact Kd.S_mono HO_152001.out (fun _ hk => ⟨hk.1.1, ⟨hk.1.2, hk.2⟩⟩)⟩, ⟨by refine rb_ ?_; exact BK142.out⟩, ⟨by refine rb_ ?_; exact BK143.out⟩, ⟨by refine rb_ ?_; exact BK151.out⟩, ⟨by exact zp5_0_ HB.out GE142.out GE143.out GE151.out⟩⟩
                  ·rw [if_neg c33] at H
                   exact absurd H (by simp)
                 ·rw [if_neg c31] at H
                  exact absurd H (by simp)
                ·rw [if_neg c30] at H
                 have c30b0 : decide (t167 < 0) = false := decide_eq_false c30
                 clear c30
                 replace H := Option.bind_eq_some_iff.mp H
                 obtain ⟨t175, A390, H⟩ := H
                 have A39 := am_ A390
                 clear A390
                 by_cases c40 : x7_2.length < 17592186044416
                 ·rw [if_pos c40] at H
                  have LMc40 := am_ c40
                  clear c40
                  obtain ⟨y176, hy176⟩ : ∃ y_ : List Int, y_ = (x7_2 ++ [t175]) := ⟨_, rfl⟩
                  replace H : (spec_l5Minimal.l1 k2 t144 x4_2 x6_1 y176 (wrap64 (x8_2 + 1)) l0_0 l0_1 x152000_1 x152001_1) = some (r1, r2) := by first | (rw [hy176]; with_reducible exact H) | (have H2_ := (Option.bind_some _ _).symm.trans H; rw [hy176]; with_reducible exact H2_) | (have H2_ := (Option.bind_some _ _).symm.trans H; with_reducible exact H2_) | with_reducible exact H | (rw [hy176]; exact H) | exact H
                  have Ny176 := am_ hy176
                  clear hy176
                  have H' := am_ H
                  clear H
                  try go_wp2
                  replace HO_3 := am_ (Kd.R_drew HO_3.out)
                  replace HO_4 := am_ (Kd.R_drew HO_4.out)
                  replace HO_7 := am_ (Kd.R_drew HO_7.out)
                  replace HO_152000 := am_ (Kd.R_drew HO_152000.out)
                  replace HO_152001 := am_ (Kd.S_drew HO_152001.out)
                  replace BK142 := am_ (blk_drew BK142.out)
                  replace BK143 := am_ (blk_drew BK143.out)
                  replace BK151 := am_ (blk_drew BK151.out)
                  replace HB := am_ (below_drew1 HB.out)
                  obtain ⟨Ao42, co42, eo42⟩ := Kd.R_slice HO_4.out
                  (first | subst eo42 | (injection eo42 with f1_ f2_ f3_; have f4_ := f1_.symm; have f5_ := f3_.symm; clear f1_ f2_ f3_; subst f4_; subst f5_))
                  have p163 : 0 ≤ (x6_1 : Int) := of_decide_eq_true ah_
                  have q163 : x6_1 < (x4_2.length : Int) := of_decide_eq_true ah_
                  obtain ⟨ad163, e163, hx163_0⟩ := Kd.at_int (Kd.R_reads' HO_4.out).2.2 x6_1 p163 q163
                  cases e163
                  replace p163 := eq_true p163
                  replace q163 := eq_true q163
                  have p164 : 0 ≤ ((rd x4_2 x6_1) : Int) := of_decide_eq_true ah_
                  have q164 : (rd x4_2 x6_1) < (l0_1.length : Int) := of_decide_eq_true ah_
                  obtain ⟨ad164, A164_0, c164_0, e164, hx164_0, hl164_0, hi164_0⟩ := at_L1 HR0_1.out (rd x4_2 x6_1) p164 q164
                  have hw164_0 := hx164_0
                  cases e164
                  replace hx164_0 := (HB.out.cell (World.block_lt_of_cell? w _ hx164_0)).trans hx164_0
                  have HR164_0 := am_ hi164_0
                  have HC164_0 := am_ hl164_0
                  clear hi164_0 hl164_0
                  replace p164 := eq_true p164
                  replace q164 := eq_true q164
                  have p165 : 0 ≤ (x8_2 : Int) := of_decide_eq_true ah_
                  have q165 : x8_2 < ((rd_L1 l0_1 (rd x4_2 x6_1)).length : Int) := of_decide_eq_true ah_
                  obtain ⟨ad165, e165, hx165_0⟩ := Kd.at_int HR164_0.out x8_2 p165 q165
                  have hw165_0 := hx165_0
                  cases e165
                  replace hx165_0 := (HB.out.cell (World.block_lt_of_cell? w _ hx165_0)).trans hx165_0
                  replace p165 := eq_true p165
                  replace q165 := eq_true q165
                  have p166 : 0 ≤ ((rd (rd_L1 l0_1 (rd x4_2 x6_1)) x8_2) : Int) := of_decide_eq_true ah_
                  have q166 : (rd (rd_L1 l0_1 (rd x4_2 x6_1)) x8_2) < (t144.length : Int) := of_decide_eq_true ah_
                  obtain ⟨ad166, e166, hx166_0⟩ := Kd.at_int (Kd.R_reads' HO_3.out).2.2 (rd (rd_L1 l0_1 (rd x4_2 x6_1)) x8_2) p166 q166
                  obtain rfl : ad147 = ad166 := (by injection e166)
                  replace p166 := eq_true p166
                  replace q166 := eq_true q166
                  refine start_ (n := 15) (S := fun w' => w'.cell? ⟨gb142, 0, none⟩ = some (.slice A0_0 l0_0.length c0_0) ∧ w'.cell? ⟨gb142, 1, none⟩ = some (.slice (some ad164) l0_1.length c0_1) ∧ w'.cell? (ad163.add (x6_1).toNat) = some (.int .i64 (rd x4_2 x6_1)) ∧ w'.cell? (ad164.add ((rd x4_2 x6_1)).toNat) = some (.slice (some ad165) (rd_L1 l0_1 (rd x4_2 x6_1)).length c164_0) ∧ w'.cell? (ad165.add (x8_2).toNat) = some (.int .i64 (rd (rd_L1 l0_1 (rd x4_2 x6_1)) x8_2)) ∧ w'.cell? (ad147.add ((rd (rd_L1 l0_1 (rd x4_2 x6_1)) x8_2)).toNat) = some (.int .i64 (rd t144 (rd (rd_L1 l0_1 (rd x4_2 x6_1)) x8_2)))) (ds := []) (bl 15 0) (by kernel_rfl) rfl rfl ⟨(blk_cell BK142.out 0).trans rfl, (blk_cell BK142.out 1).trans rfl, hx163_0, ((HB.out.cell (World.block_lt_of_cell? w _ hw164_0)).trans hw164_0), ((HB.out.cell (World.block_lt_of_cell? w _ hw165_0)).trans hw165_0), hx166_0⟩ (fun hHeld => ?_); refine with_tabW spec_l5Minimal.tab11 spec_l5Minimal.bits11 (fun HT_ HW_ => ?_)
                  generalize wr.drew = w41 at HO_3 HO_4 HO_7 HO_152000 HO_152001 BK142 BK143 BK151 HB HR164_0 hx163_0 hx164_0 hx165_0 hx166_0 hHeld ⊢
                  refine pu_ 0 28 (bl 15 1) HT_ ?_
                  refine pu_ 1 29 (bl 15 3) HT_ ?_
                  refine pu_ 3 31 (bl 15 11) HT_ ?_
                  refine pu_ 4 32 (bl 15 27) HT_ ?_
                  refine pu_ 5 33 (bl 15 59) HT_ ?_
                  refine pu_ 9 37 (bl 15 571) HT_ ?_
                  refine tk_ 2 30 (bl 15 575) HT_ HW_ hHeld ?_
                  refine tk_ 6 34 (bl 15 639) HT_ HW_ hHeld ?_
                  refine pu_ 7 35 (bl 15 767) HT_ ?_
                  refine tk_ 8 36 (bl 15 1023) HT_ HW_ hHeld ?_
                  refine pu_ 10 38 (bl 15 2047) HT_ ?_
                  refine tk_ 11 39 (bl 15 4095) HT_ HW_ hHeld ?_
                  refine pu_ 12 40 (bl 15 8191) HT_ ?_
                  refine tk_ 13 41 (bl 15 16383) HT_ HW_ hHeld ?_
                  refine pu_ 14 9 (bl 15 32767) HT_ ?_
                  refine done_ (done_of HT_.out (by kernel_rfl)) ?_
                  try go_wp2_with (first | ((with_reducible refine gate_callee (f := 63) rfl ?_); refine gL_ (some 44) Try.func63 #[.slice (some ad163) x4_2.length co42, .int .i64 (rd t144 (rd (rd_L1 l0_1 (rd x4_2 x6_1)) x8_2))] ?_; (with_reducible refine (spec_l5Find.calls k2 _ _ x4_2 (rd t144 (rd (rd_L1 l0_1 (rd x4_2 x6_1)) x8_2)) t167 _ ?side1 ?side2 A29.out).mono ?_); (case side1 => exact rc_ ((Kd.R_reads' HO_4.out).2.2)); (case side2 => exact (Kd.R_reads' HO_4.out).2.1); rintro e w' ⟨rfl, ⟨nd, rfl⟩⟩; refine ⟨_, rfl, ?_⟩) | ((with_reducible refine gate_callee (f := 63) rfl ?_); refine gL_ (some 53) Try.func63 #[.slice (some ad163) x4_2.length co42, .int .i64 (rd t144 (rd (rd_L1 l0_1 (rd x4_2 x6_1)) x8_2))] ?_; (with_reducible refine (spec_l5Find.calls k2 _ _ x4_2 (rd t144 (rd (rd_L1 l0_1 (rd x4_2 x6_1)) x8_2)) t175 _ ?side1 ?side2 A39.out).mono ?_); (case side1 => exact rc_ ((Kd.R_reads' HO_4.out).2.2)); (case side2 => exact (Kd.R_reads' HO_4.out).2.1); rintro e w' ⟨rfl, ⟨nd, rfl⟩⟩; refine ⟨_, rfl, ?_⟩) | ((with_reducible refine gate_builtin (b := .append) (xs := #[.tmp 50, .tmp 54]) rfl ?_); at_builtin; refine Kd.R_append (Kd.int .i64) (w0 := w) w.heap.size rfl (.tmp 50) (.tmp 54) 67 3 (.int .i64 0) 8 rfl Try.underlying67 info3 rfl (by decide) (by omega) u7 x7_2 t175 [.int .i64 t175] (fun k_ => some k_ ≠ (.slice (some ad147) t144.length co9 : Value).ownBlock ∧ some k_ ≠ (.slice (some ad163) x4_2.length co42 : Value).ownBlock) (fun _ => False) rfl rfl ?aP (fun _ hk => hk.elim) ?aF ?aO ?aB ?aS ?aL ?_; (case aP => exact rfl); (case aB => exact (b3_ HB.out GE142.out GE143.out GE151.out)); (case aF => exact (fun k_ hk => ⟨Kd.fresh' (Kd.R_lt (rr_ HO_3.out)) k_ hk, Kd.fresh' (Kd.R_lt (rr_ HO_4.out)) k_ hk⟩)); (case aO => exact (rr_ HO_7.out)); (case aS => exact (below_size (b3_ HB.out GE142.out GE143.out GE151.out))); (case aL => have := LMc40.out; omega); intro v177 w43 ho hb hg hat; rw [← Ny176.out] at ho; have n0_ := am_ (Kd.R_after (ok := (fun k_ => some k_ ≠ (.slice (some ad163) x4_2.length co42 : Value).ownBlock)) (rr_ HO_3.out) hg hat); have n1_ := am_ (Kd.R_after (ok := (fun k_ => some k_ ≠ (.slice (some ad147) t144.length co9 : Value).ownBlock)) (rr_ HO_4.out) hg hat); have n2_ := am_ (Kd.R_over' (rr_ HO_152000.out) (Kd.R_typed (rr_ HO_7.out)) (by decide) hg); have n3_ := am_ (Kd.S_after (ok := (fun k_ => some k_ ≠ (.slice (some ad147) t144.length co9 : Value).ownBlock ∧ some k_ ≠ (.slice (some ad163) x4_2.length co42 : Value).ownBlock)) (by refine rs_ ?_; exact Kd.S_mono HO_152001.out (fun _ hk => ⟨⟨hk.1, hk.2.1⟩, hk.2.2⟩)) hg hat); have n4_ := am_ (blk_grown (g := gb142) (o := .cells #[.slice A0_0 l0_0.length c0_0, .slice (some ad164) l0_1.length c0_1] 27 (0, 0)) (rb_ BK142.out) hg (Kd.R_ne HO_7.out BK142.out (by decide))); have n5_ := am_ (blk_grown (g := gb143) (o := .cells #[.slice none 0 0, .slice none 0 0] 27 (0, 0)) (rb_ BK143.out) hg (Kd.R_ne HO_7.out BK143.out (by decide))); have n6_ := am_ (blk_grown (g := gb151) (o := .cells #[u152000, u152001] 27 (0, 0)) (rb_ BK151.out) hg (Kd.R_ne HO_7.out BK151.out (by decide))); have n7_ := am_ (hb); have n8_ := am_ (ho); clear HO_3; clear HO_4; clear HO_152000; clear HO_152001; clear BK142; clear BK143; clear BK151; clear HB; clear HO_7; have HO_3 := n0_; have HO_4 := n1_; have HO_152000 := n2_; have HO_152001 := n3_; have BK142 := n4_; have BK143 := n5_; have BK151 := n6_; have HB := n7_; have HO178 := n8_; clear n0_ n1_ n2_ n3_ n4_ n5_ n6_ n7_ n8_; clear ho hb hg hat))
                  go_roundg k2
                  case measure => have := HK1.out; have := HK2.out; omega
                  case rel => exact ⟨(x4_2), (y176), (wrap64 (x8_2 + 1)), (by first | rfl | (simp; done) | (simp [*]; done)), H', ⟨by have := HK1.out; have := HK2.out; omega⟩, ⟨by refine rr_ ?_; exact HO_3.out⟩, ⟨by refine rr_ ?_; exact HO_4.out⟩, ⟨by refine rr_ ?_; exact HO178.out⟩, ⟨by refine rr_ ?_; exact HO_152000.out⟩, ⟨by refine rs_ ?_; exact Kd.S_mono HO_152001.out (fun _ hk => ⟨hk.1.1, ⟨hk.1.2, hk.2⟩⟩)⟩, ⟨by refine rb_ ?_; exact BK142.out⟩, ⟨by refine rb_ ?_; exact BK143.out⟩, ⟨by refine rb_ ?_; exact BK151.out⟩, ⟨by exact zp5_0_ HB.out GE142.out GE143.out GE151.out⟩⟩
                 ·rw [if_neg c40] at H
                  exact absurd H (by simp)
               ·rw [if_neg c28] at H
                exact absurd H (by simp)
              ·rw [if_neg c27] at H
               exact absurd H (by simp)
             ·rw [if_neg c26] at H
              exact absurd H (by simp)
            ·rw [if_neg c25] at H
             exact absurd H (by simp)
           ·rw [if_neg c24] at H
            exact absurd H (by simp)
          ·rw [if_neg c23] at H
           exact absurd H (by simp)
         ·rw [if_neg c22] at H
          exact absurd H (by simp)
        ·rw [if_neg c21] at H
         exact absurd H (by simp)
       ·rw [if_neg c20] at H
        have c20b0 : decide (x8_2 < 3) = false := decide_eq_false c20
        clear c20
        by_cases c44 : 0 ≤ x6_1
        ·rw [if_pos c44] at H
         have c44b0 : decide (0 ≤ x6_1) = true := decide_eq_true c44
         clear c44
         by_cases c45 : x6_1 < (x4_2.length : Int)
         ·rw [if_pos c45] at H
          have c45b0 : decide (x6_1 < (x4_2.length : Int)) = true := decide_eq_true c45
          clear c45
          by_cases c46 : 0 ≤ (rd x4_2 x6_1)
          ·rw [if_pos c46] at H
           have c46b0 : decide (0 ≤ (rd x4_2 x6_1)) = true := decide_eq_true c46
           clear c46
           by_cases c47 : (rd x4_2 x6_1) < (l0_0.length : Int)
           ·rw [if_pos c47] at H
            have c47b0 : decide ((rd x4_2 x6_1) < (l0_0.length : Int)) = true := decide_eq_true c47
            clear c47
            by_cases c48 : x152000_1.length < 140737488355328
            ·rw [if_pos c48] at H
             have LMc48 := am_ c48
             clear c48
             obtain ⟨y157, hy157⟩ : ∃ y_ : List Bool, y_ = (x152000_1 ++ [rdOf false l0_0 (rd x4_2 x6_1)]) := ⟨_, rfl⟩
             replace H : (if x152001_1.length < 5864062014805 then (spec_l5Minimal.l0 k2 t144 x4_2 (wrap64 (x6_1 + 1)) l0_0 l0_1 y157 (x152001_1 ++ [x7_2])) else (none)) = some (r1, r2) := by first | (rw [hy157]; with_reducible exact H) | (have H2_ := (Option.bind_some _ _).symm.trans H; rw [hy157]; with_reducible exact H2_) | (have H2_ := (Option.bind_some _ _).symm.trans H; with_reducible exact H2_) | with_reducible exact H | (rw [hy157]; exact H) | exact H
             have Ny157 := am_ hy157
             clear hy157
             by_cases c49 : x152001_1.length < 5864062014805
             ·rw [if_pos c49] at H
              have LMc49 := am_ c49
              clear c49
              obtain ⟨y160, hy160⟩ : ∃ y_ : List (List Int), y_ = (x152001_1 ++ [x7_2]) := ⟨_, rfl⟩
              replace H : (spec_l5Minimal.l0 k2 t144 x4_2 (wrap64 (x6_1 + 1)) l0_0 l0_1 y157 y160) = some (r1, r2) := by first | (rw [hy160]; with_reducible exact H) | (have H2_ := (Option.bind_some _ _).symm.trans H; rw [hy160]; with_reducible exact H2_) | (have H2_ := (Option.bind_some _ _).symm.trans H; with_reducible exact H2_) | with_reducible exact H | (rw [hy160]; exact H) | exact H
              have Ny160 := am_ hy160
              clear hy160
              have H' := am_ H
              clear H
              try go_wp2
              replace HO_3 := am_ (Kd.R_drew HO_3.out)
              replace HO_4 := am_ (Kd.R_drew HO_4.out)
              replace HO_7 := am_ (Kd.R_drew HO_7.out)
              replace HO_152000 := am_ (Kd.R_drew HO_152000.out)
              replace HO_152001 := am_ (Kd.S_drew HO_152001.out)
              replace BK142 := am_ (blk_drew BK142.out)
              replace BK143 := am_ (blk_drew BK143.out)
              replace BK151 := am_ (blk_drew BK151.out)
              replace HB := am_ (below_drew1 HB.out)
              obtain ⟨Ao51, co51, eo51⟩ := Kd.R_slice HO_4.out
              (first | subst eo51 | (injection eo51 with f1_ f2_ f3_; have f4_ := f1_.symm; have f5_ := f3_.symm; clear f1_ f2_ f3_; subst f4_; subst f5_))
              have p155 : 0 ≤ (x6_1 : Int) := of_decide_eq_true ah_
              have q155 : x6_1 < (x4_2.length : Int) := of_decide_eq_true ah_
              obtain ⟨ad155, e155, hx155_0⟩ := Kd.at_int (Kd.R_reads' HO_4.out).2.2 x6_1 p155 q155
              cases e155
              replace p155 := eq_true p155
              replace q155 := eq_true q155
              have p156 : 0 ≤ ((rd x4_2 x6_1) : Int) := of_decide_eq_true ah_
              have q156 : (rd x4_2 x6_1) < (l0_0.length : Int) := of_decide_eq_true ah_
              obtain ⟨ad156, e156, hx156_0⟩ := Kd.at_bool HR0_0.out (rd x4_2 x6_1) p156 q156
              have hw156_0 := hx156_0
              cases e156
              replace hx156_0 := (HB.out.cell (World.block_lt_of_cell? w _ hx156_0)).trans hx156_0
              replace p156 := eq_true p156
              replace q156 := eq_true q156
              refine start_ (n := 14) (S := fun w' => w'.cell? ⟨gb151, 0, none⟩ = some (u152000) ∧ w'.cell? ⟨gb151, 1, none⟩ = some (u152001) ∧ w'.cell? ⟨gb142, 0, none⟩ = some (.slice (some ad156) l0_0.length c0_0) ∧ w'.cell? ⟨gb142, 1, none⟩ = some (.slice A0_1 l0_1.length c0_1) ∧ w'.cell? (ad155.add (x6_1).toNat) = some (.int .i64 (rd x4_2 x6_1)) ∧ w'.cell? (ad156.add ((rd x4_2 x6_1)).toNat) = some (.bool (rdOf false l0_0 (rd x4_2 x6_1)))) (ds := [11, 13]) (bl 14 0) (by kernel_rfl) rfl rfl ⟨(blk_cell BK151.out 0).trans rfl, (blk_cell BK151.out 1).trans rfl, (blk_cell BK142.out 0).trans rfl, (blk_cell BK142.out 1).trans rfl, hx155_0, ((HB.out.cell (World.block_lt_of_cell? w _ hw156_0)).trans hw156_0)⟩ (fun hHeld => ?_); refine with_tabW spec_l5Minimal.tab15 spec_l5Minimal.bits15 (fun HT_ HW_ => ?_)
              generalize wr.drew = w50 at HO_3 HO_4 HO_7 HO_152000 HO_152001 BK142 BK143 BK151 HB hx155_0 hx156_0 hHeld ⊢
              refine pu_ 0 56 (bl 14 1) HT_ ?_
              refine pu_ 2 58 (bl 14 5) HT_ ?_
              refine pu_ 4 60 (bl 14 21) HT_ ?_
              refine pu_ 5 61 (bl 14 53) HT_ ?_
              refine pu_ 6 62 (bl 14 117) HT_ ?_
              refine tk_ 1 57 (bl 14 119) HT_ HW_ hHeld ?_
              refine tk_ 3 59 (bl 14 127) HT_ HW_ hHeld ?_
              refine tk_ 7 63 (bl 14 255) HT_ HW_ hHeld ?_
              refine pu_ 8 64 (bl 14 511) HT_ ?_
              refine tk_ 9 65 (bl 14 1023) HT_ HW_ hHeld ?_
              refine one_ (i := 10) (N := some 66) (bl 14 2047) rfl rfl (one_of HT_.out (by kernel_rfl)) (by decide) (fun K hK => ?_)
              refine value_ (w1 := ?_) (v := ?_) (by rfl) rfl ?_ ?_
              rotate_left 2
              ·go_simp
               constructor
               ·rfl
               ·rfl
              refine hK.out _ _ ⟨(blk_cell (blk_alloc BK151.out _) 0).trans rfl, (blk_cell (blk_alloc BK151.out _) 1).trans rfl, (blk_cell (blk_alloc BK142.out _) 0).trans rfl, (blk_cell (blk_alloc BK142.out _) 1).trans rfl, (World.cell?_alloc_lt _ _ _ (World.block_lt_of_cell? _ _ (hHeld.2.2.2.2.1))).trans (hHeld.2.2.2.2.1), (World.cell?_alloc_lt _ _ _ (World.block_lt_of_cell? _ _ (((HB.out.cell (World.block_lt_of_cell? w _ hw156_0)).trans hw156_0)))).trans (((HB.out.cell (World.block_lt_of_cell? w _ hw156_0)).trans hw156_0))⟩ (fun hHeld => ?_)
              clear hK K
              refine norm_ (a' := ?_) ?_ ?_
              rotate_left
              ·show Act.put _ (some 66) _ = _
               simp only [pn_, sz_, ss_, i64_w, i32_w]
               rfl
              refine last_ (i := 11) (N := some 67) (bl 14 4095) rfl rfl (one_of HT_.out (by kernel_rfl)) (by decide) (fun K hK => ?_)
              refine Kd.R_append_step Kd.bool (w0 := w) w.heap.size (by rfl) (.tmp 57) (.tmp 66) 22 4 (.bool false) 1 rfl Try.underlying22 info4 rfl (by decide) (by omega) u152000 x152000_1 (rdOf false l0_0 (rd x4_2 x6_1)) [.bool (rdOf false l0_0 (rd x4_2 x6_1))] (fun _ => True) (fun _ => False) rfl rfl ?aP (fun _ hk => hk.elim) ?aF ?aO ?aB ?aS ?aL ?_
              (case aP => exact rfl)
              (case aB => exact (b3_ HB.out GE142.out GE143.out GE151.out))
              (case aF => exact (fun _ _ => trivial))
              (case aO => exact (rr_ HO_152000.out))
              (case aS => exact (below_size (b3_ HB.out GE142.out GE143.out GE151.out)))
              (case aL => have := LMc48.out; omega)
              intro v158 w52 ho hb hg hat
              rw [← Ny157.out] at ho
              replace HO_3 := am_ (Kd.R_over' (rr_ HO_3.out) (Kd.R_typed (rr_ HO_152000.out)) (by decide) hg)
              replace HO_4 := am_ (Kd.R_over' (rr_ HO_4.out) (Kd.R_typed (rr_ HO_152000.out)) (by decide) hg)
              replace HO_7 := am_ (Kd.R_over' (rr_ HO_7.out) (Kd.R_typed (rr_ HO_152000.out)) (by decide) hg)
              replace HO_152001 := am_ (Kd.S_over' (rs_ HO_152001.out) (Kd.R_typed (rr_ HO_152000.out)) (by decide) hg)
              replace BK142 := am_ (blk_grown (g := gb142) (o := .cells #[.slice (some ad156) l0_0.length c0_0, .slice A0_1 l0_1.length c0_1] 27 (0, 0)) (rb_ BK142.out) hg (Kd.R_ne HO_152000.out BK142.out (by decide)))
              replace BK143 := am_ (blk_grown (g := gb143) (o := .cells #[.slice none 0 0, .slice none 0 0] 27 (0, 0)) (rb_ BK143.out) hg (Kd.R_ne HO_152000.out BK143.out (by decide)))
              replace BK151 := am_ (blk_grown (g := gb151) (o := .cells #[u152000, u152001] 27 (0, 0)) (rb_ BK151.out) hg (Kd.R_ne HO_152000.out BK151.out (by decide)))
              replace HB := am_ (hb)
              replace HO159 := am_ (ho)
              clear HO_152000 ho hb hg hat
              obtain ⟨Ao53, co53, eo53⟩ := Kd.R_slice HO159.out
              (first | subst eo53 | (injection eo53 with f1_ f2_ f3_; have f4_ := f1_.symm; have f5_ := f3_.symm; clear f1_ f2_ f3_; subst f4_; subst f5_))
              refine hK.out _ _ ?_
              clear hK K
              refine norm_ (a' := ?_) ?_ ?_
              rotate_left
              ·show Act.put _ (some 67) _ = _
               simp only [pn_, sz_, ss_, i64_w, i32_w]
               rfl
              refine pu_ 12 68 (bl 14 8191) HT_ ?_
              refine last_ (i := 13) (N := none) (bl 14 16383) rfl rfl (one_of HT_.out (by kernel_rfl)) (by decide) (fun K hK => ?_)
              have hs54 : w52.cell? ⟨gb151, 0, none⟩ = some (u152000) := (blk_cell BK151.out 0).trans rfl
              have hfs54 := blk_frozen BK151.out 0
              have hns54_0 := NB142_151.out
              have hns54_1 := NB143_151.out
              have hms54_0 := NB151_142.out
              have hms54_1 := NB151_143.out
              refine skip_ (w1 := ?_) (by rfl) rfl ?_ ?_
              rotate_left
              ·go_simp
               rfl
              refine hK.out _ _ ?_
              clear hK K
              refine done_ (done_of HT_.out (by kernel_rfl)) ?_
              have n0_ : Aside0 (Kd.R (Kd.int .i64) 3 (w52.setCell ⟨gb151, 0, none⟩ (.slice Ao53 y157.length co53)) w.heap.size (fun k_ => some k_ ≠ (.slice (some ad155) x4_2.length co51 : Value).ownBlock ∧ some k_ ≠ (u7 : Value).ownBlock) (.slice (some ad147) t144.length co9) t144) := ⟨by refine rr_ ?_; exact Kd.R_mono (Kd.R_far (p := ⟨gb151, 0, none⟩) (Kd.R_types HO_3.out BK151.out (by decide)) (fun _ hk => hk.2) (.slice Ao53 y157.length co53)) (fun _ hk => ⟨hk.1.1, hk.1.2⟩)⟩
              have n1_ : Aside0 (Kd.R (Kd.int .i64) 3 (w52.setCell ⟨gb151, 0, none⟩ (.slice Ao53 y157.length co53)) w.heap.size (fun k_ => some k_ ≠ (.slice (some ad147) t144.length co9 : Value).ownBlock ∧ some k_ ≠ (u7 : Value).ownBlock) (.slice (some ad155) x4_2.length co51) x4_2) := ⟨by refine rr_ ?_; exact Kd.R_mono (Kd.R_far (p := ⟨gb151, 0, none⟩) (Kd.R_types HO_4.out BK151.out (by decide)) (fun _ hk => hk.2) (.slice Ao53 y157.length co53)) (fun _ hk => ⟨hk.1.1, hk.1.2⟩)⟩
              have n2_ : Aside0 (Kd.R (Kd.int .i64) 3 (w52.setCell ⟨gb151, 0, none⟩ (.slice Ao53 y157.length co53)) w.heap.size (fun k_ => some k_ ≠ (.slice (some ad147) t144.length co9 : Value).ownBlock ∧ some k_ ≠ (.slice (some ad155) x4_2.length co51 : Value).ownBlock) u7 x7_2) := ⟨by refine rr_ ?_; exact Kd.R_mono (Kd.R_far (p := ⟨gb151, 0, none⟩) (Kd.R_types HO_7.out BK151.out (by decide)) (fun _ hk => hk.2) (.slice Ao53 y157.length co53)) (fun _ hk => ⟨hk.1.1, hk.1.2⟩)⟩
              have n3_ : Aside0 (Kd.S (Kd.slice 3 (Kd.int .i64)) 67 (w52.setCell ⟨gb151, 0, none⟩ (.slice Ao53 y157.length co53)) w.heap.size (fun k_ => some k_ ≠ (.slice (some ad147) t144.length co9 : Value).ownBlock ∧ some k_ ≠ (.slice (some ad155) x4_2.length co51 : Value).ownBlock ∧ some k_ ≠ (u7 : Value).ownBlock) u152001 x152001_1) := ⟨by refine rs_ ?_; exact Kd.S_mono (Kd.S_far (p := ⟨gb151, 0, none⟩) (Kd.S_types HO_152001.out BK151.out (by decide)) (fun _ hk => hk.2) (.slice Ao53 y157.length co53)) (fun _ hk => ⟨hk.1.1, ⟨hk.1.2.1, hk.1.2.2⟩⟩)⟩
              have n4_ : Aside0 (Kd.R Kd.bool 4 (w52.setCell ⟨gb151, 0, none⟩ (.slice Ao53 y157.length co53)) w.heap.size (fun _ => True) (.slice Ao53 y157.length co53) y157) := ⟨by refine rr_ ?_; exact Kd.R_mono (Kd.R_far (p := ⟨gb151, 0, none⟩) (Kd.R_types HO159.out BK151.out (by decide)) (fun _ hk => hk.2) (.slice Ao53 y157.length co53)) (fun _ hk => trivial)⟩
              have n5_ : Aside0 ((w52.setCell ⟨gb151, 0, none⟩ (.slice Ao53 y157.length co53)).heap[gb142]? = some (.cells #[.slice (some ad156) l0_0.length c0_0, .slice A0_1 l0_1.length c0_1] 27 (0, 0))) := ⟨by refine rb_ ?_; refine blk_far ?_ NB142_151.out _; refine rb_ ?_; exact BK142.out⟩
              have n6_ : Aside0 ((w52.setCell ⟨gb151, 0, none⟩ (.slice Ao53 y157.length co53)).heap[gb143]? = some (.cells #[.slice none 0 0, .slice none 0 0] 27 (0, 0))) := ⟨by refine rb_ ?_; refine blk_far ?_ NB143_151.out _; refine rb_ ?_; exact BK143.out⟩
              have n7_ : Aside0 ((w52.setCell ⟨gb151, 0, none⟩ (.slice Ao53 y157.length co53)).heap[gb151]? = some (.cells #[.slice Ao53 y157.length co53, u152001] 27 (0, 0))) := ⟨by refine rb_ ?_; refine blk_put (cs := #[u152000, u152001]) ?_ 0 _ rfl; refine rb_ ?_; exact BK151.out⟩
              have n8_ : Aside0 (Below w.heap.size w (w52.setCell ⟨gb151, 0, none⟩ (.slice Ao53 y157.length co53))) := ⟨by exact zp5_0_ HB.out GE142.out GE143.out GE151.out⟩
              (try clear HO_3)
              (try clear HO_4)
              (try clear HO_7)
              (try clear HO_152001)
              (try clear HO159)
              (try clear BK142)
              (try clear BK143)
              (try clear BK151)
              (try clear HB)
              generalize (w52.setCell ⟨gb151, 0, none⟩ (.slice Ao53 y157.length co53)) = w55 at n0_ n1_ n2_ n3_ n4_ n5_ n6_ n7_ n8_ ⊢
              have HO_3 := n0_; have HO_4 := n1_; have HO_7 := n2_; have HO_152001 := n3_; have HO159 := n4_; have BK142 := n5_; have BK143 := n6_; have BK151 := n7_; have HB := n8_
              clear n0_ n1_ n2_ n3_ n4_ n5_ n6_ n7_ n8_
              have hnb56 := NB151_142.out
              have hnc56 := NB142_151.out
              have hnb57 := NB151_143.out
              have hnc57 := NB143_151.out
              have hcz58_0 : w55.cell? ⟨gb151, 0, none⟩ = some (.slice Ao53 y157.length co53) := (blk_cell BK151.out 0).trans rfl
              have hcz58_1 : w55.cell? ⟨gb151, 1, none⟩ = some (u152001) := (blk_cell BK151.out 1).trans rfl
              have hfz58_0 := blk_frozen BK151.out 0
              have hfz58_1 := blk_frozen BK151.out 1
              obtain ⟨Ao60, co60, eo60⟩ := Kd.R_slice HO_7.out
              subst eo60
              try go_wp2_with (first | ((with_reducible refine gate_builtin (b := .append) (xs := #[.tmp 70, .tmp 72]) rfl ?_); at_builtin; refine Kd.S_append (Kd.slice 3 (Kd.int .i64)) (w0 := w) w.heap.size rfl (.tmp 70) (.tmp 72) 23 67 (.slice none 0 0) 24 rfl Try.underlying23 info67 rfl (by decide) (by omega) u152001 x152001_1 x7_2 [.slice Ao60 x7_2.length co60] (fun k_ => some k_ ≠ (.slice (some ad147) t144.length co9 : Value).ownBlock ∧ some k_ ≠ (.slice (some ad155) x4_2.length co51 : Value).ownBlock) (fun k_ => some k_ = (.slice Ao60 x7_2.length co60 : Value).ownBlock) rfl rfl ?aP (fun k_ hk_ => ((Kd.R_mono (ok' := fun k_ => ((fun k_ => some k_ ≠ (.slice (some ad147) t144.length co9 : Value).ownBlock ∧ some k_ ≠ (.slice (some ad155) x4_2.length co51 : Value).ownBlock)) k_ ∧ some k_ ≠ (u152001 : Value).ownBlock) (Kd.R_apart' (HO_7.out) (Kd.S_typed HO_152001.out) (by decide)) (fun k_ hk => ⟨⟨hk.1.1, hk.1.2⟩, hk.2⟩))).1 k_ hk_.symm) ?aF ?aO ?aB ?aS ?aL ?_; (case aP => exact Kd.M_row (Kd.R_mono (Kd.R_tight rfl (Kd.R_mono (ok' := fun k_ => ((fun k_ => some k_ ≠ (.slice (some ad147) t144.length co9 : Value).ownBlock ∧ some k_ ≠ (.slice (some ad155) x4_2.length co51 : Value).ownBlock)) k_ ∧ some k_ ≠ (u152001 : Value).ownBlock) (Kd.R_apart' (HO_7.out) (Kd.S_typed HO_152001.out) (by decide)) (fun k_ hk => ⟨⟨hk.1.1, hk.1.2⟩, hk.2⟩))) (fun _ h_ => h_))); (case aB => exact (b3_ HB.out GE142.out GE143.out GE151.out)); (case aF => exact (fun k_ hk => ⟨Kd.fresh' (Kd.R_lt (rr_ HO_3.out)) k_ hk, Kd.fresh' (Kd.R_lt (rr_ HO_4.out)) k_ hk⟩)); (case aO => exact (by refine rs_ ?_; exact Kd.S_mono HO_152001.out (fun k_ hk => ⟨⟨hk.1, hk.2.1⟩, fun e_ => hk.2.2 e_⟩))); (case aS => exact (below_size (b3_ HB.out GE142.out GE143.out GE151.out))); (case aL => have := LMc49.out; omega); intro v161 w59 ho hb hg hat; rw [← Ny160.out] at ho; have n0_ := am_ (Kd.R_over' (rr_ HO_3.out) (Kd.S_typed (rs_ HO_152001.out)) (by decide) hg); have n1_ := am_ (Kd.R_over' (rr_ HO_4.out) (Kd.S_typed (rs_ HO_152001.out)) (by decide) hg); have n2_ := am_ (blk_grown (g := gb142) (o := .cells #[.slice (some ad156) l0_0.length c0_0, .slice A0_1 l0_1.length c0_1] 27 (0, 0)) (rb_ BK142.out) hg (Kd.S_ne HO_152001.out BK142.out (by decide))); have n3_ := am_ (blk_grown (g := gb143) (o := .cells #[.slice none 0 0, .slice none 0 0] 27 (0, 0)) (rb_ BK143.out) hg (Kd.S_ne HO_152001.out BK143.out (by decide))); have n4_ := am_ (blk_grown (g := gb151) (o := .cells #[.slice Ao53 y157.length co53, u152001] 27 (0, 0)) (rb_ BK151.out) hg (Kd.S_ne HO_152001.out BK151.out (by decide))); have n5_ := am_ (Kd.R_over' (rr_ HO159.out) (Kd.S_typed (rs_ HO_152001.out)) (by decide) hg); have n6_ := am_ (hb); have n7_ := am_ (ho); clear HO_3; clear HO_4; clear BK142; clear BK143; clear BK151; clear HO159; clear HB; clear HO_152001; clear HO_7; have HO_3 := n0_; have HO_4 := n1_; have BK142 := n2_; have BK143 := n3_; have BK151 := n4_; have HO159 := n5_; have HB := n6_; have HO162 := n7_; clear n0_ n1_ n2_ n3_ n4_ n5_ n6_ n7_; clear ho hb hg hat; obtain ⟨Ao61, co61, eo61⟩ := Kd.S_slice HO162.out; subst eo61; have hcz62_0 : w59.cell? ⟨gb151, 0, none⟩ = some (.slice Ao53 y157.length co53) := (blk_cell BK151.out 0).trans rfl; have hcz62_1 : w59.cell? ⟨gb151, 1, none⟩ = some (u152001) := (blk_cell BK151.out 1).trans rfl; have hfz62_0 := blk_frozen BK151.out 0; have hfz62_1 := blk_frozen BK151.out 1))
              go_roundg k2
              case measure => have := HK1.out; have := HK2.out; omega
              case rel => exact ⟨(x4_2), (wrap64 (x6_1 + 1)), (y157), (y160), (.slice Ao53 y157.length co53), (.slice Ao61 y160.length co61), (by first | rfl | (simp; done) | (simp [*]; done)), H', ⟨by have := HK1.out; have := HK2.out; omega⟩, ⟨by refine rr_ ?_; exact Kd.R_mono (Kd.R_far (p := ⟨gb151, 1, none⟩) (Kd.R_types HO_3.out BK151.out (by decide)) (fun _ hk => hk.2) (.slice Ao61 y160.length co61)) (fun _ hk => hk.1.1)⟩, ⟨by refine rr_ ?_; exact Kd.R_mono (Kd.R_far (p := ⟨gb151, 1, none⟩) (Kd.R_types HO_4.out BK151.out (by decide)) (fun _ hk => hk.2) (.slice Ao61 y160.length co61)) (fun _ hk => hk.1.1)⟩, ⟨by refine rr_ ?_; exact Kd.R_mono (Kd.R_far (p := ⟨gb151, 1, none⟩) (Kd.R_types HO159.out BK151.out (by decide)) (fun _ hk => hk.2) (.slice Ao61 y160.length co61)) (fun _ hk => trivial)⟩, ⟨by refine rs_ ?_; exact Kd.S_mono (Kd.S_far (p := ⟨gb151, 1, none⟩) (Kd.S_types HO162.out BK151.out (by decide)) (fun _ hk => hk.2) (.slice Ao61 y160.length co61)) (fun _ hk => ⟨hk.1.1, hk.1.2⟩)⟩, ⟨by refine rb_ ?_; refine blk_far ?_ NB142_151.out _; refine rb_ ?_; exact BK142.out⟩, ⟨by refine rb_ ?_; refine blk_far ?_ NB143_151.out _; refine rb_ ?_; exact BK143.out⟩, ⟨by refine rb_ ?_; refine blk_put (cs := #[.slice Ao53 y157.length co53, u152001]) ?_ 1 _ rfl; refine rb_ ?_; exact BK151.out⟩, ⟨by exact zp5_0_ HB.out GE142.out GE143.out GE151.out⟩⟩
             ·rw [if_neg c49] at H
              exact absurd H (by simp)
            ·rw [if_neg c48] at H
             exact absurd H (by simp)
           ·rw [if_neg c47] at H
            exact absurd H (by simp)
          ·rw [if_neg c46] at H
           exact absurd H (by simp)
         ·rw [if_neg c45] at H
          exact absurd H (by simp)
        ·rw [if_neg c44] at H
         exact absurd H (by simp)
    ·rw [if_neg c16] at H
     have c16b0 : decide (x6_1 < (x4_1.length : Int)) = false := decide_eq_false c16
     clear c16
     simp only [Option.some.injEq, Prod.mk.injEq] at H
     obtain ⟨rfl, rfl⟩ := H
     obtain ⟨Ao63, co63, eo63⟩ := Kd.R_slice HO_4.out
     subst eo63
     have hnb64 := NB151_142.out
     have hnc64 := NB142_151.out
     have hnb65 := NB151_143.out
     have hnc65 := NB143_151.out
     have hcz66_0 : wr.cell? ⟨gb151, 0, none⟩ = some (u152000) := (blk_cell BK151.out 0).trans rfl
     have hcz66_1 : wr.cell? ⟨gb151, 1, none⟩ = some (u152001) := (blk_cell BK151.out 1).trans rfl
     have hfz66_0 := blk_frozen BK151.out 0
     have hfz66_1 := blk_frozen BK151.out 1
     obtain ⟨Ao67, co67, eo67⟩ := Kd.R_slice HO_152000.out
     subst eo67
     have hnb68 := NB143_142.out
     have hnc68 := NB142_143.out
     have hcz69_0 : wr.cell? ⟨gb143, 0, none⟩ = some (.slice none 0 0) := (blk_cell BK143.out 0).trans rfl
     have hcz69_1 : wr.cell? ⟨gb143, 1, none⟩ = some (.slice none 0 0) := (blk_cell BK143.out 1).trans rfl
     have hfz69_0 := blk_frozen BK143.out 0
     have hfz69_1 := blk_frozen BK143.out 1
     obtain ⟨Ao70, co70, eo70⟩ := Kd.S_slice HO_152001.out
     subst eo70
     go_wp2
     refine bodyPost_ret (results_cell_row rfl _ _ gb143 27 #[.slice Ao67 x152000_1.length co67, .slice Ao70 x152001_1.length co70] (0, 0) _ rfl (by refine rb_ ?_; refine blk_put (cs := #[.slice Ao67 x152000_1.length co67, .slice none 0 0]) ?_ 1 _ rfl; refine rb_ ?_; refine blk_put (cs := #[.slice none 0 0, .slice none 0 0]) ?_ 0 _ rfl; refine rb_ ?_; exact BK143.out) Try.underlying27 rfl (by kernel_rfl)) rfl ?_
     exact ⟨_, _, by first | rfl | (simp [errW_none, errW_some] <;> rfl) | (simp [*, errW_none, errW_some] <;> rfl), by refine rr_ ?_; exact Kd.R_mono (Kd.R_far (p := ⟨gb143, 1, none⟩) (Kd.R_far (p := ⟨gb143, 0, none⟩) (Kd.R_types HO_152000.out BK143.out (by decide)) (fun _ hk => hk.2) (.slice Ao67 x152000_1.length co67)) (fun _ hk => hk.2) (.slice Ao70 x152001_1.length co70)) (fun _ hk => trivial), by refine rs_ ?_; exact Kd.S_mono (Kd.S_far (p := ⟨gb143, 1, none⟩) (Kd.S_far (p := ⟨gb143, 0, none⟩) (Kd.S_types HO_152001.out BK143.out (by decide)) (fun _ hk => hk.2) (.slice Ao67 x152000_1.length co67)) (fun _ hk => hk.2) (.slice Ao70 x152001_1.length co70)) (fun _ hk => trivial), by exact zp5_0_ HB.out GE142.out GE143.out GE151.out⟩
 ·rw [if_neg c3] at H
  exact absurd H (by simp)
end Go.Proofs.Ytogamkblkoobkaa.P
end
