/- Texts of the proof of FnMinimal, put together. No condition. -/
import Derived.Test.YtogamkblkoobkaaQFnMinimal2
section
namespace Go.Proofs.Ytogamkblkoobkaa.P
open Go.RowKit Go.Proofs.YtogamkblkoobkaaW.PrintWords Go.Proofs.YtogamkblkoobkaaW.PrintLast Go.Proofs.YtogamkblkoobkaaW.PrintMore
attribute [local go_sem] max2_int min2_int max_two min_two max_three min_three max_four min_four
set_option linter.unusedVariables false
set_option linter.unusedSimpArgs false
mutual
def spec_l7Pairs.l0 : Nat → Bool → Int → Int → List Bool → List (List Int) → List Bool → List (List Int) → List Bool → List (List Int) → Option (List Bool × (List (List Int)))
  | 0, _, _, _, _, _, _, _, _, _ => none
  | k + 1, x2, x7, x9, x683000, x683001, x684000, x684001, x686000, x686001 => if x9 < (x683000.length : Int) then (spec_l7Pairs.l1 k x2 x7 x9 0 x683000 x683001 x684000 x684001 x686000 x686001) else (some (x686000, x686001))
def spec_l7Pairs.l1 : Nat → Bool → Int → Int → Int → List Bool → List (List Int) → List Bool → List (List Int) → List Bool → List (List Int) → Option (List Bool × (List (List Int)))
  | 0, _, _, _, _, _, _, _, _, _, _ => none
  | k + 1, x2, x7, x9, x10, x683000, x683001, x684000, x684001, x686000, x686001 => if x10 < x7 then (spec_l7Pairs.l2 k x2 x7 x9 x10 (([] : List Int)) 0 x683000 x683001 x684000 x684001 x686000 x686001) else (spec_l7Pairs.l0 k x2 x7 (wrap64 (x9 + 1)) x683000 x683001 x684000 x684001 x686000 x686001)
def spec_l7Pairs.l2 : Nat → Bool → Int → Int → Int → List Int → Int → List Bool → List (List Int) → List Bool → List (List Int) → List Bool → List (List Int) → Option (List Bool × (List (List Int)))
  | 0, _, _, _, _, _, _, _, _, _, _, _, _ => none
  | k + 1, x2, x7, x9, x10, x11, x12, x683000, x683001, x684000, x684001, x686000, x686001 => if x12 < 3 then (if 0 ≤ x9 then (if x9 < (x683001.length : Int) then (if 0 ≤ x12 then (if x12 < ((rd_L1 x683001 x9).length : Int) then (if 0 ≤ x10 then (if x10 < (x684001.length : Int) then (if x12 < ((rd_L1 x684001 x10).length : Int) then (if x11.length < 17592186044416 then (spec_l7Pairs.l2 k x2 x7 x9 x10 (x11 ++ [wrap64 ((wrap64 ((rd (rd_L1 x683001 x9) x12) * x7)) + (rd (rd_L1 x684001 x10) x12))]) (wrap64 (x12 + 1)) x683000 x683001 x684000 x684001 x686000 x686001) else (none)) else (none)) else (none)) else (none)) else (none)) else (none)) else (none)) else (none)) else (if 0 ≤ x9 then (if x9 < (x683000.length : Int) then (if rdOf false x683000 x9 = true then (if 0 ≤ x10 then (if x10 < (x684000.length : Int) then (if rdOf false x684000 x10 = true then (if x2 = true then (if x686000.length < 140737488355328 then (if x686001.length < 5864062014805 then (spec_l7Pairs.l1 k x2 x7 x9 (wrap64 (x10 + 1)) x683000 x683001 x684000 x684001 (x686000 ++ [!(rdOf false x683000 x9)]) (x686001 ++ [x11])) else (none)) else (none)) else (if x686000.length < 140737488355328 then (if x686001.length < 5864062014805 then (spec_l7Pairs.l1 k x2 x7 x9 (wrap64 (x10 + 1)) x683000 x683001 x684000 x684001 (x686000 ++ [false]) (x686001 ++ [x11])) else (none)) else (none))) else (if x686000.length < 140737488355328 then (if x686001.length < 5864062014805 then (spec_l7Pairs.l1 k x2 x7 x9 (wrap64 (x10 + 1)) x683000 x683001 x684000 x684001 (x686000 ++ [true]) (x686001 ++ [x11])) else (none)) else (none))) else (none)) else (none)) else (if x2 = true then (if 0 ≤ x10 then (if x10 < (x684000.length : Int) then (if rdOf false x684000 x10 = true then (if x686000.length < 140737488355328 then (if x686001.length < 5864062014805 then (spec_l7Pairs.l1 k x2 x7 x9 (wrap64 (x10 + 1)) x683000 x683001 x684000 x684001 (x686000 ++ [!(rdOf false x683000 x9)]) (x686001 ++ [x11])) else (none)) else (none)) else (if x686000.length < 140737488355328 then (if x686001.length < 5864062014805 then (spec_l7Pairs.l1 k x2 x7 x9 (wrap64 (x10 + 1)) x683000 x683001 x684000 x684001 (x686000 ++ [false]) (x686001 ++ [x11])) else (none)) else (none))) else (none)) else (none)) else (if x686000.length < 140737488355328 then (if x686001.length < 5864062014805 then (spec_l7Pairs.l1 k x2 x7 x9 (wrap64 (x10 + 1)) x683000 x683001 x684000 x684001 (x686000 ++ [false]) (x686001 ++ [x11])) else (none)) else (none)))) else (none)) else (none))
end
def spec_l7Pairs.f (k : Nat) (l0_0 : List Bool) (l0_1 : List (List Int)) (l1_0 : List Bool) (l1_1 : List (List Int)) (a2 : Bool) : Option (List Bool × (List (List Int))) := spec_l7Pairs.l0 k a2 (l1_0.length : Int) 0 l0_0 l0_1 l1_0 l1_1 ([] : List Bool) ([] : List (List Int))
theorem spec_l7Pairs.mono_l : ∀ k, (∀ y0 y1 y2 y3 y4 y5 y6 y7 y8, LeO (spec_l7Pairs.l0 k y0 y1 y2 y3 y4 y5 y6 y7 y8) (spec_l7Pairs.l0 (k + 1) y0 y1 y2 y3 y4 y5 y6 y7 y8)) ∧ (∀ y0 y1 y2 y3 y4 y5 y6 y7 y8 y9, LeO (spec_l7Pairs.l1 k y0 y1 y2 y3 y4 y5 y6 y7 y8 y9) (spec_l7Pairs.l1 (k + 1) y0 y1 y2 y3 y4 y5 y6 y7 y8 y9)) ∧ (∀ y0 y1 y2 y3 y4 y5 y6 y7 y8 y9 y10 y11, LeO (spec_l7Pairs.l2 k y0 y1 y2 y3 y4 y5 y6 y7 y8 y9 y10 y11) (spec_l7Pairs.l2 (k + 1) y0 y1 y2 y3 y4 y5 y6 y7 y8 y9 y10 y11))
 | 0 => ⟨fun _ _ _ _ _ _ _ _ _ r h => by simp [spec_l7Pairs.l0] at h, fun _ _ _ _ _ _ _ _ _ _ r h => by simp [spec_l7Pairs.l1] at h, fun _ _ _ _ _ _ _ _ _ _ _ _ r h => by simp [spec_l7Pairs.l2] at h⟩
 | k + 1 => by
  obtain ⟨ih0, ih1, ih2⟩ := spec_l7Pairs.mono_l k
  refine ⟨?_, ?_, ?_⟩
  ·intro y0 y1 y2 y3 y4 y5 y6 y7 y8
   unfold spec_l7Pairs.l0
   repeat' first
   | (with_reducible exact ih0 _ _ _ _ _ _ _ _ _)
   | (with_reducible exact ih1 _ _ _ _ _ _ _ _ _ _)
   | (with_reducible exact ih2 _ _ _ _ _ _ _ _ _ _ _ _)
   | (with_reducible exact LeO.refl _)
   | (with_reducible exact LeO.none _)
   | (with_reducible refine LeO.ite ?_ ?_)
   | (with_reducible refine LeO.bind ?_ (fun _ => ?_))
   | exact ih0 _ _ _ _ _ _ _ _ _
   | exact ih1 _ _ _ _ _ _ _ _ _ _
   | exact ih2 _ _ _ _ _ _ _ _ _ _ _ _
   | exact LeO.none _
   | refine LeO.ite ?_ ?_
   | refine LeO.bind ?_ (fun _ => ?_)
  ·intro y0 y1 y2 y3 y4 y5 y6 y7 y8 y9
   unfold spec_l7Pairs.l1
   repeat' first
   | (with_reducible exact ih0 _ _ _ _ _ _ _ _ _)
   | (with_reducible exact ih1 _ _ _ _ _ _ _ _ _ _)
   | (with_reducible exact ih2 _ _ _ _ _ _ _ _ _ _ _ _)
   | (with_reducible exact LeO.refl _)
   | (with_reducible exact LeO.none _)
   | (with_reducible refine LeO.ite ?_ ?_)
   | (with_reducible refine LeO.bind ?_ (fun _ => ?_))
   | exact ih0 _ _ _ _ _ _ _ _ _
   | exact ih1 _ _ _ _ _ _ _ _ _ _
   | exact ih2 _ _ _ _ _ _ _ _ _ _ _ _
   | exact LeO.none _
   | refine LeO.ite ?_ ?_
   | refine LeO.bind ?_ (fun _ => ?_)
  ·intro y0 y1 y2 y3 y4 y5 y6 y7 y8 y9 y10 y11
   unfold spec_l7Pairs.l2
   repeat' first
   | (with_reducible exact ih0 _ _ _ _ _ _ _ _ _)
   | (with_reducible exact ih1 _ _ _ _ _ _ _ _ _ _)
   | (with_reducible exact ih2 _ _ _ _ _ _ _ _ _ _ _ _)
   | (with_reducible exact LeO.refl _)
   | (with_reducible exact LeO.none _)
   | (with_reducible refine LeO.ite ?_ ?_)
   | (with_reducible refine LeO.bind ?_ (fun _ => ?_))
   | exact ih0 _ _ _ _ _ _ _ _ _
   | exact ih1 _ _ _ _ _ _ _ _ _ _
   | exact ih2 _ _ _ _ _ _ _ _ _ _ _ _
   | exact LeO.none _
   | refine LeO.ite ?_ ?_
   | refine LeO.bind ?_ (fun _ => ?_)
theorem spec_l7Pairs.mono : ∀ a0 a1 a2 a3 a4 k, LeO (spec_l7Pairs.f k a0 a1 a2 a3 a4) (spec_l7Pairs.f (k + 1) a0 a1 a2 a3 a4) := by
 intro a0 a1 a2 a3 a4 k
 obtain ⟨ih0, ih1, ih2⟩ := spec_l7Pairs.mono_l k
 unfold spec_l7Pairs.f
 repeat' first
   | (with_reducible exact ih0 _ _ _ _ _ _ _ _ _)
   | (with_reducible exact ih1 _ _ _ _ _ _ _ _ _ _)
   | (with_reducible exact ih2 _ _ _ _ _ _ _ _ _ _ _ _)
   | (with_reducible exact LeO.refl _)
   | (with_reducible exact LeO.none _)
   | (with_reducible refine LeO.ite ?_ ?_)
   | (with_reducible refine LeO.bind ?_ (fun _ => ?_))
   | exact ih0 _ _ _ _ _ _ _ _ _
   | exact ih1 _ _ _ _ _ _ _ _ _ _
   | exact ih2 _ _ _ _ _ _ _ _ _ _ _ _
   | exact LeO.none _
   | refine LeO.ite ?_ ?_
   | refine LeO.bind ?_ (fun _ => ?_)
def spec_l7Pairs.T13 : Bool × List (List Nat × List Nat) := (true, [([], []), ([], []), ([1], [1]), ([], []), ([2, 3], [2, 3]), ([4], [4]), ([], []), ([5, 6], [5, 6]), ([7], [7]), ([], []), ([8, 9], [8, 9]), ([], []), ([11], [11]), ([], []), ([12, 13], [12, 13]), ([14], [14]), ([], []), ([15, 16], [15, 16]), ([17], [17]), ([10, 18], [10, 18]), ([19], [19]), ([0, 20], [0, 20]), ([21, 21, 0, 1, 2, 3, 4, 5, 6, 7, 8, 9, 10, 11, 12, 13, 14, 15, 16, 17, 18, 19, 20, 21], [0, 21])])
def spec_l7Pairs.B13 : List Nat := [0, 0, 2, 0, 14, 30, 0, 126, 254, 0, 1022, 0, 2048, 0, 14336, 30720, 0, 129024, 260096, 524286, 1048574, 2097151, 4194303]
theorem spec_l7Pairs.tab13 : rtab .any (opsOf Try.f91 13) = spec_l7Pairs.T13 := by kernel_rfl
theorem spec_l7Pairs.bits13 : waitsOk spec_l7Pairs.T13.2 spec_l7Pairs.B13 = true := by kernel_rfl
def spec_l7Pairs.T14 : Bool × List (List Nat × List Nat) := (true, [([], []), ([0], [0]), ([], []), ([2], [2]), ([], []), ([3, 4], [3, 4]), ([5], [5]), ([6], [6]), ([7], [7]), ([8, 7], [7, 8]), ([7], [7]), ([9, 10, 7], [7, 9, 10]), ([11, 7], [7, 11]), ([12, 7], [7, 12]), ([7, 13], [7, 13]), ([14, 7], [14]), ([15], [15]), ([16, 15, 15], [15, 16]), ([17], [17]), ([18, 17], [17, 18]), ([17], [17]), ([19, 20, 17], [17, 19, 20]), ([21, 17], [17, 21]), ([17, 22, 15], [15, 17, 22]), ([23, 17, 15], [15, 23]), ([24], [24]), ([25, 24], [24, 25]), ([24], [24]), ([26, 27, 24], [24, 26, 27]), ([28, 24], [24, 28]), ([29, 24], [24, 29]), ([24, 30, 15], [15, 24, 30]), ([15, 31], [15, 31]), ([32], [32]), ([1, 33, 24], [1, 33]), ([0, 1, 2, 3, 4, 5, 6, 7, 8, 9, 10, 11, 12, 13, 14, 15, 16, 17, 18, 19, 20, 21, 22, 23, 24, 25, 26, 27, 28, 29, 30, 31, 32, 33, 34], []), ([35, 34, 34, 0, 1, 2, 3, 4, 5, 6, 7, 8, 9, 10, 11, 12, 13, 14, 15, 16, 17, 18, 19, 20, 21, 22, 23, 24, 25, 26, 27, 28, 29, 30, 31, 32, 33, 34], [34, 35])])
def spec_l7Pairs.B14 : List Nat := [0, 1, 0, 4, 0, 28, 60, 124, 252, 508, 252, 2044, 4092, 8188, 16380, 32764, 65532, 131068, 262140, 524284, 262140, 2097148, 4194300, 8388604, 16777212, 33554428, 67108860, 33554428, 268435452, 536870908, 1073741820, 2147483644, 4294967292, 8589934588, 17179869183, 34359738367, 68719476735]
theorem spec_l7Pairs.tab14 : rtab .any (opsOf Try.f91 14) = spec_l7Pairs.T14 := by kernel_rfl
theorem spec_l7Pairs.bits14 : waitsOk spec_l7Pairs.T14.2 spec_l7Pairs.B14 = true := by kernel_rfl
theorem zp34_0_ {p q g1 g2 g3 g4 : Prop} (h : p) (h1 : g1) (h2 : g2) (h3 : g3) (h4 : g4) (c : p → g1 → g2 → g3 → g4 → q := by intro h_ h1_ h2_ h3_ h4_; repeat (first | (with_reducible first | exact h_ | apply below_alloc | apply pw_below_drewN | apply below_drew1 | refine below_set ?_ h1_ | refine below_set ?_ h2_ | refine below_set ?_ h3_ | refine below_set ?_ h4_) | exact h_)) : q := c h h1 h2 h3 h4
set_option maxHeartbeats 8000000 in
set_option maxRecDepth 100000 in
theorem spec_l7Pairs.calls (k : Nat) (A0_0 : Option Addr) (c0_0 : Nat) (l0_0 : List Bool) (A0_1 : Option Addr) (c0_1 : Nat) (l0_1 : List (List Int)) (A1_0 : Option Addr) (c1_0 : Nat) (l1_0 : List Bool) (A1_1 : Option Addr) (c1_1 : Nat) (l1_1 : List (List Int)) (a2 : Bool) (r1 : List Bool) (r2 : List (List Int)) (w : World) (hr0_0 : Kd.C Kd.bool w A0_0 l0_0.length l0_0) (hc0_0 : l0_0.length ≤ c0_0) (hr0_1 : Kd.C (Kd.slice 3 (Kd.int .i64)) w A0_1 l0_1.length l0_1) (hc0_1 : l0_1.length ≤ c0_1) (hr1_0 : Kd.C Kd.bool w A1_0 l1_0.length l1_0) (hc1_0 : l1_0.length ≤ c1_0) (hr1_1 : Kd.C (Kd.slice 3 (Kd.int .i64)) w A1_1 l1_1.length l1_1) (hc1_1 : l1_1.length ≤ c1_1) (h : spec_l7Pairs.f k l0_0 l0_1 l1_0 l1_1 a2 = some (r1, r2)) :
  Calls Try.prog 91 #[.agg #[.slice A0_0 l0_0.length c0_0, .slice A0_1 l0_1.length c0_1], .agg #[.slice A1_0 l1_0.length c1_0, .slice A1_1 l1_1.length c1_1], .bool a2] w fun e w' => ∃ v0_ v1_ : Value, e = .returned (.agg #[v0_, v1_]) ∧ Kd.R Kd.bool 4 w' w.heap.size (fun _ => True) v0_ r1 ∧ Kd.S (Kd.slice 3 (Kd.int .i64)) 67 w' w.heap.size (fun _ => True) v1_ r2 ∧ Below w.heap.size w w' := by
 have hu27 := Try.underlying27
 have HR0_0 := am_ hr0_0
 have HC0_0 := am_ hc0_0
 clear hr0_0 hc0_0
 have HR0_1 := am_ hr0_1
 have HC0_1 := am_ hc0_1
 clear hr0_1 hc0_1
 have HR1_0 := am_ hr1_0
 have HC1_0 := am_ hc1_0
 clear hr1_0 hc1_0
 have HR1_1 := am_ hr1_1
 have HC1_1 := am_ hc1_1
 clear hr1_1 hc1_1
 have HB := am_ (Below.refl w.heap.size w)
 have H : (spec_l7Pairs.l0 k a2 (l1_0.length : Int) 0 l0_0 l0_1 l1_0 l1_1 ([] : List Bool) ([] : List (List Int))) = some (r1, r2) := h
 clear h
 have H' := am_ H
 clear H
 go_enter Try.func91, Try.ntmps91
 go_wp2_with (first | ((with_reducible refine gate_dst (N := 3) rfl ?_); refine box_event ?hg (N := 3) ?hd (cs := #[.slice A0_0 l0_0.length c0_0, .slice A0_1 l0_1.length c0_1]) (t := 27) ?hr ?_; (case hd => rfl); (case hg => rfl); (case hr => first | (go_simp; done) | (go_simp; rfl)); intro gb682 hg w4 hbox hb; replace BK682 := am_ (hbox); replace GW682 := am_ ((by rw [hg]; exact (below_size (b0_ HB.out)) : w.heap.size ≤ gb682)); replace GE682 := am_ ((by rw [hg]; exact (below_size (b0_ HB.out)) : w.heap.size ≤ gb682)); replace HB := am_ (below_step (b0_ HB.out) hb); clear hb hbox hg) | ((with_reducible refine gate_dst (N := 4) rfl ?_); refine box_event ?hg (N := 4) ?hd (cs := #[.slice A1_0 l1_0.length c1_0, .slice A1_1 l1_1.length c1_1]) (t := 27) ?hr ?_; (case hd => rfl); (case hg => rfl); (case hr => first | (go_simp; done) | (go_simp; rfl)); intro gb683 hg w5 hbox hb; have n0_ := am_ (blk_below (rb_ BK682.out) hb); have n1_ := am_ (below_step (b1_ HB.out GE682.out) hb); have n2_ := am_ (hbox); have n3_ := am_ ((by rw [hg]; exact (below_size (b1_ HB.out GE682.out)) : w.heap.size ≤ gb683)); have n4_ := am_ ((by rw [hg]; exact (below_size (b1_ HB.out GE682.out)) : w.heap.size ≤ gb683)); have n5_ := am_ ((by rw [hg]; exact Nat.ne_of_lt (blk_lt (rb_ BK682.out)) : gb682 ≠ gb683)); have n6_ := am_ ((by rw [hg]; exact Nat.ne_of_gt (blk_lt (rb_ BK682.out)) : gb683 ≠ gb682)); clear BK682; clear HB; have BK682 := n0_; have HB := n1_; have BK683 := n2_; have GW683 := n3_; have GE683 := n4_; have NB682_683 := n5_; have NB683_682 := n6_; clear n0_ n1_ n2_ n3_ n4_ n5_ n6_; clear hb hbox hg) | ((with_reducible refine gate_dst (N := 6) rfl ?_); refine box_event ?hg (N := 6) ?hd (cs := #[.slice none 0 0, .slice none 0 0]) (t := 27) ?hr ?_; (case hd => rfl); (case hg => rfl); (case hr => first | (go_simp; done) | (go_simp; rfl)); intro gb684 hg w6 hbox hb; have n0_ := am_ (blk_below (rb_ BK682.out) hb); have n1_ := am_ (blk_below (rb_ BK683.out) hb); have n2_ := am_ (below_step (b2_ HB.out GE682.out GE683.out) hb); have n3_ := am_ (hbox); have n4_ := am_ ((by rw [hg]; exact (below_size (b2_ HB.out GE682.out GE683.out)) : w.heap.size ≤ gb684)); have n5_ := am_ ((by rw [hg]; exact (below_size (b2_ HB.out GE682.out GE683.out)) : w.heap.size ≤ gb684)); have n6_ := am_ ((by rw [hg]; exact Nat.ne_of_lt (blk_lt (rb_ BK682.out)) : gb682 ≠ gb684)); have n7_ := am_ ((by rw [hg]; exact Nat.ne_of_gt (blk_lt (rb_ BK682.out)) : gb684 ≠ gb682)); have n8_ := am_ ((by rw [hg]; exact Nat.ne_of_lt (blk_lt (rb_ BK683.out)) : gb683 ≠ gb684)); have n9_ := am_ ((by rw [hg]; exact Nat.ne_of_gt (blk_lt (rb_ BK683.out)) : gb684 ≠ gb683)); clear BK682; clear BK683; clear HB; have BK682 := n0_; have BK683 := n1_; have HB := n2_; have BK684 := n3_; have GW684 := n4_; have GE684 := n5_; have NB682_684 := n6_; have NB684_682 := n7_; have NB683_684 := n8_; have NB684_683 := n9_; clear n0_ n1_ n2_ n3_ n4_ n5_ n6_ n7_ n8_ n9_; clear hb hbox hg; have hnb7 := NB683_682.out; have hnc7 := NB682_683.out; have hnb8 := NB683_684.out; have hnc8 := NB684_683.out; have hcz9_0 : w6.cell? ⟨gb683, 0, none⟩ = some (.slice A1_0 l1_0.length c1_0) := (blk_cell BK683.out 0).trans rfl; have hcz9_1 : w6.cell? ⟨gb683, 1, none⟩ = some (.slice A1_1 l1_1.length c1_1) := (blk_cell BK683.out 1).trans rfl; have hfz9_0 := blk_frozen BK683.out 0; have hfz9_1 := blk_frozen BK683.out 1) | ((with_reducible refine gate_dst (N := 8) rfl ?_); refine box_event ?hg (N := 8) ?hd (cs := #[.slice none 0 0, .slice none 0 0]) (t := 27) ?hr ?_; (case hd => rfl); (case hg => rfl); (case hr => first | (go_simp; done) | (go_simp; rfl)); intro gb685 hg w10 hbox hb; have n0_ := am_ (blk_below (rb_ BK682.out) hb); have n1_ := am_ (blk_below (rb_ BK683.out) hb); have n2_ := am_ (blk_below (rb_ BK684.out) hb); have n3_ := am_ (below_step (b3_ HB.out GE682.out GE683.out GE684.out) hb); have n4_ := am_ (hbox); have n5_ := am_ ((by rw [hg]; exact (below_size (b3_ HB.out GE682.out GE683.out GE684.out)) : w.heap.size ≤ gb685)); have n6_ := am_ ((by rw [hg]; exact (below_size (b3_ HB.out GE682.out GE683.out GE684.out)) : w.heap.size ≤ gb685)); have n7_ := am_ ((by rw [hg]; exact Nat.ne_of_lt (blk_lt (rb_ BK682.out)) : gb682 ≠ gb685)); have n8_ := am_ ((by rw [hg]; exact Nat.ne_of_gt (blk_lt (rb_ BK682.out)) : gb685 ≠ gb682)); have n9_ := am_ ((by rw [hg]; exact Nat.ne_of_lt (blk_lt (rb_ BK683.out)) : gb683 ≠ gb685)); have n10_ := am_ ((by rw [hg]; exact Nat.ne_of_gt (blk_lt (rb_ BK683.out)) : gb685 ≠ gb683)); have n11_ := am_ ((by rw [hg]; exact Nat.ne_of_lt (blk_lt (rb_ BK684.out)) : gb684 ≠ gb685)); have n12_ := am_ ((by rw [hg]; exact Nat.ne_of_gt (blk_lt (rb_ BK684.out)) : gb685 ≠ gb684)); clear BK682; clear BK683; clear BK684; clear HB; have BK682 := n0_; have BK683 := n1_; have BK684 := n2_; have HB := n3_; have BK685 := n4_; have GW685 := n5_; have GE685 := n6_; have NB682_685 := n7_; have NB685_682 := n8_; have NB683_685 := n9_; have NB685_683 := n10_; have NB684_685 := n11_; have NB685_684 := n12_; clear n0_ n1_ n2_ n3_ n4_ n5_ n6_ n7_ n8_ n9_ n10_ n11_ n12_; clear hb hbox hg; have hnb11 := NB685_682.out; have hnc11 := NB682_685.out; have hnb12 := NB685_683.out; have hnc12 := NB683_685.out; have hnb13 := NB685_684.out; have hnc13 := NB684_685.out; have hcz14_0 : w10.cell? ⟨gb685, 0, none⟩ = some (.slice none 0 0) := (blk_cell BK685.out 0).trans rfl; have hcz14_1 : w10.cell? ⟨gb685, 1, none⟩ = some (.slice none 0 0) := (blk_cell BK685.out 1).trans rfl; have hfz14_0 := blk_frozen BK685.out 0; have hfz14_1 := blk_frozen BK685.out 1))
 go_loopg [9] k (fun kq v9 w' => ∃ (x9_1 : Int) (x686000_1 : List Bool) (x686001_1 : List (List Int)) (u686000 : Value) (u686001 : Value), v9 = .int .i64 x9_1 ∧ Aside0 (spec_l7Pairs.l0 kq a2 (l1_0.length : Int) x9_1 l0_0 l0_1 l1_0 l1_1 x686000_1 x686001_1 = some (r1, r2)) ∧ Aside0 (kq ≤ k) ∧ Aside0 (Kd.R Kd.bool 4 w' w.heap.size (fun _ => True) u686000 x686000_1) ∧ Aside0 (Kd.S (Kd.slice 3 (Kd.int .i64)) 67 w' w.heap.size (fun _ => True) u686001 x686001_1) ∧ Aside0 (w'.heap[gb682]? = some (.cells #[(.slice A0_0 l0_0.length c0_0), (.slice A0_1 l0_1.length c0_1)] 27 (0, 0))) ∧ Aside0 (w'.heap[gb683]? = some (.cells #[(.slice A1_0 l1_0.length c1_0), (.slice A1_1 l1_1.length c1_1)] 27 (0, 0))) ∧ Aside0 (w'.heap[gb684]? = some (.cells #[(.slice none 0 0), (.slice none 0 0)] 27 (0, 0))) ∧ Aside0 (w'.heap[gb685]? = some (.cells #[u686000, u686001] 27 (0, 0))) ∧ Aside0 (Below w.heap.size w w'))
 case atStart => exact ⟨(0), (([] : List Bool)), (([] : List (List Int))), (.slice none 0 0), (.slice none 0 0), (by first | rfl | (simp; done) | (simp [*]; done)), H', ⟨Nat.le_refl _⟩, ⟨by first | exact Kd.R_nil _ _ _ _ _ | exact Kd.N_nil _ _ _ _ _ | exact Kd.V_nil _ _ _ _ _ | exact Kd.Q_nil _ _ _ _ _ | exact Kd.S_nil _ _ _ _ _⟩, ⟨by first | exact Kd.S_nil _ _ _ _ _ | exact Kd.N_nil _ _ _ _ _ | exact Kd.V_nil _ _ _ _ _ | exact Kd.Q_nil _ _ _ _ _ | exact Kd.R_nil _ _ _ _ _⟩, ⟨by refine rb_ ?_; refine blk_far ?_ NB682_685.out _; refine rb_ ?_; refine blk_far ?_ NB682_685.out _; refine rb_ ?_; exact BK682.out⟩, ⟨by refine rb_ ?_; refine blk_far ?_ NB683_685.out _; refine rb_ ?_; refine blk_far ?_ NB683_685.out _; refine rb_ ?_; exact BK683.out⟩, ⟨by refine rb_ ?_; refine blk_far ?_ NB684_685.out _; refine rb_ ?_; refine blk_far ?_ NB684_685.out _; refine rb_ ?_; exact BK684.out⟩, ⟨by refine rb_ ?_; refine blk_put (cs := #[.slice none 0 0, .slice none 0 0]) ?_ 1 _ rfl; refine rb_ ?_; refine blk_put (cs := #[.slice none 0 0, .slice none 0 0]) ?_ 0 _ rfl; refine rb_ ?_; exact BK685.out⟩, ⟨by exact zp34_0_ HB.out GE682.out GE683.out GE684.out GE685.out⟩⟩
 case round =>
  clear H'
  try clear c1
  try clear p2
  try clear c7
  try clear c8
  try clear c9
  try clear c11
  try clear c12
  try clear c13
  try clear hcz14_0
  try clear hcz14_1
  try clear hcz9_0
  try clear hcz9_1
  try clear hfz14_0
  try clear hfz14_1
  try clear hfz9_0
  try clear hfz9_1
  obtain ⟨x9_1, x686000_1, x686001_1, u686000, u686001, rfl, HA, HK1, HO_686000, HO_686001, BK682, BK683, BK684, BK685, HB⟩ := hrel
  cases gk with
  | zero => exact absurd HA.out (by simp [spec_l7Pairs.l0])
  | succ k1 =>
   have H := HA.out
   clear HA
   simp only [spec_l7Pairs.l0] at H
   by_cases c15 : x9_1 < (l0_0.length : Int)
   ·rw [if_pos c15] at H
    have c15b0 : decide (x9_1 < (l0_0.length : Int)) = true := decide_eq_true c15
    clear c15
    have H' := am_ H
    clear H
    have hnb16 := NB682_683.out
    have hnc16 := NB683_682.out
    have hnb17 := NB682_684.out
    have hnc17 := NB684_682.out
    have hnb18 := NB682_685.out
    have hnc18 := NB685_682.out
    have hcz19_0 : wr.cell? ⟨gb682, 0, none⟩ = some (.slice A0_0 l0_0.length c0_0) := (blk_cell BK682.out 0).trans rfl
    have hcz19_1 : wr.cell? ⟨gb682, 1, none⟩ = some (.slice A0_1 l0_1.length c0_1) := (blk_cell BK682.out 1).trans rfl
    have hfz19_0 := blk_frozen BK682.out 0
    have hfz19_1 := blk_frozen BK682.out 1
    go_wp2
    go_loopg [10] k1 (fun kq v10 w' => ∃ (x10_2 : Int) (x686000_2 : List Bool) (x686001_2 : List (List Int)) (u686000 : Value) (u686001 : Value), v10 = .int .i64 x10_2 ∧ Aside0 (spec_l7Pairs.l1 kq a2 (l1_0.length : Int) x9_1 x10_2 l0_0 l0_1 l1_0 l1_1 x686000_2 x686001_2 = some (r1, r2)) ∧ Aside0 (kq ≤ k1) ∧ Aside0 (Kd.R Kd.bool 4 w' w.heap.size (fun _ => True) u686000 x686000_2) ∧ Aside0 (Kd.S (Kd.slice 3 (Kd.int .i64)) 67 w' w.heap.size (fun _ => True) u686001 x686001_2) ∧ Aside0 (w'.heap[gb682]? = some (.cells #[(.slice A0_0 l0_0.length c0_0), (.slice A0_1 l0_1.length c0_1)] 27 (0, 0))) ∧ Aside0 (w'.heap[gb683]? = some (.cells #[(.slice A1_0 l1_0.length c1_0), (.slice A1_1 l1_1.length c1_1)] 27 (0, 0))) ∧ Aside0 (w'.heap[gb684]? = some (.cells #[(.slice none 0 0), (.slice none 0 0)] 27 (0, 0))) ∧ Aside0 (w'.heap[gb685]? = some (.cells #[u686000, u686001] 27 (0, 0))) ∧ Aside0 (Below w.heap.size w w'))
    case atStart => exact ⟨(0), (x686000_1), (x686001_1), (u686000), (u686001), (by first | rfl | (simp; done) | (simp [*]; done)), H', ⟨Nat.le_refl _⟩, ⟨by refine rr_ ?_; exact HO_686000.out⟩, ⟨by refine rs_ ?_; exact HO_686001.out⟩, ⟨by refine rb_ ?_; exact BK682.out⟩, ⟨by refine rb_ ?_; exact BK683.out⟩, ⟨by refine rb_ ?_; exact BK684.out⟩, ⟨by refine rb_ ?_; exact BK685.out⟩, ⟨by exact zp34_0_ HB.out GE682.out GE683.out GE684.out GE685.out⟩⟩
    case round =>
     clear H'
     try clear c1
     try clear p2
     try clear c7
     try clear c8
     try clear c9
     try clear c11
     try clear c12
     try clear c13
     try clear c15
     try clear c15b0
     try clear c16
     try clear c17
     try clear c18
     try clear hcz14_0
     try clear hcz14_1
     try clear hcz19_0
     try clear hcz19_1
     try clear hcz9_0
     try clear hcz9_1
     try clear hfz14_0
     try clear hfz14_1
     try clear hfz19_0
     try clear hfz19_1
     try clear hfz9_0
     try clear hfz9_1
     try clear p2
     obtain ⟨x10_2, x686000_2, x686001_2, u686000, u686001, rfl, HA, HK2, HO_686000, HO_686001, BK682, BK683, BK684, BK685, HB⟩ := hrel
     cases gk with
     | zero => exact absurd HA.out (by simp [spec_l7Pairs.l1])
     | succ k2 =>
      have H := HA.out
      clear HA
      simp only [spec_l7Pairs.l1] at H
      by_cases c20 : x10_2 < (l1_0.length : Int)
      ·rw [if_pos c20] at H
       have c20b0 : decide (x10_2 < (l1_0.length : Int)) = true := decide_eq_true c20
       clear c20
       obtain ⟨y686, hy686⟩ : ∃ y_ : List Int, y_ = (([] : List Int)) := ⟨_, rfl⟩
       replace H : (spec_l7Pairs.l2 k2 a2 (l1_0.length : Int) x9_1 x10_2 y686 0 l0_0 l0_1 l1_0 l1_1 x686000_2 x686001_2) = some (r1, r2) := by first | (rw [hy686]; with_reducible exact H) | (have H2_ := (Option.bind_some _ _).symm.trans H; rw [hy686]; with_reducible exact H2_) | (have H2_ := (Option.bind_some _ _).symm.trans H; with_reducible exact H2_) | with_reducible exact H | (rw [hy686]; exact H) | exact H
       have Ny686 := am_ hy686
       clear hy686
       have H' := am_ H
       clear H
       go_wp2_with (first | ((with_reducible refine gate_dst (N := 29) rfl ?_); refine Kd.R_lit (Kd.int .i64) _ 3 ?hg (N := 29) ?hd (xs := ([] : List Int)) (inner := []) (ok := fun _ => True) (okp := fun _ => True) ?hr ?hp (fun _ hk => hk) trivial (Below.refl _ _) (Nat.le_refl _) (by simp) ?_; (case hd => rfl); (case hg => rfl); (case hr => first | (go_simp; done) | (go_simp; rfl)); (case hp => exact (Reps.none _ _)); intro v687 w21 ho22 hb hg_ hnew_; clear hg_ hnew_; (first | rw [← Ny686.out] at ho22 | (simp only [Int.reduceToNat] at ho22; rw [← Ny686.out] at ho22)); have n0_ := am_ (Kd.R_below (rr_ HO_686000.out) hb); have n1_ := am_ (Kd.S_elder' (rs_ HO_686001.out) (Kd.R_base ho22) hb); have n2_ := am_ (Kd.R_lower ho22 (below_size (b4_ HB.out GE682.out GE683.out GE684.out GE685.out))); have n3_ := am_ (blk_below (rb_ BK682.out) hb); have n4_ := am_ (blk_below (rb_ BK683.out) hb); have n5_ := am_ (blk_below (rb_ BK684.out) hb); have n6_ := am_ (blk_below (rb_ BK685.out) hb); have n7_ := am_ (below_step (b4_ HB.out GE682.out GE683.out GE684.out GE685.out) hb); clear HO_686000; clear HO_686001; clear BK682; clear BK683; clear BK684; clear BK685; clear HB; have HO_686000 := n0_; have HO_686001 := n1_; have HO688 := n2_; have BK682 := n3_; have BK683 := n4_; have BK684 := n5_; have BK685 := n6_; have HB := n7_; clear n0_ n1_ n2_ n3_ n4_ n5_ n6_ n7_; clear hb ho22))
       go_loopg [11, 12] k2 (fun kq v11 v12 w' => ∃ (x11_3 : List Int) (x12_3 : Int), v12 = .int .i64 x12_3 ∧ Aside0 (spec_l7Pairs.l2 kq a2 (l1_0.length : Int) x9_1 x10_2 x11_3 x12_3 l0_0 l0_1 l1_0 l1_1 x686000_2 x686001_2 = some (r1, r2)) ∧ Aside0 (kq ≤ k2) ∧ Aside0 (Kd.R (Kd.int .i64) 3 w' w.heap.size (fun _ => True) v11 x11_3) ∧ Aside0 (Kd.R Kd.bool 4 w' w.heap.size (fun _ => True) u686000 x686000_2) ∧ Aside0 (Kd.S (Kd.slice 3 (Kd.int .i64)) 67 w' w.heap.size (fun k_ => some k_ ≠ (v11 : Value).ownBlock) u686001 x686001_2) ∧ Aside0 (w'.heap[gb682]? = some (.cells #[(.slice A0_0 l0_0.length c0_0), (.slice A0_1 l0_1.length c0_1)] 27 (0, 0))) ∧ Aside0 (w'.heap[gb683]? = some (.cells #[(.slice A1_0 l1_0.length c1_0), (.slice A1_1 l1_1.length c1_1)] 27 (0, 0))) ∧ Aside0 (w'.heap[gb684]? = some (.cells #[(.slice none 0 0), (.slice none 0 0)] 27 (0, 0))) ∧ Aside0 (w'.heap[gb685]? = some (.cells #[u686000, u686001] 27 (0, 0))) ∧ Aside0 (Below w.heap.size w w'))
       case atStart => exact ⟨(y686), (0), (by first | rfl | (simp; done) | (simp [*]; done)), H', ⟨Nat.le_refl _⟩, ⟨by refine rr_ ?_; exact HO688.out⟩, ⟨by refine rr_ ?_; exact HO_686000.out⟩, ⟨by refine rs_ ?_; exact Kd.S_mono HO_686001.out (fun _ hk => hk.2)⟩, ⟨by refine rb_ ?_; exact BK682.out⟩, ⟨by refine rb_ ?_; exact BK683.out⟩, ⟨by refine rb_ ?_; exact BK684.out⟩, ⟨by refine rb_ ?_; exact BK685.out⟩, ⟨by exact zp34_0_ HB.out GE682.out GE683.out GE684.out GE685.out⟩⟩
       case round =>
        clear H'
        try clear c1
        try clear c2
        try clear p2
        try clear c7
        try clear c8
        try clear c9
        try clear c11
        try clear c12
        try clear c13
        try clear c15
        try clear c15b0
        try clear c16
        try clear c17
        try clear c18
        try clear c20
        try clear c20b0
        try clear hcz14_0
        try clear hcz14_1
        try clear hcz19_0
        try clear hcz19_1
        try clear hcz9_0
        try clear hcz9_1
        try clear hfz14_0
        try clear hfz14_1
        try clear hfz19_0
        try clear hfz19_1
        try clear hfz9_0
        try clear hfz9_1
        try clear p2
        obtain ⟨x11_3, x12_3, rfl, HA, HK3, HO_11, HO_686000, HO_686001, BK682, BK683, BK684, BK685, HB⟩ := hrel
        cases gk with
        | zero => exact absurd HA.out (by simp [spec_l7Pairs.l2])
        | succ k3 =>
         have H := HA.out
         clear HA
         simp only [spec_l7Pairs.l2] at H
         by_cases c23 : x12_3 < 3
         ·rw [if_pos c23] at H
          have c23b0 : decide (x12_3 < 3) = true := decide_eq_true c23
          clear c23
          by_cases c24 : 0 ≤ x9_1
          ·rw [if_pos c24] at H
           have c24b0 : decide (0 ≤ x9_1) = true := decide_eq_true c24
           clear c24
           by_cases c25 : x9_1 < (l0_1.length : Int)
           ·rw [if_pos c25] at H
            have c25b0 : decide (x9_1 < (l0_1.length : Int)) = true := decide_eq_true c25
            clear c25
            by_cases c26 : 0 ≤ x12_3
            ·rw [if_pos c26] at H
             have c26b0 : decide (0 ≤ x12_3) = true := decide_eq_true c26
             clear c26
             by_cases c27 : x12_3 < ((rd_L1 l0_1 x9_1).length : Int)
             ·rw [if_pos c27] at H
              have c27b0 : decide (x12_3 < ((rd_L1 l0_1 x9_1).length : Int)) = true := decide_eq_true c27
              clear c27
              by_cases c28 : 0 ≤ x10_2
              ·rw [if_pos c28] at H
               have c28b0 : decide (0 ≤ x10_2) = true := decide_eq_true c28
               clear c28
               by_cases c29 : x10_2 < (l1_1.length : Int)
               ·rw [if_pos c29] at H
                have c29b0 : decide (x10_2 < (l1_1.length : Int)) = true := decide_eq_true c29
                clear c29
                by_cases c30 : x12_3 < ((rd_L1 l1_1 x10_2).length : Int)
                ·rw [if_pos c30] at H
                 have c30b0 : decide (x12_3 < ((rd_L1 l1_1 x10_2).length : Int)) = true := decide_eq_true c30
                 clear c30
                 by_cases c31 : x11_3.length < 17592186044416
                 ·rw [if_pos c31] at H
                  have LMc31 := am_ c31
                  clear c31
                  obtain ⟨y693, hy693⟩ : ∃ y_ : List Int, y_ = (x11_3 ++ [wrap64 ((wrap64 ((rd (rd_L1 l0_1 x9_1) x12_3) * (l1_0.length : Int))) + (rd (rd_L1 l1_1 x10_2) x12_3))]) := ⟨_, rfl⟩
                  replace H : (spec_l7Pairs.l2 k3 a2 (l1_0.length : Int) x9_1 x10_2 y693 (wrap64 (x12_3 + 1)) l0_0 l0_1 l1_0 l1_1 x686000_2 x686001_2) = some (r1, r2) := by first | (rw [hy693]; with_reducible exact H) | (have H2_ := (Option.bind_some _ _).symm.trans H; rw [hy693]; with_reducible exact H2_) | (have H2_ := (Option.bind_some _ _).symm.trans H; with_reducible exact H2_) | with_reducible exact H | (rw [hy693]; exact H) | exact H
                  have Ny693 := am_ hy693
                  clear hy693
                  have H' := am_ H
                  clear H
                  try go_wp2
                  replace HO_11 := am_ (Kd.R_drew HO_11.out)
                  replace HO_686000 := am_ (Kd.R_drew HO_686000.out)
                  replace HO_686001 := am_ (Kd.S_drew HO_686001.out)
                  replace BK682 := am_ (blk_drew BK682.out)
                  replace BK683 := am_ (blk_drew BK683.out)
                  replace BK684 := am_ (blk_drew BK684.out)
                  replace BK685 := am_ (blk_drew BK685.out)
                  replace HB := am_ (below_drew1 HB.out)
                  have p689 : 0 ≤ (x9_1 : Int) := of_decide_eq_true ah_
                  have q689 : x9_1 < (l0_1.length : Int) := of_decide_eq_true ah_
                  obtain ⟨ad689, A689_0, c689_0, e689, hx689_0, hl689_0, hi689_0⟩ := at_L1 HR0_1.out x9_1 p689 q689
                  have hw689_0 := hx689_0
                  cases e689
                  replace hx689_0 := (HB.out.cell (World.block_lt_of_cell? w _ hx689_0)).trans hx689_0
                  have HR689_0 := am_ hi689_0
                  have HC689_0 := am_ hl689_0
                  clear hi689_0 hl689_0
                  replace p689 := eq_true p689
                  replace q689 := eq_true q689
                  have p690 : 0 ≤ (x12_3 : Int) := of_decide_eq_true ah_
                  have q690 : x12_3 < ((rd_L1 l0_1 x9_1).length : Int) := of_decide_eq_true ah_
                  obtain ⟨ad690, e690, hx690_0⟩ := Kd.at_int HR689_0.out x12_3 p690 q690
                  have hw690_0 := hx690_0
                  cases e690
                  replace hx690_0 := (HB.out.cell (World.block_lt_of_cell? w _ hx690_0)).trans hx690_0
                  replace p690 := eq_true p690
                  replace q690 := eq_true q690
                  have p691 : 0 ≤ (x10_2 : Int) := of_decide_eq_true ah_
                  have q691 : x10_2 < (l1_1.length : Int) := of_decide_eq_true ah_
                  obtain ⟨ad691, A691_0, c691_0, e691, hx691_0, hl691_0, hi691_0⟩ := at_L1 HR1_1.out x10_2 p691 q691
                  have hw691_0 := hx691_0
                  cases e691
                  replace hx691_0 := (HB.out.cell (World.block_lt_of_cell? w _ hx691_0)).trans hx691_0
                  have HR691_0 := am_ hi691_0
                  have HC691_0 := am_ hl691_0
                  clear hi691_0 hl691_0
                  replace p691 := eq_true p691
                  replace q691 := eq_true q691
                  have p692 : 0 ≤ (x12_3 : Int) := of_decide_eq_true ah_
                  have q692 : x12_3 < ((rd_L1 l1_1 x10_2).length : Int) := of_decide_eq_true ah_
                  obtain ⟨ad692, e692, hx692_0⟩ := Kd.at_int HR691_0.out x12_3 p692 q692
                  have hw692_0 := hx692_0
                  cases e692
                  replace hx692_0 := (HB.out.cell (World.block_lt_of_cell? w _ hx692_0)).trans hx692_0
                  replace p692 := eq_true p692
                  replace q692 := eq_true q692
                  refine start_ (n := 23) (S := fun w' => w'.cell? ⟨gb682, 0, none⟩ = some (.slice A0_0 l0_0.length c0_0) ∧ w'.cell? ⟨gb682, 1, none⟩ = some (.slice (some ad689) l0_1.length c0_1) ∧ w'.cell? ⟨gb683, 0, none⟩ = some (.slice A1_0 l1_0.length c1_0) ∧ w'.cell? ⟨gb683, 1, none⟩ = some (.slice (some ad691) l1_1.length c1_1) ∧ w'.cell? (ad689.add (x9_1).toNat) = some (.slice (some ad690) (rd_L1 l0_1 x9_1).length c689_0) ∧ w'.cell? (ad690.add (x12_3).toNat) = some (.int .i64 (rd (rd_L1 l0_1 x9_1) x12_3)) ∧ w'.cell? (ad691.add (x10_2).toNat) = some (.slice (some ad692) (rd_L1 l1_1 x10_2).length c691_0) ∧ w'.cell? (ad692.add (x12_3).toNat) = some (.int .i64 (rd (rd_L1 l1_1 x10_2) x12_3))) (ds := []) (bl 23 0) (by kernel_rfl) rfl rfl ⟨(blk_cell BK682.out 0).trans rfl, (blk_cell BK682.out 1).trans rfl, (blk_cell BK683.out 0).trans rfl, (blk_cell BK683.out 1).trans rfl, ((HB.out.cell (World.block_lt_of_cell? w _ hw689_0)).trans hw689_0), ((HB.out.cell (World.block_lt_of_cell? w _ hw690_0)).trans hw690_0), ((HB.out.cell (World.block_lt_of_cell? w _ hw691_0)).trans hw691_0), ((HB.out.cell (World.block_lt_of_cell? w _ hw692_0)).trans hw692_0)⟩ (fun hHeld => ?_); refine with_tabW spec_l7Pairs.tab13 spec_l7Pairs.bits13 (fun HT_ HW_ => ?_)
                  generalize wr.drew = w32 at HO_11 HO_686000 HO_686001 BK682 BK683 BK684 BK685 HB HR689_0 HR691_0 hx689_0 hx690_0 hx691_0 hx692_0 hHeld ⊢
                  refine pu_ 0 34 (bl 23 1) HT_ ?_
                  refine pu_ 1 35 (bl 23 3) HT_ ?_
                  refine pu_ 3 37 (bl 23 11) HT_ ?_
                  refine pu_ 6 40 (bl 23 75) HT_ ?_
                  refine pu_ 9 43 (bl 23 587) HT_ ?_
                  refine pu_ 11 45 (bl 23 2635) HT_ ?_
                  refine pu_ 13 47 (bl 23 10827) HT_ ?_
                  refine pu_ 16 50 (bl 23 76363) HT_ ?_
                  refine tk_ 2 36 (bl 23 76367) HT_ HW_ hHeld ?_
                  refine pu_ 4 38 (bl 23 76383) HT_ ?_
                  refine tk_ 5 39 (bl 23 76415) HT_ HW_ hHeld ?_
                  refine pu_ 7 41 (bl 23 76543) HT_ ?_
                  refine tk_ 8 42 (bl 23 76799) HT_ HW_ hHeld ?_
                  refine pu_ 10 44 (bl 23 77823) HT_ ?_
                  refine tk_ 12 46 (bl 23 81919) HT_ HW_ hHeld ?_
                  refine pu_ 14 48 (bl 23 98303) HT_ ?_
                  refine tk_ 15 49 (bl 23 131071) HT_ HW_ hHeld ?_
                  refine pu_ 17 51 (bl 23 262143) HT_ ?_
                  refine tk_ 18 52 (bl 23 524287) HT_ HW_ hHeld ?_
                  refine pu_ 19 53 (bl 23 1048575) HT_ ?_
                  refine one_ (i := 20) (N := some 54) (bl 23 2097151) rfl rfl (one_of HT_.out (by kernel_rfl)) (by decide) (fun K hK => ?_)
                  refine value_ (w1 := ?_) (v := ?_) (by rfl) rfl ?_ ?_
                  rotate_left 2
                  ·go_simp
                   constructor
                   ·rfl
                   ·rfl
                  refine hK.out _ _ ⟨(blk_cell (blk_alloc BK682.out _) 0).trans rfl, (blk_cell (blk_alloc BK682.out _) 1).trans rfl, (blk_cell (blk_alloc BK683.out _) 0).trans rfl, (blk_cell (blk_alloc BK683.out _) 1).trans rfl, (World.cell?_alloc_lt _ _ _ (World.block_lt_of_cell? _ _ (((HB.out.cell (World.block_lt_of_cell? w _ hw689_0)).trans hw689_0)))).trans (((HB.out.cell (World.block_lt_of_cell? w _ hw689_0)).trans hw689_0)), (World.cell?_alloc_lt _ _ _ (World.block_lt_of_cell? _ _ (((HB.out.cell (World.block_lt_of_cell? w _ hw690_0)).trans hw690_0)))).trans (((HB.out.cell (World.block_lt_of_cell? w _ hw690_0)).trans hw690_0)), (World.cell?_alloc_lt _ _ _ (World.block_lt_of_cell? _ _ (((HB.out.cell (World.block_lt_of_cell? w _ hw691_0)).trans hw691_0)))).trans (((HB.out.cell (World.block_lt_of_cell? w _ hw691_0)).trans hw691_0)), (World.cell?_alloc_lt _ _ _ (World.block_lt_of_cell? _ _ (((HB.out.cell (World.block_lt_of_cell? w _ hw692_0)).trans hw692_0)))).trans (((HB.out.cell (World.block_lt_of_cell? w _ hw692_0)).trans hw692_0))⟩ (fun hHeld => ?_)
                  clear hK K
                  refine norm_ (a' := ?_) ?_ ?_
                  rotate_left
                  ·show Act.put _ (some 54) _ = _
                   simp only [pn_, sz_, ss_, i64_w, i32_w]
                   rfl
                  refine one_ (i := 21) (N := some 55) (bl 23 4194303) rfl rfl (one_of HT_.out (by kernel_rfl)) (by decide) (fun K hK => ?_)
                  refine Kd.R_append_step (Kd.int .i64) (w0 := w) w.heap.size (by rfl) (.tmp 34) (.tmp 54) 67 3 (.int .i64 0) 8 rfl Try.underlying67 info3 rfl (by decide) (by omega) u11 x11_3 (wrap64 ((wrap64 ((rd (rd_L1 l0_1 x9_1) x12_3) * (l1_0.length : Int))) + (rd (rd_L1 l1_1 x10_2) x12_3))) [.int .i64 (wrap64 ((wrap64 ((rd (rd_L1 l0_1 x9_1) x12_3) * (l1_0.length : Int))) + (rd (rd_L1 l1_1 x10_2) x12_3)))] (fun _ => True) (fun _ => False) rfl rfl ?aP (fun _ hk => hk.elim) ?aF ?aO ?aB ?aS ?aL ?_
                  (case aP => exact rfl)
                  (case aB => exact (b4_ HB.out GE682.out GE683.out GE684.out GE685.out))
                  (case aF => exact (fun _ _ => trivial))
                  (case aO => exact (rr_ HO_11.out))
                  (case aS => exact (below_size (b4_ HB.out GE682.out GE683.out GE684.out GE685.out)))
                  (case aL => have := LMc31.out; omega)
                  intro v694 w33 ho hb hg hat
                  rw [← Ny693.out] at ho
                  replace HO_686000 := am_ (Kd.R_over' (rr_ HO_686000.out) (Kd.R_typed (rr_ HO_11.out)) (by decide) hg)
                  replace HO_686001 := am_ (Kd.S_after (ok := (fun _ => True)) (by refine rs_ ?_; exact Kd.S_mono HO_686001.out (fun _ hk => ⟨trivial, hk⟩)) hg hat)
                  replace BK682 := am_ (blk_grown (g := gb682) (o := .cells #[.slice A0_0 l0_0.length c0_0, .slice (some ad689) l0_1.length c0_1] 27 (0, 0)) (rb_ BK682.out) hg (Kd.R_ne HO_11.out BK682.out (by decide)))
                  replace BK683 := am_ (blk_grown (g := gb683) (o := .cells #[.slice A1_0 l1_0.length c1_0, .slice (some ad691) l1_1.length c1_1] 27 (0, 0)) (rb_ BK683.out) hg (Kd.R_ne HO_11.out BK683.out (by decide)))
                  replace BK684 := am_ (blk_grown (g := gb684) (o := .cells #[.slice none 0 0, .slice none 0 0] 27 (0, 0)) (rb_ BK684.out) hg (Kd.R_ne HO_11.out BK684.out (by decide)))
                  replace BK685 := am_ (blk_grown (g := gb685) (o := .cells #[u686000, u686001] 27 (0, 0)) (rb_ BK685.out) hg (Kd.R_ne HO_11.out BK685.out (by decide)))
                  replace HB := am_ (hb)
                  replace HO695 := am_ (ho)
                  clear HO_11 ho hb hg hat
                  refine hK.out _ _ ⟨(blk_cell BK682.out 0).trans rfl, (blk_cell BK682.out 1).trans rfl, (blk_cell BK683.out 0).trans rfl, (blk_cell BK683.out 1).trans rfl, ((HB.out.cell (World.block_lt_of_cell? w _ hw689_0)).trans hw689_0), ((HB.out.cell (World.block_lt_of_cell? w _ hw690_0)).trans hw690_0), ((HB.out.cell (World.block_lt_of_cell? w _ hw691_0)).trans hw691_0), ((HB.out.cell (World.block_lt_of_cell? w _ hw692_0)).trans hw692_0)⟩ (fun hHeld => ?_)
                  clear hK K
                  refine norm_ (a' := ?_) ?_ ?_
                  rotate_left
                  ·show Act.put _ (some 55) _ = _
                   simp only [pn_, sz_, ss_, i64_w, i32_w]
                   rfl
                  refine pu_ 22 11 (bl 23 8388607) HT_ ?_
                  refine done_ (done_of HT_.out (by kernel_rfl)) ?_
                  try go_wp2
                  go_roundg k3
                  case measure => have := HK1.out; have := HK2.out; have := HK3.out; omega
                  case rel => exact ⟨(y693), (wrap64 (x12_3 + 1)), (by first | rfl | (simp; done) | (simp [*]; done)), H', ⟨by have := HK1.out; have := HK2.out; have := HK3.out; omega⟩, ⟨by refine rr_ ?_; exact HO695.out⟩, ⟨by refine rr_ ?_; exact HO_686000.out⟩, ⟨by refine rs_ ?_; exact Kd.S_mono HO_686001.out (fun _ hk => hk.2)⟩, ⟨by refine rb_ ?_; exact BK682.out⟩, ⟨by refine rb_ ?_; exact BK683.out⟩, ⟨by refine rb_ ?_; exact BK684.out⟩, ⟨by refine rb_ ?_; exact BK685.out⟩, ⟨by exact zp34_0_ HB.out GE682.out GE683.out GE684.out GE685.out⟩⟩
                 ·rw [if_neg c31] at H
                  exact absurd H (by simp)
                ·rw [if_neg c30] at H
                 exact absurd H (by simp)
               ·rw [if_neg c29] at H
                exact absurd H (by simp)
              ·rw [if_neg c28] at H
               exact absurd H (by simp)
             ·rw [if_neg c27] at H
              exact absurd H (by simp)
            ·rw [if_neg c26] at H
             exact absurd H (by simp)
           ·rw [if_neg c25] at H
            exact absurd H (by simp)
          ·rw [if_neg c24] at H
           exact absurd H (by simp)
         ·rw [if_neg c23] at H
          have c23b0 : decide (x12_3 < 3) = false := decide_eq_false c23
          clear c23
          by_cases c34 : 0 ≤ x9_1
          ·rw [if_pos c34] at H
           have c34b0 : decide (0 ≤ x9_1) = true := decide_eq_true c34
           clear c34
           by_cases c35 : x9_1 < (l0_0.length : Int)
           ·rw [if_pos c35] at H
            have c35b0 : decide (x9_1 < (l0_0.length : Int)) = true := decide_eq_true c35
            clear c35
            obtain ⟨bq36, hbq36⟩ : ∃ b_ : Bool, b_ = (rdOf false l0_0 x9_1) := ⟨_, rfl⟩
            replace H : (if bq36 = true then (if 0 ≤ x10_2 then (if x10_2 < (l1_0.length : Int) then (if rdOf false l1_0 x10_2 = true then (if a2 = true then (if x686000_2.length < 140737488355328 then (if x686001_2.length < 5864062014805 then (spec_l7Pairs.l1 k3 a2 (l1_0.length : Int) x9_1 (wrap64 (x10_2 + 1)) l0_0 l0_1 l1_0 l1_1 (x686000_2 ++ [!(bq36)]) (x686001_2 ++ [x11_3])) else (none)) else (none)) else (if x686000_2.length < 140737488355328 then (if x686001_2.length < 5864062014805 then (spec_l7Pairs.l1 k3 a2 (l1_0.length : Int) x9_1 (wrap64 (x10_2 + 1)) l0_0 l0_1 l1_0 l1_1 (x686000_2 ++ [false]) (x686001_2 ++ [x11_3])) else (none)) else (none))) else (if x686000_2.length < 140737488355328 then (if x686001_2.length < 5864062014805 then (spec_l7Pairs.l1 k3 a2 (l1_0.length : Int) x9_1 (wrap64 (x10_2 + 1)) l0_0 l0_1 l1_0 l1_1 (x686000_2 ++ [true]) (x686001_2 ++ [x11_3])) else (none)) else (none))) else (none)) else (none)) else (if a2 = true then (if 0 ≤ x10_2 then (if x10_2 < (l1_0.length : Int) then (if rdOf false l1_0 x10_2 = true then (if x686000_2.length < 140737488355328 then (if x686001_2.length < 5864062014805 then (spec_l7Pairs.l1 k3 a2 (l1_0.length : Int) x9_1 (wrap64 (x10_2 + 1)) l0_0 l0_1 l1_0 l1_1 (x686000_2 ++ [!(bq36)]) (x686001_2 ++ [x11_3])) else (none)) else (none)) else (if x686000_2.length < 140737488355328 then (if x686001_2.length < 5864062014805 then (spec_l7Pairs.l1 k3 a2 (l1_0.length : Int) x9_1 (wrap64 (x10_2 + 1)) l0_0 l0_1 l1_0 l1_1 (x686000_2 ++ [false]) (x686001_2 ++ [x11_3])) else (none)) else (none))) else (none)) else (none)) else (if x686000_2.length < 140737488355328 then (if x686001_2.length < 5864062014805 then (spec_l7Pairs.l1 k3 a2 (l1_0.length : Int) x9_1 (wrap64 (x10_2 + 1)) l0_0 l0_1 l1_0 l1_1 (x686000_2 ++ [false]) (x686001_2 ++ [x11_3])) else (none)) else (none)))) = some (r1, r2) := by rw [← hbq36] at H; exact H
            have Nbq36 := am_ hbq36
            clear hbq36
            by_cases c37 : bq36 = true
            ·subst c37
             have H1 : (if 0 ≤ x10_2 then (if x10_2 < (l1_0.length : Int) then (if rdOf false l1_0 x10_2 = true then (if a2 = true then (if x686000_2.length < 140737488355328 then (if x686001_2.length < 5864062014805 then (spec_l7Pairs.l1 k3 a2 (l1_0.length : Int) x9_1 (wrap64 (x10_2 + 1)) l0_0 l0_1 l1_0 l1_1 (x686000_2 ++ [!(true)]) (x686001_2 ++ [x11_3])) else (none)) else (none)) else (if x686000_2.length < 140737488355328 then (if x686001_2.length < 5864062014805 then (spec_l7Pairs.l1 k3 a2 (l1_0.length : Int) x9_1 (wrap64 (x10_2 + 1)) l0_0 l0_1 l1_0 l1_1 (x686000_2 ++ [false]) (x686001_2 ++ [x11_3])) else (none)) else (none))) else (if x686000_2.length < 140737488355328 then (if x686001_2.length < 5864062014805 then (spec_l7Pairs.l1 k3 a2 (l1_0.length : Int) x9_1 (wrap64 (x10_2 + 1)) l0_0 l0_1 l1_0 l1_1 (x686000_2 ++ [true]) (x686001_2 ++ [x11_3])) else (none)) else (none))) else (none)) else (none)) = some (r1, r2) := by rw [if_pos rfl] at H; exact H
             clear H
             have H := H1
             clear H1
             by_cases c38 : 0 ≤ x10_2
             ·rw [if_pos c38] at H
              have c38b0 : decide (0 ≤ x10_2) = true := decide_eq_true c38
              clear c38
              by_cases c39 : x10_2 < (l1_0.length : Int)
              ·rw [if_pos c39] at H
               have c39b0 : decide (x10_2 < (l1_0.length : Int)) = true := decide_eq_true c39
               clear c39
               obtain ⟨bq40, hbq40⟩ : ∃ b_ : Bool, b_ = (rdOf false l1_0 x10_2) := ⟨_, rfl⟩
               replace H : (if bq40 = true then (if a2 = true then (if x686000_2.length < 140737488355328 then (if x686001_2.length < 5864062014805 then (spec_l7Pairs.l1 k3 a2 (l1_0.length : Int) x9_1 (wrap64 (x10_2 + 1)) l0_0 l0_1 l1_0 l1_1 (x686000_2 ++ [!(true)]) (x686001_2 ++ [x11_3])) else (none)) else (none)) else (if x686000_2.length < 140737488355328 then (if x686001_2.length < 5864062014805 then (spec_l7Pairs.l1 k3 a2 (l1_0.length : Int) x9_1 (wrap64 (x10_2 + 1)) l0_0 l0_1 l1_0 l1_1 (x686000_2 ++ [false]) (x686001_2 ++ [x11_3])) else (none)) else (none))) else (if x686000_2.length < 140737488355328 then (if x686001_2.length < 5864062014805 then (spec_l7Pairs.l1 k3 a2 (l1_0.length : Int) x9_1 (wrap64 (x10_2 + 1)) l0_0 l0_1 l1_0 l1_1 (x686000_2 ++ [true]) (x686001_2 ++ [x11_3])) else (none)) else (none))) = some (r1, r2) := by rw [← hbq40] at H; exact H
               have Nbq40 := am_ hbq40
               clear hbq40
               by_cases c41 : bq40 = true
               ·subst c41
                have H1 : (if a2 = true then (if x686000_2.length < 140737488355328 then (if x686001_2.length < 5864062014805 then (spec_l7Pairs.l1 k3 a2 (l1_0.length : Int) x9_1 (wrap64 (x10_2 + 1)) l0_0 l0_1 l1_0 l1_1 (x686000_2 ++ [!(true)]) (x686001_2 ++ [x11_3])) else (none)) else (none)) else (if x686000_2.length < 140737488355328 then (if x686001_2.length < 5864062014805 then (spec_l7Pairs.l1 k3 a2 (l1_0.length : Int) x9_1 (wrap64 (x10_2 + 1)) l0_0 l0_1 l1_0 l1_1 (x686000_2 ++ [false]) (x686001_2 ++ [x11_3])) else (none)) else (none))) = some (r1, r2) := by rw [if_pos rfl] at H; exact H
                clear H
                have H := H1
                clear H1
                by_cases c42 : a2 = true
                ·subst c42
                 have H1 : (if x686000_2.length < 140737488355328 then (if x686001_2.length < 5864062014805 then (spec_l7Pairs.l1 k3 true (l1_0.length : Int) x9_1 (wrap64 (x10_2 + 1)) l0_0 l0_1 l1_0 l1_1 (x686000_2 ++ [!(true)]) (x686001_2 ++ [x11_3])) else (none)) else (none)) = some (r1, r2) := by rw [if_pos rfl] at H; exact H
                 clear H
                 have H := H1
                 clear H1
                 by_cases c43 : x686000_2.length < 140737488355328
                 ·rw [if_pos c43] at H
                  have LMc43 := am_ c43
                  clear c43
                  obtain ⟨y700, hy700⟩ : ∃ y_ : List Bool, y_ = (x686000_2 ++ [!(true)]) := ⟨_, rfl⟩
                  replace H : (if x686001_2.length < 5864062014805 then (spec_l7Pairs.l1 k3 true (l1_0.length : Int) x9_1 (wrap64 (x10_2 + 1)) l0_0 l0_1 l1_0 l1_1 y700 (x686001_2 ++ [x11_3])) else (none)) = some (r1, r2) := by first | (rw [hy700]; with_reducible exact H) | (have H2_ := (Option.bind_some _ _).symm.trans H; rw [hy700]; with_reducible exact H2_) | (have H2_ := (Option.bind_some _ _).symm.trans H; with_reducible exact H2_) | with_reducible exact H | (rw [hy700]; exact H) | exact H
                  have Ny700 := am_ hy700
                  clear hy700
                  by_cases c44 : x686001_2.length < 5864062014805
                  ·rw [if_pos c44] at H
                   have LMc44 := am_ c44
                   clear c44
                   obtain ⟨y703, hy703⟩ : ∃ y_ : List (List Int), y_ = (x686001_2 ++ [x11_3]) := ⟨_, rfl⟩
                   replace H : (spec_l7Pairs.l1 k3 true (l1_0.length : Int) x9_1 (wrap64 (x10_2 + 1)) l0_0 l0_1 l1_0 l1_1 y700 y703) = some (r1, r2) := by first | (rw [hy703]; with_reducible exact H) | (have H2_ := (Option.bind_some _ _).symm.trans H; rw [hy703]; with_reducible exact H2_) | (have H2_ := (Option.bind_some _ _).symm.trans H; with_reducible exact H2_) | with_reducible exact H | (rw [hy703]; exact H) | exact H
                   have Ny703 := am_ hy703
                   clear hy703
                   have H' := am_ H
                   clear H
                   try go_wp2
                   replace HO_11 := am_ (Kd.R_drew HO_11.out)
                   replace HO_686000 := am_ (Kd.R_drew HO_686000.out)
                   replace HO_686001 := am_ (Kd.S_drew HO_686001.out)
                   replace BK682 := am_ (blk_drew BK682.out)
                   replace BK683 := am_ (blk_drew BK683.out)
                   replace BK684 := am_ (blk_drew BK684.out)
                   replace BK685 := am_ (blk_drew BK685.out)
                   replace HB := am_ (below_drew1 HB.out)
                   have p696 : 0 ≤ (x9_1 : Int) := of_decide_eq_true ah_
                   have q696 : x9_1 < (l0_0.length : Int) := of_decide_eq_true ah_
                   obtain ⟨ad696, e696, hx696_0⟩ := Kd.at_bool HR0_0.out x9_1 p696 q696
                   have hw696_0 := hx696_0
                   (try rw [← Nbq36.out] at hx696_0)
                   (try rw [← Nbq36.out] at hw696_0)
                   (try rw [← Nbq40.out] at hx696_0)
                   (try rw [← Nbq40.out] at hw696_0)
                   cases e696
                   replace hx696_0 := (HB.out.cell (World.block_lt_of_cell? w _ hx696_0)).trans hx696_0
                   replace p696 := eq_true p696
                   replace q696 := eq_true q696
                   have p697 : 0 ≤ (x10_2 : Int) := of_decide_eq_true ah_
                   have q697 : x10_2 < (l1_0.length : Int) := of_decide_eq_true ah_
                   obtain ⟨ad697, e697, hx697_0⟩ := Kd.at_bool HR1_0.out x10_2 p697 q697
                   have hw697_0 := hx697_0
                   (try rw [← Nbq36.out] at hx697_0)
                   (try rw [← Nbq36.out] at hw697_0)
                   (try rw [← Nbq40.out] at hx697_0)
                   (try rw [← Nbq40.out] at hw697_0)
                   cases e697
                   replace hx697_0 := (HB.out.cell (World.block_lt_of_cell? w _ hx697_0)).trans hx697_0
                   replace p697 := eq_true p697
                   replace q697 := eq_true q697
                   have p698 : 0 ≤ (x10_2 : Int) := of_decide_eq_true ah_
                   have q698 : x10_2 < (l1_0.length : Int) := of_decide_eq_true ah_
                   obtain ⟨ad698, e698, hx698_0⟩ := Kd.at_bool HR1_0.out x10_2 p698 q698
                   have hw698_0 := hx698_0
                   (try rw [← Nbq36.out] at hx698_0)
                   (try rw [← Nbq36.out] at hw698_0)
                   (try rw [← Nbq40.out] at hx698_0)
                   (try rw [← Nbq40.out] at hw698_0)
                   obtain rfl : ad697 = ad698 := (by injection e698)
                   replace hx698_0 := (HB.out.cell (World.block_lt_of_cell? w _ hx698_0)).trans hx698_0
                   replace p698 := eq_true p698
                   replace q698 := eq_true q698
                   have p699 : 0 ≤ (x9_1 : Int) := of_decide_eq_true ah_
                   have q699 : x9_1 < (l0_0.length : Int) := of_decide_eq_true ah_
                   obtain ⟨ad699, e699, hx699_0⟩ := Kd.at_bool HR0_0.out x9_1 p699 q699
                   have hw699_0 := hx699_0
                   (try rw [← Nbq36.out] at hx699_0)
                   (try rw [← Nbq36.out] at hw699_0)
                   (try rw [← Nbq40.out] at hx699_0)
                   (try rw [← Nbq40.out] at hw699_0)
                   obtain rfl : ad696 = ad699 := (by injection e699)
                   replace hx699_0 := (HB.out.cell (World.block_lt_of_cell? w _ hx699_0)).trans hx699_0
                   replace p699 := eq_true p699
                   replace q699 := eq_true q699
                   refine start_ (n := 37) (S := fun w' => w'.cell? ⟨gb685, 0, none⟩ = some (u686000) ∧ w'.cell? ⟨gb685, 1, none⟩ = some (u686001) ∧ w'.cell? ⟨gb682, 0, none⟩ = some (.slice (some ad696) l0_0.length c0_0) ∧ w'.cell? ⟨gb682, 1, none⟩ = some (.slice A0_1 l0_1.length c0_1) ∧ w'.cell? ⟨gb683, 0, none⟩ = some (.slice (some ad697) l1_0.length c1_0) ∧ w'.cell? ⟨gb683, 1, none⟩ = some (.slice A1_1 l1_1.length c1_1) ∧ w'.cell? (ad696.add (x9_1).toNat) = some (.bool true) ∧ w'.cell? (ad697.add (x10_2).toNat) = some (.bool true) ∧ w'.cell? (ad697.add (x10_2).toNat) = some (.bool (true)) ∧ w'.cell? (ad696.add (x9_1).toNat) = some (.bool (true))) (ds := [36]) (bl 37 0) (by kernel_rfl) rfl rfl ⟨(blk_cell BK685.out 0).trans rfl, (blk_cell BK685.out 1).trans rfl, (blk_cell BK682.out 0).trans rfl, (blk_cell BK682.out 1).trans rfl, (blk_cell BK683.out 0).trans rfl, (blk_cell BK683.out 1).trans rfl, ((HB.out.cell (World.block_lt_of_cell? w _ hw696_0)).trans hw696_0), ((HB.out.cell (World.block_lt_of_cell? w _ hw697_0)).trans hw697_0), ((HB.out.cell (World.block_lt_of_cell? w _ hw698_0)).trans hw698_0), ((HB.out.cell (World.block_lt_of_cell? w _ hw699_0)).trans hw699_0)⟩ (fun hHeld => ?_); refine with_tabW spec_l7Pairs.tab14 spec_l7Pairs.bits14 (fun HT_ HW_ => ?_)
                   generalize wr.drew = w45 at HO_11 HO_686000 HO_686001 BK682 BK683 BK684 BK685 HB hx696_0 hx697_0 hx698_0 hx699_0 hHeld ⊢
                   refine pu_ 0 56 (bl 37 1) HT_ ?_
                   refine pu_ 2 58 (bl 37 5) HT_ ?_
                   refine pu_ 4 60 (bl 37 21) HT_ ?_
                   refine tk_ 1 57 (bl 37 23) HT_ HW_ hHeld ?_
                   refine tk_ 3 59 (bl 37 31) HT_ HW_ hHeld ?_
                   refine pu_ 5 61 (bl 37 63) HT_ ?_
                   refine tk_ 6 62 (bl 37 127) HT_ HW_ hHeld ?_
                   refine pu_ 7 63 (bl 37 255) HT_ ?_
                   refine pu_ 8 64 (bl 37 511) HT_ ?_
                   refine pu_ 10 66 (bl 37 1535) HT_ ?_
                   refine tk_ 9 65 (bl 37 2047) HT_ HW_ hHeld ?_
                   refine pu_ 11 67 (bl 37 4095) HT_ ?_
                   refine tk_ 12 68 (bl 37 8191) HT_ HW_ hHeld ?_
                   refine pu_ 13 69 (bl 37 16383) HT_ ?_
                   refine pu_ 14 70 (bl 37 32767) HT_ ?_
                   refine pu_ 15 71 (bl 37 65535) HT_ ?_
                   refine pu_ 16 72 (bl 37 131071) HT_ ?_
                   refine pu_ 17 73 (bl 37 262143) HT_ ?_
                   refine pu_ 18 74 (bl 37 524287) HT_ ?_
                   refine pu_ 20 76 (bl 37 1572863) HT_ ?_
                   refine tk_ 19 75 (bl 37 2097151) HT_ HW_ hHeld ?_
                   refine pu_ 21 77 (bl 37 4194303) HT_ ?_
                   refine tk_ 22 78 (bl 37 8388607) HT_ HW_ hHeld ?_
                   refine pu_ 23 79 (bl 37 16777215) HT_ ?_
                   refine pu_ 24 80 (bl 37 33554431) HT_ ?_
                   refine pu_ 25 81 (bl 37 67108863) HT_ ?_
                   refine pu_ 27 83 (bl 37 201326591) HT_ ?_
                   refine tk_ 26 82 (bl 37 268435455) HT_ HW_ hHeld ?_
                   refine pu_ 28 84 (bl 37 536870911) HT_ ?_
                   refine tk_ 29 85 (bl 37 1073741823) HT_ HW_ hHeld ?_
                   refine pu_ 30 86 (bl 37 2147483647) HT_ ?_
                   refine pu_ 31 87 (bl 37 4294967295) HT_ ?_
                   refine pu_ 32 88 (bl 37 8589934591) HT_ ?_
                   refine one_ (i := 33) (N := some 89) (bl 37 17179869183) rfl rfl (one_of HT_.out (by kernel_rfl)) (by decide) (fun K hK => ?_)
                   refine value_ (w1 := ?_) (v := ?_) (by rfl) rfl ?_ ?_
                   rotate_left 2
                   ·go_simp
                    constructor
                    ·rfl
                    ·rfl
                   refine hK.out _ _ ⟨(blk_cell (blk_alloc BK685.out _) 0).trans rfl, (blk_cell (blk_alloc BK685.out _) 1).trans rfl, (blk_cell (blk_alloc BK682.out _) 0).trans rfl, (blk_cell (blk_alloc BK682.out _) 1).trans rfl, (blk_cell (blk_alloc BK683.out _) 0).trans rfl, (blk_cell (blk_alloc BK683.out _) 1).trans rfl, (World.cell?_alloc_lt _ _ _ (World.block_lt_of_cell? _ _ (((HB.out.cell (World.block_lt_of_cell? w _ hw696_0)).trans hw696_0)))).trans (((HB.out.cell (World.block_lt_of_cell? w _ hw696_0)).trans hw696_0)), (World.cell?_alloc_lt _ _ _ (World.block_lt_of_cell? _ _ (((HB.out.cell (World.block_lt_of_cell? w _ hw697_0)).trans hw697_0)))).trans (((HB.out.cell (World.block_lt_of_cell? w _ hw697_0)).trans hw697_0)), (World.cell?_alloc_lt _ _ _ (World.block_lt_of_cell? _ _ (((HB.out.cell (World.block_lt_of_cell? w _ hw698_0)).trans hw698_0)))).trans (((HB.out.cell (World.block_lt_of_cell? w _ hw698_0)).trans hw698_0)), (World.cell?_alloc_lt _ _ _ (World.block_lt_of_cell? _ _ (((HB.out.cell (World.block_lt_of_cell? w _ hw699_0)).trans hw699_0)))).trans (((HB.out.cell (World.block_lt_of_cell? w _ hw699_0)).trans hw699_0))⟩ (fun hHeld => ?_)
                   clear hK K
                   refine norm_ (a' := ?_) ?_ ?_
                   rotate_left
                   ·show Act.put _ (some 89) _ = _
                    simp only [pn_, sz_, ss_, i64_w, i32_w]
                    rfl
                   refine one_ (i := 34) (N := some 90) (bl 37 34359738367) rfl rfl (one_of HT_.out (by kernel_rfl)) (by decide) (fun K hK => ?_)
                   refine Kd.R_append_step Kd.bool (w0 := w) w.heap.size (by rfl) (.tmp 57) (.tmp 89) 22 4 (.bool false) 1 rfl Try.underlying22 info4 rfl (by decide) (by omega) u686000 x686000_2 (!(true)) [.bool (!(true))] (fun _ => True) (fun _ => False) rfl rfl ?aP (fun _ hk => hk.elim) ?aF ?aO ?aB ?aS ?aL ?_
                   (case aP => exact rfl)
                   (case aB => exact (b4_ HB.out GE682.out GE683.out GE684.out GE685.out))
                   (case aF => exact (fun _ _ => trivial))
                   (case aO => exact (rr_ HO_686000.out))
                   (case aS => exact (below_size (b4_ HB.out GE682.out GE683.out GE684.out GE685.out)))
                   (case aL => have := LMc43.out; omega)
                   intro v701 w46 ho hb hg hat
                   rw [← Ny700.out] at ho
                   replace HO_11 := am_ (Kd.R_over' (rr_ HO_11.out) (Kd.R_typed (rr_ HO_686000.out)) (by decide) hg)
                   replace HO_686001 := am_ (Kd.S_over' (rs_ HO_686001.out) (Kd.R_typed (rr_ HO_686000.out)) (by decide) hg)
                   replace BK682 := am_ (blk_grown (g := gb682) (o := .cells #[.slice (some ad696) l0_0.length c0_0, .slice A0_1 l0_1.length c0_1] 27 (0, 0)) (rb_ BK682.out) hg (Kd.R_ne HO_686000.out BK682.out (by decide)))
                   replace BK683 := am_ (blk_grown (g := gb683) (o := .cells #[.slice (some ad697) l1_0.length c1_0, .slice A1_1 l1_1.length c1_1] 27 (0, 0)) (rb_ BK683.out) hg (Kd.R_ne HO_686000.out BK683.out (by decide)))
                   replace BK684 := am_ (blk_grown (g := gb684) (o := .cells #[.slice none 0 0, .slice none 0 0] 27 (0, 0)) (rb_ BK684.out) hg (Kd.R_ne HO_686000.out BK684.out (by decide)))
                   replace BK685 := am_ (blk_grown (g := gb685) (o := .cells #[u686000, u686001] 27 (0, 0)) (rb_ BK685.out) hg (Kd.R_ne HO_686000.out BK685.out (by decide)))
                   replace HB := am_ (hb)
                   replace HO702 := am_ (ho)
                   clear HO_686000 ho hb hg hat
                   obtain ⟨Ao47, co47, eo47⟩ := Kd.R_slice HO702.out
                   (first | subst eo47 | (injection eo47 with f1_ f2_ f3_; have f4_ := f1_.symm; have f5_ := f3_.symm; clear f1_ f2_ f3_; subst f4_; subst f5_))
                   refine hK.out _ _ ⟨(blk_cell BK685.out 0).trans rfl, (blk_cell BK685.out 1).trans rfl, (blk_cell BK682.out 0).trans rfl, (blk_cell BK682.out 1).trans rfl, (blk_cell BK683.out 0).trans rfl, (blk_cell BK683.out 1).trans rfl, ((HB.out.cell (World.block_lt_of_cell? w _ hw696_0)).trans hw696_0), ((HB.out.cell (World.block_lt_of_cell? w _ hw697_0)).trans hw697_0), ((HB.out.cell (World.block_lt_of_cell? w _ hw698_0)).trans hw698_0), ((HB.out.cell (World.block_lt_of_cell? w _ hw699_0)).trans hw699_0)⟩ (fun hHeld => ?_)
                   clear hK K
                   refine norm_ (a' := ?_) ?_ ?_
                   rotate_left
                   ·show Act.put _ (some 90) _ = _
                    simp only [pn_, sz_, ss_, i64_w, i32_w]
                    rfl
                   refine pu_ 35 91 (bl 37 68719476735) HT_ ?_
                   refine last_ (i := 36) (N := none) (bl 37 137438953471) rfl rfl (one_of HT_.out (by kernel_rfl)) (by decide) (fun K hK => ?_)
                   have hs48 : w46.cell? ⟨gb685, 0, none⟩ = some (u686000) := (blk_cell BK685.out 0).trans rfl
                   have hfs48 := blk_frozen BK685.out 0
                   have hns48_0 := NB682_685.out
                   have hns48_1 := NB683_685.out
                   have hns48_2 := NB684_685.out
                   have hms48_0 := NB685_682.out
                   have hms48_1 := NB685_683.out
                   have hms48_2 := NB685_684.out
                   refine skip_ (w1 := ?_) (by rfl) rfl ?_ ?_
                   rotate_left
                   ·go_simp
                    rfl
                   refine hK.out _ _ ?_
                   clear hK K
                   refine done_ (done_of HT_.out (by kernel_rfl)) ?_
                   have n0_ : Aside0 (Kd.R (Kd.int .i64) 3 (w46.setCell ⟨gb685, 0, none⟩ (.slice Ao47 y700.length co47)) w.heap.size (fun _ => True) u11 x11_3) := ⟨by refine rr_ ?_; exact Kd.R_mono (Kd.R_far (p := ⟨gb685, 0, none⟩) (Kd.R_types HO_11.out BK685.out (by decide)) (fun _ hk => hk.2) (.slice Ao47 y700.length co47)) (fun _ hk => trivial)⟩
                   have n1_ : Aside0 (Kd.S (Kd.slice 3 (Kd.int .i64)) 67 (w46.setCell ⟨gb685, 0, none⟩ (.slice Ao47 y700.length co47)) w.heap.size (fun k_ => some k_ ≠ (u11 : Value).ownBlock) u686001 x686001_2) := ⟨by refine rs_ ?_; exact Kd.S_mono (Kd.S_far (p := ⟨gb685, 0, none⟩) (Kd.S_types HO_686001.out BK685.out (by decide)) (fun _ hk => hk.2) (.slice Ao47 y700.length co47)) (fun _ hk => hk.1)⟩
                   have n2_ : Aside0 (Kd.R Kd.bool 4 (w46.setCell ⟨gb685, 0, none⟩ (.slice Ao47 y700.length co47)) w.heap.size (fun _ => True) (.slice Ao47 y700.length co47) y700) := ⟨by refine rr_ ?_; exact Kd.R_mono (Kd.R_far (p := ⟨gb685, 0, none⟩) (Kd.R_types HO702.out BK685.out (by decide)) (fun _ hk => hk.2) (.slice Ao47 y700.length co47)) (fun _ hk => trivial)⟩
                   have n3_ : Aside0 ((w46.setCell ⟨gb685, 0, none⟩ (.slice Ao47 y700.length co47)).heap[gb682]? = some (.cells #[.slice (some ad696) l0_0.length c0_0, .slice A0_1 l0_1.length c0_1] 27 (0, 0))) := ⟨by refine rb_ ?_; refine blk_far ?_ NB682_685.out _; refine rb_ ?_; exact BK682.out⟩
                   have n4_ : Aside0 ((w46.setCell ⟨gb685, 0, none⟩ (.slice Ao47 y700.length co47)).heap[gb683]? = some (.cells #[.slice (some ad697) l1_0.length c1_0, .slice A1_1 l1_1.length c1_1] 27 (0, 0))) := ⟨by refine rb_ ?_; refine blk_far ?_ NB683_685.out _; refine rb_ ?_; exact BK683.out⟩
                   have n5_ : Aside0 ((w46.setCell ⟨gb685, 0, none⟩ (.slice Ao47 y700.length co47)).heap[gb684]? = some (.cells #[.slice none 0 0, .slice none 0 0] 27 (0, 0))) := ⟨by refine rb_ ?_; refine blk_far ?_ NB684_685.out _; refine rb_ ?_; exact BK684.out⟩
                   have n6_ : Aside0 ((w46.setCell ⟨gb685, 0, none⟩ (.slice Ao47 y700.length co47)).heap[gb685]? = some (.cells #[.slice Ao47 y700.length co47, u686001] 27 (0, 0))) := ⟨by refine rb_ ?_; refine blk_put (cs := #[u686000, u686001]) ?_ 0 _ rfl; refine rb_ ?_; exact BK685.out⟩
                   have n7_ : Aside0 (Below w.heap.size w (w46.setCell ⟨gb685, 0, none⟩ (.slice Ao47 y700.length co47))) := ⟨by exact zp34_0_ HB.out GE682.out GE683.out GE684.out GE685.out⟩
                   (try clear HO_11)
                   (try clear HO_686001)
                   (try clear HO702)
                   (try clear BK682)
                   (try clear BK683)
                   (try clear BK684)
                   (try clear BK685)
                   (try clear HB)
                   generalize (w46.setCell ⟨gb685, 0, none⟩ (.slice Ao47 y700.length co47)) = w49 at n0_ n1_ n2_ n3_ n4_ n5_ n6_ n7_ ⊢
                   have HO_11 := n0_; have HO_686001 := n1_; have HO702 := n2_; have BK682 := n3_; have BK683 := n4_; have BK684 := n5_; have BK685 := n6_; have HB := n7_
                   clear n0_ n1_ n2_ n3_ n4_ n5_ n6_ n7_
                   have hnb50 := NB685_682.out
                   have hnc50 := NB682_685.out
                   have hnb51 := NB685_683.out
                   have hnc51 := NB683_685.out
                   have hnb52 := NB685_684.out
                   have hnc52 := NB684_685.out
                   have hcz53_0 : w49.cell? ⟨gb685, 0, none⟩ = some (.slice Ao47 y700.length co47) := (blk_cell BK685.out 0).trans rfl
                   have hcz53_1 : w49.cell? ⟨gb685, 1, none⟩ = some (u686001) := (blk_cell BK685.out 1).trans rfl
                   have hfz53_0 := blk_frozen BK685.out 0
                   have hfz53_1 := blk_frozen BK685.out 1
                   obtain ⟨Ao55, co55, eo55⟩ := Kd.R_slice HO_11.out
                   subst eo55
                   try go_wp2_with (first | ((with_reducible refine gate_builtin (b := .append) (xs := #[.tmp 93, .tmp 95]) rfl ?_); at_builtin; refine Kd.S_append (Kd.slice 3 (Kd.int .i64)) (w0 := w) w.heap.size rfl (.tmp 93) (.tmp 95) 23 67 (.slice none 0 0) 24 rfl Try.underlying23 info67 rfl (by decide) (by omega) u686001 x686001_2 x11_3 [.slice Ao55 x11_3.length co55] (fun _ => True) (fun k_ => some k_ = (.slice Ao55 x11_3.length co55 : Value).ownBlock) rfl rfl ?aP (fun k_ hk_ => ((Kd.R_mono (ok' := fun k_ => ((fun _ => True)) k_ ∧ some k_ ≠ (u686001 : Value).ownBlock) (Kd.R_apart' (HO_11.out) (Kd.S_typed HO_686001.out) (by decide)) (fun k_ hk => ⟨trivial, hk.2⟩))).1 k_ hk_.symm) ?aF ?aO ?aB ?aS ?aL ?_; (case aP => exact Kd.M_row (Kd.R_mono (Kd.R_tight rfl (Kd.R_mono (ok' := fun k_ => ((fun _ => True)) k_ ∧ some k_ ≠ (u686001 : Value).ownBlock) (Kd.R_apart' (HO_11.out) (Kd.S_typed HO_686001.out) (by decide)) (fun k_ hk => ⟨trivial, hk.2⟩))) (fun _ h_ => h_))); (case aB => exact (b4_ HB.out GE682.out GE683.out GE684.out GE685.out)); (case aF => exact (fun _ _ => trivial)); (case aO => exact (by refine rs_ ?_; exact Kd.S_mono HO_686001.out (fun k_ hk => ⟨trivial, fun e_ => hk e_⟩))); (case aS => exact (below_size (b4_ HB.out GE682.out GE683.out GE684.out GE685.out))); (case aL => have := LMc44.out; omega); intro v704 w54 ho hb hg hat; rw [← Ny703.out] at ho; have n0_ := am_ (blk_grown (g := gb682) (o := .cells #[.slice (some ad696) l0_0.length c0_0, .slice A0_1 l0_1.length c0_1] 27 (0, 0)) (rb_ BK682.out) hg (Kd.S_ne HO_686001.out BK682.out (by decide))); have n1_ := am_ (blk_grown (g := gb683) (o := .cells #[.slice (some ad697) l1_0.length c1_0, .slice A1_1 l1_1.length c1_1] 27 (0, 0)) (rb_ BK683.out) hg (Kd.S_ne HO_686001.out BK683.out (by decide))); have n2_ := am_ (blk_grown (g := gb684) (o := .cells #[.slice none 0 0, .slice none 0 0] 27 (0, 0)) (rb_ BK684.out) hg (Kd.S_ne HO_686001.out BK684.out (by decide))); have n3_ := am_ (blk_grown (g := gb685) (o := .cells #[.slice Ao47 y700.length co47, u686001] 27 (0, 0)) (rb_ BK685.out) hg (Kd.S_ne HO_686001.out BK685.out (by decide))); have n4_ := am_ (Kd.R_over' (rr_ HO702.out) (Kd.S_typed (rs_ HO_686001.out)) (by decide) hg); have n5_ := am_ (hb); have n6_ := am_ (ho); clear BK682; clear BK683; clear BK684; clear BK685; clear HO702; clear HB; clear HO_686001; clear HO_11; have BK682 := n0_; have BK683 := n1_; have BK684 := n2_; have BK685 := n3_; have HO702 := n4_; have HB := n5_; have HO705 := n6_; clear n0_ n1_ n2_ n3_ n4_ n5_ n6_; clear ho hb hg hat; obtain ⟨Ao56, co56, eo56⟩ := Kd.S_slice HO705.out; subst eo56; have hcz57_0 : w54.cell? ⟨gb685, 0, none⟩ = some (.slice Ao47 y700.length co47) := (blk_cell BK685.out 0).trans rfl; have hcz57_1 : w54.cell? ⟨gb685, 1, none⟩ = some (u686001) := (blk_cell BK685.out 1).trans rfl; have hfz57_0 := blk_frozen BK685.out 0; have hfz57_1 := blk_frozen BK685.out 1))
                   go_roundg k3
                   case measure => have := HK1.out; have := HK2.out; have := HK3.out; omega
                   case rel => exact ⟨(wrap64 (x10_2 + 1)), (y700), (y703), (.slice Ao47 y700.length co47), (.slice Ao56 y703.length co56), (by first | rfl | (simp; done) | (simp [*]; done)), H', ⟨by have := HK1.out; have := HK2.out; have := HK3.out; omega⟩, ⟨by refine rr_ ?_; exact Kd.R_mono (Kd.R_far (p := ⟨gb685, 1, none⟩) (Kd.R_types HO702.out BK685.out (by decide)) (fun _ hk => hk.2) (.slice Ao56 y703.length co56)) (fun _ hk => trivial)⟩, ⟨by refine rs_ ?_; exact Kd.S_mono (Kd.S_far (p := ⟨gb685, 1, none⟩) (Kd.S_types HO705.out BK685.out (by decide)) (fun _ hk => hk.2) (.slice Ao56 y703.length co56)) (fun _ hk => trivial)⟩, ⟨by refine rb_ ?_; refine blk_far ?_ NB682_685.out _; refine rb_ ?_; exact BK682.out⟩, ⟨by refine rb_ ?_; refine blk_far ?_ NB683_685.out _; refine rb_ ?_; exact BK683.out⟩, ⟨by refine rb_ ?_; refine blk_far ?_ NB684_685.out _; refine rb_ ?_; exact BK684.out⟩, ⟨by refine rb_ ?_; refine blk_put (cs := #[.slice Ao47 y700.length co47, u686001]) ?_ 1 _ rfl; refine rb_ ?_; exact BK685.out⟩, ⟨by exact zp34_0_ HB.out GE682.out GE683.out GE684.out GE685.out⟩⟩
                  ·rw [if_neg c44] at H
                   exact absurd H (by simp)
                 ·rw [if_neg c43] at H
                  exact absurd H (by simp)
                ·replace c42 := Bool.eq_false_iff.mpr c42
                 subst c42
                 have H1 : (if x686000_2.length < 140737488355328 then (if x686001_2.length < 5864062014805 then (spec_l7Pairs.l1 k3 false (l1_0.length : Int) x9_1 (wrap64 (x10_2 + 1)) l0_0 l0_1 l1_0 l1_1 (x686000_2 ++ [false]) (x686001_2 ++ [x11_3])) else (none)) else (none)) = some (r1, r2) := by rw [if_neg (show ¬ (false = true) by decide)] at H; exact H
                 clear H
                 have H := H1
                 clear H1
                 by_cases c58 : x686000_2.length < 140737488355328
                 ·rw [if_pos c58] at H
                  have LMc58 := am_ c58
                  clear c58
                  obtain ⟨y706, hy706⟩ : ∃ y_ : List Bool, y_ = (x686000_2 ++ [false]) := ⟨_, rfl⟩
                  replace H : (if x686001_2.length < 5864062014805 then (spec_l7Pairs.l1 k3 false (l1_0.length : Int) x9_1 (wrap64 (x10_2 + 1)) l0_0 l0_1 l1_0 l1_1 y706 (x686001_2 ++ [x11_3])) else (none)) = some (r1, r2) := by first | (rw [hy706]; with_reducible exact H) | (have H2_ := (Option.bind_some _ _).symm.trans H; rw [hy706]; with_reducible exact H2_) | (have H2_ := (Option.bind_some _ _).symm.trans H; with_reducible exact H2_) | with_reducible exact H | (rw [hy706]; exact H) | exact H
                  have Ny706 := am_ hy706
                  clear hy706
                  by_cases c59 : x686001_2.length < 5864062014805
                  ·rw [if_pos c59] at H
                   have LMc59 := am_ c59
                   clear c59
                   obtain ⟨y709, hy709⟩ : ∃ y_ : List (List Int), y_ = (x686001_2 ++ [x11_3]) := ⟨_, rfl⟩
                   replace H : (spec_l7Pairs.l1 k3 false (l1_0.length : Int) x9_1 (wrap64 (x10_2 + 1)) l0_0 l0_1 l1_0 l1_1 y706 y709) = some (r1, r2) := by first | (rw [hy709]; with_reducible exact H) | (have H2_ := (Option.bind_some _ _).symm.trans H; rw [hy709]; with_reducible exact H2_) | (have H2_ := (Option.bind_some _ _).symm.trans H; with_reducible exact H2_) | with_reducible exact H | (rw [hy709]; exact H) | exact H
                   have Ny709 := am_ hy709
                   clear hy709
                   have H' := am_ H
                   clear H
                   try go_wp2
                   replace HO_11 := am_ (Kd.R_drew HO_11.out)
                   replace HO_686000 := am_ (Kd.R_drew HO_686000.out)
                   replace HO_686001 := am_ (Kd.S_drew HO_686001.out)
                   replace BK682 := am_ (blk_drew BK682.out)
                   replace BK683 := am_ (blk_drew BK683.out)
                   replace BK684 := am_ (blk_drew BK684.out)
                   replace BK685 := am_ (blk_drew BK685.out)
                   replace HB := am_ (below_drew1 HB.out)
                   have p696 : 0 ≤ (x9_1 : Int) := of_decide_eq_true ah_
                   have q696 : x9_1 < (l0_0.length : Int) := of_decide_eq_true ah_
                   obtain ⟨ad696, e696, hx696_0⟩ := Kd.at_bool HR0_0.out x9_1 p696 q696
                   have hw696_0 := hx696_0
                   (try rw [← Nbq36.out] at hx696_0)
                   (try rw [← Nbq36.out] at hw696_0)
                   (try rw [← Nbq40.out] at hx696_0)
                   (try rw [← Nbq40.out] at hw696_0)
                   cases e696
                   replace hx696_0 := (HB.out.cell (World.block_lt_of_cell? w _ hx696_0)).trans hx696_0
                   replace p696 := eq_true p696
                   replace q696 := eq_true q696
                   have p697 : 0 ≤ (x10_2 : Int) := of_decide_eq_true ah_
                   have q697 : x10_2 < (l1_0.length : Int) := of_decide_eq_true ah_
                   obtain ⟨ad697, e697, hx697_0⟩ := Kd.at_bool HR1_0.out x10_2 p697 q697
                   have hw697_0 := hx697_0
                   (try rw [← Nbq36.out] at hx697_0)
                   (try rw [← Nbq36.out] at hw697_0)
                   (try rw [← Nbq40.out] at hx697_0)
                   (try rw [← Nbq40.out] at hw697_0)
                   cases e697
                   replace hx697_0 := (HB.out.cell (World.block_lt_of_cell? w _ hx697_0)).trans hx697_0
                   replace p697 := eq_true p697
                   replace q697 := eq_true q697
                   refine start_ (n := 37) (S := fun w' => w'.cell? ⟨gb685, 0, none⟩ = some (u686000) ∧ w'.cell? ⟨gb685, 1, none⟩ = some (u686001) ∧ w'.cell? ⟨gb682, 0, none⟩ = some (.slice (some ad696) l0_0.length c0_0) ∧ w'.cell? ⟨gb682, 1, none⟩ = some (.slice A0_1 l0_1.length c0_1) ∧ w'.cell? ⟨gb683, 0, none⟩ = some (.slice (some ad697) l1_0.length c1_0) ∧ w'.cell? ⟨gb683, 1, none⟩ = some (.slice A1_1 l1_1.length c1_1) ∧ w'.cell? (ad696.add (x9_1).toNat) = some (.bool true) ∧ w'.cell? (ad697.add (x10_2).toNat) = some (.bool true)) (ds := [36]) (bl 37 0) (by kernel_rfl) rfl rfl ⟨(blk_cell BK685.out 0).trans rfl, (blk_cell BK685.out 1).trans rfl, (blk_cell BK682.out 0).trans rfl, (blk_cell BK682.out 1).trans rfl, (blk_cell BK683.out 0).trans rfl, (blk_cell BK683.out 1).trans rfl, ((HB.out.cell (World.block_lt_of_cell? w _ hw696_0)).trans hw696_0), ((HB.out.cell (World.block_lt_of_cell? w _ hw697_0)).trans hw697_0)⟩ (fun hHeld => ?_); refine with_tabW spec_l7Pairs.tab14 spec_l7Pairs.bits14 (fun HT_ HW_ => ?_)
                   generalize wr.drew = w60 at HO_11 HO_686000 HO_686001 BK682 BK683 BK684 BK685 HB hx696_0 hx697_0 hHeld ⊢
                   refine pu_ 0 56 (bl 37 1) HT_ ?_
                   refine pu_ 2 58 (bl 37 5) HT_ ?_
                   refine pu_ 4 60 (bl 37 21) HT_ ?_
                   refine tk_ 1 57 (bl 37 23) HT_ HW_ hHeld ?_
                   refine tk_ 3 59 (bl 37 31) HT_ HW_ hHeld ?_
                   refine pu_ 5 61 (bl 37 63) HT_ ?_
                   refine tk_ 6 62 (bl 37 127) HT_ HW_ hHeld ?_
                   refine pu_ 7 63 (bl 37 255) HT_ ?_
                   refine pu_ 8 64 (bl 37 511) HT_ ?_
                   refine pu_ 10 66 (bl 37 1535) HT_ ?_
                   refine tk_ 9 65 (bl 37 2047) HT_ HW_ hHeld ?_
                   refine pu_ 11 67 (bl 37 4095) HT_ ?_
                   refine tk_ 12 68 (bl 37 8191) HT_ HW_ hHeld ?_
                   refine pu_ 13 69 (bl 37 16383) HT_ ?_
                   refine pu_ 14 70 (bl 37 32767) HT_ ?_
                   refine pu_ 15 71 (bl 37 65535) HT_ ?_
                   refine pu_ 16 72 (bl 37 131071) HT_ ?_
                   refine pu_ 17 73 (bl 37 262143) HT_ ?_
                   refine pz_ 18 74 (bl 37 524287) HT_ ?_
                   refine pz_ 19 75 (bl 37 1048575) HT_ ?_
                   refine pz_ 20 76 (bl 37 2097151) HT_ ?_
                   refine pz_ 21 77 (bl 37 4194303) HT_ ?_
                   refine pz_ 22 78 (bl 37 8388607) HT_ ?_
                   refine pu_ 23 79 (bl 37 16777215) HT_ ?_
                   refine pu_ 24 80 (bl 37 33554431) HT_ ?_
                   refine pz_ 25 81 (bl 37 67108863) HT_ ?_
                   refine pz_ 26 82 (bl 37 134217727) HT_ ?_
                   refine pz_ 27 83 (bl 37 268435455) HT_ ?_
                   refine pz_ 28 84 (bl 37 536870911) HT_ ?_
                   refine pz_ 29 85 (bl 37 1073741823) HT_ ?_
                   refine pz_ 30 86 (bl 37 2147483647) HT_ ?_
                   refine pu_ 31 87 (bl 37 4294967295) HT_ ?_
                   refine pu_ 32 88 (bl 37 8589934591) HT_ ?_
                   refine one_ (i := 33) (N := some 89) (bl 37 17179869183) rfl rfl (one_of HT_.out (by kernel_rfl)) (by decide) (fun K hK => ?_)
                   refine value_ (w1 := ?_) (v := ?_) (by rfl) rfl ?_ ?_
                   rotate_left 2
                   ·go_simp
                    constructor
                    ·rfl
                    ·rfl
                   refine hK.out _ _ ⟨(blk_cell (blk_alloc BK685.out _) 0).trans rfl, (blk_cell (blk_alloc BK685.out _) 1).trans rfl, (blk_cell (blk_alloc BK682.out _) 0).trans rfl, (blk_cell (blk_alloc BK682.out _) 1).trans rfl, (blk_cell (blk_alloc BK683.out _) 0).trans rfl, (blk_cell (blk_alloc BK683.out _) 1).trans rfl, (World.cell?_alloc_lt _ _ _ (World.block_lt_of_cell? _ _ (((HB.out.cell (World.block_lt_of_cell? w _ hw696_0)).trans hw696_0)))).trans (((HB.out.cell (World.block_lt_of_cell? w _ hw696_0)).trans hw696_0)), (World.cell?_alloc_lt _ _ _ (World.block_lt_of_cell? _ _ (((HB.out.cell (World.block_lt_of_cell? w _ hw697_0)).trans hw697_0)))).trans (((HB.out.cell (World.block_lt_of_cell? w _ hw697_0)).trans hw697_0))⟩ (fun hHeld => ?_)
                   clear hK K
                   refine norm_ (a' := ?_) ?_ ?_
                   rotate_left
                   ·show Act.put _ (some 89) _ = _
                    simp only [pn_, sz_, ss_, i64_w, i32_w]
                    rfl
                   refine one_ (i := 34) (N := some 90) (bl 37 34359738367) rfl rfl (one_of HT_.out (by kernel_rfl)) (by decide) (fun K hK => ?_)
                   refine Kd.R_append_step Kd.bool (w0 := w) w.heap.size (by rfl) (.tmp 57) (.tmp 89) 22 4 (.bool false) 1 rfl Try.underlying22 info4 rfl (by decide) (by omega) u686000 x686000_2 false [.bool false] (fun _ => True) (fun _ => False) rfl rfl ?aP (fun _ hk => hk.elim) ?aF ?aO ?aB ?aS ?aL ?_
                   (case aP => exact rfl)
                   (case aB => exact (b4_ HB.out GE682.out GE683.out GE684.out GE685.out))
                   (case aF => exact (fun _ _ => trivial))
                   (case aO => exact (rr_ HO_686000.out))
                   (case aS => exact (below_size (b4_ HB.out GE682.out GE683.out GE684.out GE685.out)))
                   (case aL => have := LMc58.out; omega)
                   intro v707 w61 ho hb hg hat
                   rw [← Ny706.out] at ho
                   replace HO_11 := am_ (Kd.R_over' (rr_ HO_11.out) (Kd.R_typed (rr_ HO_686000.out)) (by decide) hg)
                   replace HO_686001 := am_ (Kd.S_over' (rs_ HO_686001.out) (Kd.R_typed (rr_ HO_686000.out)) (by decide) hg)
                   replace BK682 := am_ (blk_grown (g := gb682) (o := .cells #[.slice (some ad696) l0_0.length c0_0, .slice A0_1 l0_1.length c0_1] 27 (0, 0)) (rb_ BK682.out) hg (Kd.R_ne HO_686000.out BK682.out (by decide)))
                   replace BK683 := am_ (blk_grown (g := gb683) (o := .cells #[.slice (some ad697) l1_0.length c1_0, .slice A1_1 l1_1.length c1_1] 27 (0, 0)) (rb_ BK683.out) hg (Kd.R_ne HO_686000.out BK683.out (by decide)))
                   replace BK684 := am_ (blk_grown (g := gb684) (o := .cells #[.slice none 0 0, .slice none 0 0] 27 (0, 0)) (rb_ BK684.out) hg (Kd.R_ne HO_686000.out BK684.out (by decide)))
                   replace BK685 := am_ (blk_grown (g := gb685) (o := .cells #[u686000, u686001] 27 (0, 0)) (rb_ BK685.out) hg (Kd.R_ne HO_686000.out BK685.out (by decide)))
                   replace HB := am_ (hb)
                   replace HO708 := am_ (ho)
                   clear HO_686000 ho hb hg hat
                   obtain ⟨Ao62, co62, eo62⟩ := Kd.R_slice HO708.out
                   (first | subst eo62 | (injection eo62 with f1_ f2_ f3_; have f4_ := f1_.symm; have f5_ := f3_.symm; clear f1_ f2_ f3_; subst f4_; subst f5_))
                   refine hK.out _ _ ⟨(blk_cell BK685.out 0).trans rfl, (blk_cell BK685.out 1).trans rfl, (blk_cell BK682.out 0).trans rfl, (blk_cell BK682.out 1).trans rfl, (blk_cell BK683.out 0).trans rfl, (blk_cell BK683.out 1).trans rfl, ((HB.out.cell (World.block_lt_of_cell? w _ hw696_0)).trans hw696_0), ((HB.out.cell (World.block_lt_of_cell? w _ hw697_0)).trans hw697_0)⟩ (fun hHeld => ?_)
                   clear hK K
                   refine norm_ (a' := ?_) ?_ ?_
                   rotate_left
                   ·show Act.put _ (some 90) _ = _
                    simp only [pn_, sz_, ss_, i64_w, i32_w]
                    rfl
                   refine pu_ 35 91 (bl 37 68719476735) HT_ ?_
                   refine last_ (i := 36) (N := none) (bl 37 137438953471) rfl rfl (one_of HT_.out (by kernel_rfl)) (by decide) (fun K hK => ?_)
                   have hs63 : w61.cell? ⟨gb685, 0, none⟩ = some (u686000) := (blk_cell BK685.out 0).trans rfl
                   have hfs63 := blk_frozen BK685.out 0
                   have hns63_0 := NB682_685.out
                   have hns63_1 := NB683_685.out
                   have hns63_2 := NB684_685.out
                   have hms63_0 := NB685_682.out
                   have hms63_1 := NB685_683.out
                   have hms63_2 := NB685_684.out
                   refine skip_ (w1 := ?_) (by rfl) rfl ?_ ?_
                   rotate_left
                   ·go_simp
                    rfl
                   refine hK.out _ _ ?_
                   clear hK K
                   refine done_ (done_of HT_.out (by kernel_rfl)) ?_
                   have n0_ : Aside0 (Kd.R (Kd.int .i64) 3 (w61.setCell ⟨gb685, 0, none⟩ (.slice Ao62 y706.length co62)) w.heap.size (fun _ => True) u11 x11_3) := ⟨by refine rr_ ?_; exact Kd.R_mono (Kd.R_far (p := ⟨gb685, 0, none⟩) (Kd.R_types HO_11.out BK685.out (by decide)) (fun _ hk => hk.2) (.slice Ao62 y706.length co62)) (fun _ hk => trivial)⟩
                   have n1_ : Aside0 (Kd.S (Kd.slice 3 (Kd.int .i64)) 67 (w61.setCell ⟨gb685, 0, none⟩ (.slice Ao62 y706.length co62)) w.heap.size (fun k_ => some k_ ≠ (u11 : Value).ownBlock) u686001 x686001_2) := ⟨by refine rs_ ?_; exact Kd.S_mono (Kd.S_far (p := ⟨gb685, 0, none⟩) (Kd.S_types HO_686001.out BK685.out (by decide)) (fun _ hk => hk.2) (.slice Ao62 y706.length co62)) (fun _ hk => hk.1)⟩
                   have n2_ : Aside0 (Kd.R Kd.bool 4 (w61.setCell ⟨gb685, 0, none⟩ (.slice Ao62 y706.length co62)) w.heap.size (fun _ => True) (.slice Ao62 y706.length co62) y706) := ⟨by refine rr_ ?_; exact Kd.R_mono (Kd.R_far (p := ⟨gb685, 0, none⟩) (Kd.R_types HO708.out BK685.out (by decide)) (fun _ hk => hk.2) (.slice Ao62 y706.length co62)) (fun _ hk => trivial)⟩
                   have n3_ : Aside0 ((w61.setCell ⟨gb685, 0, none⟩ (.slice Ao62 y706.length co62)).heap[gb682]? = some (.cells #[.slice (some ad696) l0_0.length c0_0, .slice A0_1 l0_1.length c0_1] 27 (0, 0))) := ⟨by refine rb_ ?_; refine blk_far ?_ NB682_685.out _; refine rb_ ?_; exact BK682.out⟩
                   have n4_ : Aside0 ((w61.setCell ⟨gb685, 0, none⟩ (.slice Ao62 y706.length co62)).heap[gb683]? = some (.cells #[.slice (some ad697) l1_0.length c1_0, .slice A1_1 l1_1.length c1_1] 27 (0, 0))) := ⟨by refine rb_ ?_; refine blk_far ?_ NB683_685.out _; refine rb_ ?_; exact BK683.out⟩
                   have n5_ : Aside0 ((w61.setCell ⟨gb685, 0, none⟩ (.slice Ao62 y706.length co62)).heap[gb684]? = some (.cells #[.slice none 0 0, .slice none 0 0] 27 (0, 0))) := ⟨by refine rb_ ?_; refine blk_far ?_ NB684_685.out _; refine rb_ ?_; exact BK684.out⟩
                   have n6_ : Aside0 ((w61.setCell ⟨gb685, 0, none⟩ (.slice Ao62 y706.length co62)).heap[gb685]? = some (.cells #[.slice Ao62 y706.length co62, u686001] 27 (0, 0))) := ⟨by refine rb_ ?_; refine blk_put (cs := #[u686000, u686001]) ?_ 0 _ rfl; refine rb_ ?_; exact BK685.out⟩
                   have n7_ : Aside0 (Below w.heap.size w (w61.setCell ⟨gb685, 0, none⟩ (.slice Ao62 y706.length co62))) := ⟨by exact zp34_0_ HB.out GE682.out GE683.out GE684.out GE685.out⟩
                   (try clear HO_11)
                   (try clear HO_686001)
                   (try clear HO708)
                   (try clear BK682)
                   (try clear BK683)
                   (try clear BK684)
                   (try clear BK685)
                   (try clear HB)
                   generalize (w61.setCell ⟨gb685, 0, none⟩ (.slice Ao62 y706.length co62)) = w64 at n0_ n1_ n2_ n3_ n4_ n5_ n6_ n7_ ⊢
                   have HO_11 := n0_; have HO_686001 := n1_; have HO708 := n2_; have BK682 := n3_; have BK683 := n4_; have BK684 := n5_; have BK685 := n6_; have HB := n7_
                   clear n0_ n1_ n2_ n3_ n4_ n5_ n6_ n7_
                   have hnb65 := NB685_682.out
                   have hnc65 := NB682_685.out
                   have hnb66 := NB685_683.out
                   have hnc66 := NB683_685.out
                   have hnb67 := NB685_684.out
                   have hnc67 := NB684_685.out
                   have hcz68_0 : w64.cell? ⟨gb685, 0, none⟩ = some (.slice Ao62 y706.length co62) := (blk_cell BK685.out 0).trans rfl
                   have hcz68_1 : w64.cell? ⟨gb685, 1, none⟩ = some (u686001) := (blk_cell BK685.out 1).trans rfl
                   have hfz68_0 := blk_frozen BK685.out 0
                   have hfz68_1 := blk_frozen BK685.out 1
                   obtain ⟨Ao70, co70, eo70⟩ := Kd.R_slice HO_11.out
                   subst eo70
                   try go_wp2_with (first | ((with_reducible refine gate_builtin (b := .append) (xs := #[.tmp 93, .tmp 95]) rfl ?_); at_builtin; refine Kd.S_append (Kd.slice 3 (Kd.int .i64)) (w0 := w) w.heap.size rfl (.tmp 93) (.tmp 95) 23 67 (.slice none 0 0) 24 rfl Try.underlying23 info67 rfl (by decide) (by omega) u686001 x686001_2 x11_3 [.slice Ao70 x11_3.length co70] (fun _ => True) (fun k_ => some k_ = (.slice Ao70 x11_3.length co70 : Value).ownBlock) rfl rfl ?aP (fun k_ hk_ => ((Kd.R_mono (ok' := fun k_ => ((fun _ => True)) k_ ∧ some k_ ≠ (u686001 : Value).ownBlock) (Kd.R_apart' (HO_11.out) (Kd.S_typed HO_686001.out) (by decide)) (fun k_ hk => ⟨trivial, hk.2⟩))).1 k_ hk_.symm) ?aF ?aO ?aB ?aS ?aL ?_; (case aP => exact Kd.M_row (Kd.R_mono (Kd.R_tight rfl (Kd.R_mono (ok' := fun k_ => ((fun _ => True)) k_ ∧ some k_ ≠ (u686001 : Value).ownBlock) (Kd.R_apart' (HO_11.out) (Kd.S_typed HO_686001.out) (by decide)) (fun k_ hk => ⟨trivial, hk.2⟩))) (fun _ h_ => h_))); (case aB => exact (b4_ HB.out GE682.out GE683.out GE684.out GE685.out)); (case aF => exact (fun _ _ => trivial)); (case aO => exact (by refine rs_ ?_; exact Kd.S_mono HO_686001.out (fun k_ hk => ⟨trivial, fun e_ => hk e_⟩))); (case aS => exact (below_size (b4_ HB.out GE682.out GE683.out GE684.out GE685.out))); (case aL => have := LMc59.out; omega); intro v710 w69 ho hb hg hat; rw [← Ny709.out] at ho; have n0_ := am_ (blk_grown (g := gb682) (o := .cells #[.slice (some ad696) l0_0.length c0_0, .slice A0_1 l0_1.length c0_1] 27 (0, 0)) (rb_ BK682.out) hg (Kd.S_ne HO_686001.out BK682.out (by decide))); have n1_ := am_ (blk_grown (g := gb683) (o := .cells #[.slice (some ad697) l1_0.length c1_0, .slice A1_1 l1_1.length c1_1] 27 (0, 0)) (rb_ BK683.out) hg (Kd.S_ne HO_686001.out BK683.out (by decide))); have n2_ := am_ (blk_grown (g := gb684) (o := .cells #[.slice none 0 0, .slice none 0 0] 27 (0, 0)) (rb_ BK684.out) hg (Kd.S_ne HO_686001.out BK684.out (by decide))); have n3_ := am_ (blk_grown (g := gb685) (o := .cells #[.slice Ao62 y706.length co62, u686001] 27 (0, 0)) (rb_ BK685.out) hg (Kd.S_ne HO_686001.out BK685.out (by decide))); have n4_ := am_ (Kd.R_over' (rr_ HO708.out) (Kd.S_typed (rs_ HO_686001.out)) (by decide) hg); have n5_ := am_ (hb); have n6_ := am_ (ho); clear BK682; clear BK683; clear BK684; clear BK685; clear HO708; clear HB; clear HO_686001; clear HO_11; have BK682 := n0_; have BK683 := n1_; have BK684 := n2_; have BK685 := n3_; have HO708 := n4_; have HB := n5_; have HO711 := n6_; clear n0_ n1_ n2_ n3_ n4_ n5_ n6_; clear ho hb hg hat; obtain ⟨Ao71, co71, eo71⟩ := Kd.S_slice HO711.out; subst eo71; have hcz72_0 : w69.cell? ⟨gb685, 0, none⟩ = some (.slice Ao62 y706.length co62) := (blk_cell BK685.out 0).trans rfl; have hcz72_1 : w69.cell? ⟨gb685, 1, none⟩ = some (u686001) := (blk_cell BK685.out 1).trans rfl; have hfz72_0 := blk_frozen BK685.out 0; have hfz72_1 := blk_frozen BK685.out 1))
                   go_roundg k3
                   case measure => have := HK1.out; have := HK2.out; have := HK3.out; omega
                   case rel => exact ⟨(wrap64 (x10_2 + 1)), (y706), (y709), (.slice Ao62 y706.length co62), (.slice Ao71 y709.length co71), (by first | rfl | (simp; done) | (simp [*]; done)), H', ⟨by have := HK1.out; have := HK2.out; have := HK3.out; omega⟩, ⟨by refine rr_ ?_; exact Kd.R_mono (Kd.R_far (p := ⟨gb685, 1, none⟩) (Kd.R_types HO708.out BK685.out (by decide)) (fun _ hk => hk.2) (.slice Ao71 y709.length co71)) (fun _ hk => trivial)⟩, ⟨by refine rs_ ?_; exact Kd.S_mono (Kd.S_far (p := ⟨gb685, 1, none⟩) (Kd.S_types HO711.out BK685.out (by decide)) (fun _ hk => hk.2) (.slice Ao71 y709.length co71)) (fun _ hk => trivial)⟩, ⟨by refine rb_ ?_; refine blk_far ?_ NB682_685.out _; refine rb_ ?_; exact BK682.out⟩, ⟨by refine rb_ ?_; refine blk_far ?_ NB683_685.out _; refine rb_ ?_; exact BK683.out⟩, ⟨by refine rb_ ?_; refine blk_far ?_ NB684_685.out _; refine rb_ ?_; exact BK684.out⟩, ⟨by refine rb_ ?_; refine blk_put (cs := #[.slice Ao62 y706.length co62, u686001]) ?_ 1 _ rfl; refine rb_ ?_; exact BK685.out⟩, ⟨by exact zp34_0_ HB.out GE682.out GE683.out GE684.out GE685.out⟩⟩
                  ·rw [if_neg c59] at H
                   exact absurd H (by simp)
                 ·rw [if_neg c58] at H
                  exact absurd H (by simp)
               ·replace c41 := Bool.eq_false_iff.mpr c41
                subst c41
                have H1 : (if x686000_2.length < 140737488355328 then (if x686001_2.length < 5864062014805 then (spec_l7Pairs.l1 k3 a2 (l1_0.length : Int) x9_1 (wrap64 (x10_2 + 1)) l0_0 l0_1 l1_0 l1_1 (x686000_2 ++ [true]) (x686001_2 ++ [x11_3])) else (none)) else (none)) = some (r1, r2) := by rw [if_neg (show ¬ (false = true) by decide)] at H; exact H
                clear H
                have H := H1
                clear H1
                by_cases c73 : x686000_2.length < 140737488355328
                ·rw [if_pos c73] at H
                 have LMc73 := am_ c73
                 clear c73
                 obtain ⟨y712, hy712⟩ : ∃ y_ : List Bool, y_ = (x686000_2 ++ [true]) := ⟨_, rfl⟩
                 replace H : (if x686001_2.length < 5864062014805 then (spec_l7Pairs.l1 k3 a2 (l1_0.length : Int) x9_1 (wrap64 (x10_2 + 1)) l0_0 l0_1 l1_0 l1_1 y712 (x686001_2 ++ [x11_3])) else (none)) = some (r1, r2) := by first | (rw [hy712]; with_reducible exact H) | (have H2_ := (Option.bind_some _ _).symm.trans H; rw [hy712]; with_reducible exact H2_) | (have H2_ := (Option.bind_some _ _).symm.trans H; with_reducible exact H2_) | with_reducible exact H | (rw [hy712]; exact H) | exact H
                 have Ny712 := am_ hy712
                 clear hy712
                 by_cases c74 : x686001_2.length < 5864062014805
                 ·rw [if_pos c74] at H
                  have LMc74 := am_ c74
                  clear c74
                  obtain ⟨y715, hy715⟩ : ∃ y_ : List (List Int), y_ = (x686001_2 ++ [x11_3]) := ⟨_, rfl⟩
                  replace H : (spec_l7Pairs.l1 k3 a2 (l1_0.length : Int) x9_1 (wrap64 (x10_2 + 1)) l0_0 l0_1 l1_0 l1_1 y712 y715) = some (r1, r2) := by first | (rw [hy715]; with_reducible exact H) | (have H2_ := (Option.bind_some _ _).symm.trans H; rw [hy715]; with_reducible exact H2_) | (have H2_ := (Option.bind_some _ _).symm.trans H; with_reducible exact H2_) | with_reducible exact H | (rw [hy715]; exact H) | exact H
                  have Ny715 := am_ hy715
                  clear hy715
                  have H' := am_ H
                  clear H
                  try go_wp2
                  replace HO_11 := am_ (Kd.R_drew HO_11.out)
                  replace HO_686000 := am_ (Kd.R_drew HO_686000.out)
                  replace HO_686001 := am_ (Kd.S_drew HO_686001.out)
                  replace BK682 := am_ (blk_drew BK682.out)
                  replace BK683 := am_ (blk_drew BK683.out)
                  replace BK684 := am_ (blk_drew BK684.out)
                  replace BK685 := am_ (blk_drew BK685.out)
                  replace HB := am_ (below_drew1 HB.out)
                  have p696 : 0 ≤ (x9_1 : Int) := of_decide_eq_true ah_
                  have q696 : x9_1 < (l0_0.length : Int) := of_decide_eq_true ah_
                  obtain ⟨ad696, e696, hx696_0⟩ := Kd.at_bool HR0_0.out x9_1 p696 q696
                  have hw696_0 := hx696_0
                  (try rw [← Nbq36.out] at hx696_0)
                  (try rw [← Nbq36.out] at hw696_0)
                  (try rw [← Nbq40.out] at hx696_0)
                  (try rw [← Nbq40.out] at hw696_0)
                  cases e696
                  replace hx696_0 := (HB.out.cell (World.block_lt_of_cell? w _ hx696_0)).trans hx696_0
                  replace p696 := eq_true p696
                  replace q696 := eq_true q696
                  have p697 : 0 ≤ (x10_2 : Int) := of_decide_eq_true ah_
                  have q697 : x10_2 < (l1_0.length : Int) := of_decide_eq_true ah_
                  obtain ⟨ad697, e697, hx697_0⟩ := Kd.at_bool HR1_0.out x10_2 p697 q697
                  have hw697_0 := hx697_0
                  (try rw [← Nbq36.out] at hx697_0)
                  (try rw [← Nbq36.out] at hw697_0)
                  (try rw [← Nbq40.out] at hx697_0)
                  (try rw [← Nbq40.out] at hw697_0)
                  cases e697
                  replace hx697_0 := (HB.out.cell (World.block_lt_of_cell? w _ hx697_0)).trans hx697_0
                  replace p697 := eq_true p697
                  replace q697 := eq_true q697
                  refine start_ (n := 37) (S := fun w' => w'.cell? ⟨gb685, 0, none⟩ = some (u686000) ∧ w'.cell? ⟨gb685, 1, none⟩ = some (u686001) ∧ w'.cell? ⟨gb682, 0, none⟩ = some (.slice (some ad696) l0_0.length c0_0) ∧ w'.cell? ⟨gb682, 1, none⟩ = some (.slice A0_1 l0_1.length c0_1) ∧ w'.cell? ⟨gb683, 0, none⟩ = some (.slice (some ad697) l1_0.length c1_0) ∧ w'.cell? ⟨gb683, 1, none⟩ = some (.slice A1_1 l1_1.length c1_1) ∧ w'.cell? (ad696.add (x9_1).toNat) = some (.bool true) ∧ w'.cell? (ad697.add (x10_2).toNat) = some (.bool false)) (ds := [36]) (bl 37 0) (by kernel_rfl) rfl rfl ⟨(blk_cell BK685.out 0).trans rfl, (blk_cell BK685.out 1).trans rfl, (blk_cell BK682.out 0).trans rfl, (blk_cell BK682.out 1).trans rfl, (blk_cell BK683.out 0).trans rfl, (blk_cell BK683.out 1).trans rfl, ((HB.out.cell (World.block_lt_of_cell? w _ hw696_0)).trans hw696_0), ((HB.out.cell (World.block_lt_of_cell? w _ hw697_0)).trans hw697_0)⟩ (fun hHeld => ?_); refine with_tabW spec_l7Pairs.tab14 spec_l7Pairs.bits14 (fun HT_ HW_ => ?_)
                  generalize wr.drew = w75 at HO_11 HO_686000 HO_686001 BK682 BK683 BK684 BK685 HB hx696_0 hx697_0 hHeld ⊢
                  refine pu_ 0 56 (bl 37 1) HT_ ?_
                  refine pu_ 2 58 (bl 37 5) HT_ ?_
                  refine pu_ 4 60 (bl 37 21) HT_ ?_
                  refine tk_ 1 57 (bl 37 23) HT_ HW_ hHeld ?_
                  refine tk_ 3 59 (bl 37 31) HT_ HW_ hHeld ?_
                  refine pu_ 5 61 (bl 37 63) HT_ ?_
                  refine tk_ 6 62 (bl 37 127) HT_ HW_ hHeld ?_
                  refine pu_ 7 63 (bl 37 255) HT_ ?_
                  refine pu_ 8 64 (bl 37 511) HT_ ?_
                  refine pu_ 10 66 (bl 37 1535) HT_ ?_
                  refine tk_ 9 65 (bl 37 2047) HT_ HW_ hHeld ?_
                  refine pu_ 11 67 (bl 37 4095) HT_ ?_
                  refine tk_ 12 68 (bl 37 8191) HT_ HW_ hHeld ?_
                  refine pu_ 13 69 (bl 37 16383) HT_ ?_
                  refine pu_ 14 70 (bl 37 32767) HT_ ?_
                  refine pu_ 15 71 (bl 37 65535) HT_ ?_
                  refine pz_ 16 72 (bl 37 131071) HT_ ?_
                  refine pz_ 17 73 (bl 37 262143) HT_ ?_
                  refine pz_ 18 74 (bl 37 524287) HT_ ?_
                  refine pz_ 19 75 (bl 37 1048575) HT_ ?_
                  refine pz_ 20 76 (bl 37 2097151) HT_ ?_
                  refine pz_ 21 77 (bl 37 4194303) HT_ ?_
                  refine pz_ 22 78 (bl 37 8388607) HT_ ?_
                  refine pz_ 23 79 (bl 37 16777215) HT_ ?_
                  refine pz_ 24 80 (bl 37 33554431) HT_ ?_
                  refine pz_ 25 81 (bl 37 67108863) HT_ ?_
                  refine pz_ 26 82 (bl 37 134217727) HT_ ?_
                  refine pz_ 27 83 (bl 37 268435455) HT_ ?_
                  refine pz_ 28 84 (bl 37 536870911) HT_ ?_
                  refine pz_ 29 85 (bl 37 1073741823) HT_ ?_
                  refine pz_ 30 86 (bl 37 2147483647) HT_ ?_
                  refine pz_ 31 87 (bl 37 4294967295) HT_ ?_
                  refine pu_ 32 88 (bl 37 8589934591) HT_ ?_
                  refine one_ (i := 33) (N := some 89) (bl 37 17179869183) rfl rfl (one_of HT_.out (by kernel_rfl)) (by decide) (fun K hK => ?_)
                  refine value_ (w1 := ?_) (v := ?_) (by rfl) rfl ?_ ?_
                  rotate_left 2
                  ·go_simp
                   constructor
                   ·rfl
                   ·rfl
                  refine hK.out _ _ ⟨(blk_cell (blk_alloc BK685.out _) 0).trans rfl, (blk_cell (blk_alloc BK685.out _) 1).trans rfl, (blk_cell (blk_alloc BK682.out _) 0).trans rfl, (blk_cell (blk_alloc BK682.out _) 1).trans rfl, (blk_cell (blk_alloc BK683.out _) 0).trans rfl, (blk_cell (blk_alloc BK683.out _) 1).trans rfl, (World.cell?_alloc_lt _ _ _ (World.block_lt_of_cell? _ _ (((HB.out.cell (World.block_lt_of_cell? w _ hw696_0)).trans hw696_0)))).trans (((HB.out.cell (World.block_lt_of_cell? w _ hw696_0)).trans hw696_0)), (World.cell?_alloc_lt _ _ _ (World.block_lt_of_cell? _ _ (((HB.out.cell (World.block_lt_of_cell? w _ hw697_0)).trans hw697_0)))).trans (((HB.out.cell (World.block_lt_of_cell? w _ hw697_0)).trans hw697_0))⟩ (fun hHeld => ?_)
                  clear hK K
                  refine norm_ (a' := ?_) ?_ ?_
                  rotate_left
                  ·show Act.put _ (some 89) _ = _
                   simp only [pn_, sz_, ss_, i64_w, i32_w]
                   rfl
                  refine one_ (i := 34) (N := some 90) (bl 37 34359738367) rfl rfl (one_of HT_.out (by kernel_rfl)) (by decide) (fun K hK => ?_)
                  refine Kd.R_append_step Kd.bool (w0 := w) w.heap.size (by rfl) (.tmp 57) (.tmp 89) 22 4 (.bool false) 1 rfl Try.underlying22 info4 rfl (by decide) (by omega) u686000 x686000_2 true [.bool true] (fun _ => True) (fun _ => False) rfl rfl ?aP (fun _ hk => hk.elim) ?aF ?aO ?aB ?aS ?aL ?_
                  (case aP => exact rfl)
                  (case aB => exact (b4_ HB.out GE682.out GE683.out GE684.out GE685.out))
                  (case aF => exact (fun _ _ => trivial))
                  (case aO => exact (rr_ HO_686000.out))
                  (case aS => exact (below_size (b4_ HB.out GE682.out GE683.out GE684.out GE685.out)))
                  (case aL => have := LMc73.out; omega)
                  intro v713 w76 ho hb hg hat
                  rw [← Ny712.out] at ho
                  replace HO_11 := am_ (Kd.R_over' (rr_ HO_11.out) (Kd.R_typed (rr_ HO_686000.out)) (by decide) hg)
                  replace HO_686001 := am_ (Kd.S_over' (rs_ HO_686001.out) (Kd.R_typed (rr_ HO_686000.out)) (by decide) hg)
                  replace BK682 := am_ (blk_grown (g := gb682) (o := .cells #[.slice (some ad696) l0_0.length c0_0, .slice A0_1 l0_1.length c0_1] 27 (0, 0)) (rb_ BK682.out) hg (Kd.R_ne HO_686000.out BK682.out (by decide)))
                  replace BK683 := am_ (blk_grown (g := gb683) (o := .cells #[.slice (some ad697) l1_0.length c1_0, .slice A1_1 l1_1.length c1_1] 27 (0, 0)) (rb_ BK683.out) hg (Kd.R_ne HO_686000.out BK683.out (by decide)))
                  replace BK684 := am_ (blk_grown (g := gb684) (o := .cells #[.slice none 0 0, .slice none 0 0] 27 (0, 0)) (rb_ BK684.out) hg (Kd.R_ne HO_686000.out BK684.out (by decide)))
                  replace BK685 := am_ (blk_grown (g := gb685) (o := .cells #[u686000, u686001] 27 (0, 0)) (rb_ BK685.out) hg (Kd.R_ne HO_686000.out BK685.out (by decide)))
                  replace HB := am_ (hb)
                  replace HO714 := am_ (ho)
                  clear HO_686000 ho hb hg hat
                  obtain ⟨Ao77, co77, eo77⟩ := Kd.R_slice HO714.out
                  (first | subst eo77 | (injection eo77 with f1_ f2_ f3_; have f4_ := f1_.symm; have f5_ := f3_.symm; clear f1_ f2_ f3_; subst f4_; subst f5_))
                  refine hK.out _ _ ⟨(blk_cell BK685.out 0).trans rfl, (blk_cell BK685.out 1).trans rfl, (blk_cell BK682.out 0).trans rfl, (blk_cell BK682.out 1).trans rfl, (blk_cell BK683.out 0).trans rfl, (blk_cell BK683.out 1).trans rfl, ((HB.out.cell (World.block_lt_of_cell? w _ hw696_0)).trans hw696_0), ((HB.out.cell (World.block_lt_of_cell? w _ hw697_0)).trans hw697_0)⟩ (fun hHeld => ?_)
                  clear hK K
                  refine norm_ (a' := ?_) ?_ ?_
                  rotate_left
                  ·show Act.put _ (some 90) _ = _
                   simp only [pn_, sz_, ss_, i64_w, i32_w]
                   rfl
                  refine pu_ 35 91 (bl 37 68719476735) HT_ ?_
                  refine last_ (i := 36) (N := none) (bl 37 137438953471) rfl rfl (one_of HT_.out (by kernel_rfl)) (by decide) (fun K hK => ?_)
                  have hs78 : w76.cell? ⟨gb685, 0, none⟩ = some (u686000) := (blk_cell BK685.out 0).trans rfl
                  have hfs78 := blk_frozen BK685.out 0
                  have hns78_0 := NB682_685.out
                  have hns78_1 := NB683_685.out
                  have hns78_2 := NB684_685.out
                  have hms78_0 := NB685_682.out
                  have hms78_1 := NB685_683.out
                  have hms78_2 := NB685_684.out
                  refine skip_ (w1 := ?_) (by rfl) rfl ?_ ?_
                  rotate_left
                  ·go_simp
                   rfl
                  refine hK.out _ _ ?_
                  clear hK K
                  refine done_ (done_of HT_.out (by kernel_rfl)) ?_
                  have n0_ : Aside0 (Kd.R (Kd.int .i64) 3 (w76.setCell ⟨gb685, 0, none⟩ (.slice Ao77 y712.length co77)) w.heap.size (fun _ => True) u11 x11_3) := ⟨by refine rr_ ?_; exact Kd.R_mono (Kd.R_far (p := ⟨gb685, 0, none⟩) (Kd.R_types HO_11.out BK685.out (by decide)) (fun _ hk => hk.2) (.slice Ao77 y712.length co77)) (fun _ hk => trivial)⟩
                  have n1_ : Aside0 (Kd.S (Kd.slice 3 (Kd.int .i64)) 67 (w76.setCell ⟨gb685, 0, none⟩ (.slice Ao77 y712.length co77)) w.heap.size (fun k_ => some k_ ≠ (u11 : Value).ownBlock) u686001 x686001_2) := ⟨by refine rs_ ?_; exact Kd.S_mono (Kd.S_far (p := ⟨gb685, 0, none⟩) (Kd.S_types HO_686001.out BK685.out (by decide)) (fun _ hk => hk.2) (.slice Ao77 y712.length co77)) (fun _ hk => hk.1)⟩
                  have n2_ : Aside0 (Kd.R Kd.bool 4 (w76.setCell ⟨gb685, 0, none⟩ (.slice Ao77 y712.length co77)) w.heap.size (fun _ => True) (.slice Ao77 y712.length co77) y712) := ⟨by refine rr_ ?_; exact Kd.R_mono (Kd.R_far (p := ⟨gb685, 0, none⟩) (Kd.R_types HO714.out BK685.out (by decide)) (fun _ hk => hk.2) (.slice Ao77 y712.length co77)) (fun _ hk => trivial)⟩
                  have n3_ : Aside0 ((w76.setCell ⟨gb685, 0, none⟩ (.slice Ao77 y712.length co77)).heap[gb682]? = some (.cells #[.slice (some ad696) l0_0.length c0_0, .slice A0_1 l0_1.length c0_1] 27 (0, 0))) := ⟨by refine rb_ ?_; refine blk_far ?_ NB682_685.out _; refine rb_ ?_; exact BK682.out⟩
                  have n4_ : Aside0 ((w76.setCell ⟨gb685, 0, none⟩ (.slice Ao77 y712.length co77)).heap[gb683]? = some (.cells #[.slice (some ad697) l1_0.length c1_0, .slice A1_1 l1_1.length c1_1] 27 (0, 0))) := ⟨by refine rb_ ?_; refine blk_far ?_ NB683_685.out _; refine rb_ ?_; exact BK683.out⟩
                  have n5_ : Aside0 ((w76.setCell ⟨gb685, 0, none⟩ (.slice Ao77 y712.length co77)).heap[gb684]? = some (.cells #[.slice none 0 0, .slice none 0 0] 27 (0, 0))) := ⟨by refine rb_ ?_; refine blk_far ?_ NB684_685.out _; refine rb_ ?_; exact BK684.out⟩
                  have n6_ : Aside0 ((w76.setCell ⟨gb685, 0, none⟩ (.slice Ao77 y712.length co77)).heap[gb685]? = some (.cells #[.slice Ao77 y712.length co77, u686001] 27 (0, 0))) := ⟨by refine rb_ ?_; refine blk_put (cs := #[u686000, u686001]) ?_ 0 _ rfl; refine rb_ ?_; exact BK685.out⟩
                  have n7_ : Aside0 (Below w.heap.size w (w76.setCell ⟨gb685, 0, none⟩ (.slice Ao77 y712.length co77))) := ⟨by exact zp34_0_ HB.out GE682.out GE683.out GE684.out GE685.out⟩
                  (try clear HO_11)
                  (try clear HO_686001)
                  (try clear HO714)
                  (try clear BK682)
                  (try clear BK683)
                  (try clear BK684)
                  (try clear BK685)
                  (try clear HB)
                  generalize (w76.setCell ⟨gb685, 0, none⟩ (.slice Ao77 y712.length co77)) = w79 at n0_ n1_ n2_ n3_ n4_ n5_ n6_ n7_ ⊢
                  have HO_11 := n0_; have HO_686001 := n1_; have HO714 := n2_; have BK682 := n3_; have BK683 := n4_; have BK684 := n5_; have BK685 := n6_; have HB := n7_
                  clear n0_ n1_ n2_ n3_ n4_ n5_ n6_ n7_
                  have hnb80 := NB685_682.out
                  have hnc80 := NB682_685.out
                  have hnb81 := NB685_683.out
                  have hnc81 := NB683_685.out
                  have hnb82 := NB685_684.out
                  have hnc82 := NB684_685.out
                  have hcz83_0 : w79.cell? ⟨gb685, 0, none⟩ = some (.slice Ao77 y712.length co77) := (blk_cell BK685.out 0).trans rfl
                  have hcz83_1 : w79.cell? ⟨gb685, 1, none⟩ = some (u686001) := (blk_cell BK685.out 1).trans rfl
                  have hfz83_0 := blk_frozen BK685.out 0
                  have hfz83_1 := blk_frozen BK685.out 1
                  obtain ⟨Ao85, co85, eo85⟩ := Kd.R_slice HO_11.out
                  subst eo85
                  try go_wp2_with (first | ((with_reducible refine gate_builtin (b := .append) (xs := #[.tmp 93, .tmp 95]) rfl ?_); at_builtin; refine Kd.S_append (Kd.slice 3 (Kd.int .i64)) (w0 := w) w.heap.size rfl (.tmp 93) (.tmp 95) 23 67 (.slice none 0 0) 24 rfl Try.underlying23 info67 rfl (by decide) (by omega) u686001 x686001_2 x11_3 [.slice Ao85 x11_3.length co85] (fun _ => True) (fun k_ => some k_ = (.slice Ao85 x11_3.length co85 : Value).ownBlock) rfl rfl ?aP (fun k_ hk_ => ((Kd.R_mono (ok' := fun k_ => ((fun _ => True)) k_ ∧ some k_ ≠ (u686001 : Value).ownBlock) (Kd.R_apart' (HO_11.out) (Kd.S_typed HO_686001.out) (by decide)) (fun k_ hk => ⟨trivial, hk.2⟩))).1 k_ hk_.symm) ?aF ?aO ?aB ?aS ?aL ?_; (case aP => exact Kd.M_row (Kd.R_mono (Kd.R_tight rfl (Kd.R_mono (ok' := fun k_ => ((fun _ => True)) k_ ∧ some k_ ≠ (u686001 : Value).ownBlock) (Kd.R_apart' (HO_11.out) (Kd.S_typed HO_686001.out) (by decide)) (fun k_ hk => ⟨trivial, hk.2⟩))) (fun _ h_ => h_))); (case aB => exact (b4_ HB.out GE682.out GE683.out GE684.out GE685.out)); (case aF => exact (fun _ _ => trivial)); (case aO => exact (by refine rs_ ?_; exact Kd.S_mono HO_686001.out (fun k_ hk => ⟨trivial, fun e_ => hk e_⟩))); (case aS => exact (below_size (b4_ HB.out GE682.out GE683.out GE684.out GE685.out))); (case aL => have := LMc74.out; omega); intro v716 w84 ho hb hg hat; rw [← Ny715.out] at ho; have n0_ := am_ (blk_grown (g := gb682) (o := .cells #[.slice (some ad696) l0_0.length c0_0, .slice A0_1 l0_1.length c0_1] 27 (0, 0)) (rb_ BK682.out) hg (Kd.S_ne HO_686001.out BK682.out (by decide))); have n1_ := am_ (blk_grown (g := gb683) (o := .cells #[.slice (some ad697) l1_0.length c1_0, .slice A1_1 l1_1.length c1_1] 27 (0, 0)) (rb_ BK683.out) hg (Kd.S_ne HO_686001.out BK683.out (by decide))); have n2_ := am_ (blk_grown (g := gb684) (o := .cells #[.slice none 0 0, .slice none 0 0] 27 (0, 0)) (rb_ BK684.out) hg (Kd.S_ne HO_686001.out BK684.out (by decide))); have n3_ := am_ (blk_grown (g := gb685) (o := .cells #[.slice Ao77 y712.length co77, u686001] 27 (0, 0)) (rb_ BK685.out) hg (Kd.S_ne HO_686001.out BK685.out (by decide))); have n4_ := am_ (Kd.R_over' (rr_ HO714.out) (Kd.S_typed (rs_ HO_686001.out)) (by decide) hg); have n5_ := am_ (hb); have n6_ := am_ (ho); clear BK682; clear BK683; clear BK684; clear BK685; clear HO714; clear HB; clear HO_686001; clear HO_11; have BK682 := n0_; have BK683 := n1_; have BK684 := n2_; have BK685 := n3_; have HO714 := n4_; have HB := n5_; have HO717 := n6_; clear n0_ n1_ n2_ n3_ n4_ n5_ n6_; clear ho hb hg hat; obtain ⟨Ao86, co86, eo86⟩ := Kd.S_slice HO717.out; subst eo86; have hcz87_0 : w84.cell? ⟨gb685, 0, none⟩ = some (.slice Ao77 y712.length co77) := (blk_cell BK685.out 0).trans rfl; have hcz87_1 : w84.cell? ⟨gb685, 1, none⟩ = some (u686001) := (blk_cell BK685.out 1).trans rfl; have hfz87_0 := blk_frozen BK685.out 0; have hfz87_1 := blk_frozen BK685.out 1))
                  go_roundg k3
                  case measure => have := HK1.out; have := HK2.out; have := HK3.out; omega
                  case rel => exact ⟨(wrap64 (x10_2 + 1)), (y712), (y715), (.slice Ao77 y712.length co77), (.slice Ao86 y715.length co86), (by first | rfl | (simp; done) | (simp [*]; done)), H', ⟨by have := HK1.out; have := HK2.out; have := HK3.out; omega⟩, ⟨by refine rr_ ?_; exact Kd.R_mono (Kd.R_far (p := ⟨gb685, 1, none⟩) (Kd.R_types HO714.out BK685.out (by decide)) (fun _ hk => hk.2) (.slice Ao86 y715.length co86)) (fun _ hk => trivial)⟩, ⟨by refine rs_ ?_; exact Kd.S_mono (Kd.S_far (p := ⟨gb685, 1, none⟩) (Kd.S_types HO717.out BK685.out (by decide)) (fun _ hk => hk.2) (.slice Ao86 y715.length co86)) (fun _ hk => trivial)⟩, ⟨by refine rb_ ?_; refine blk_far ?_ NB682_685.out _; refine rb_ ?_; exact BK682.out⟩, ⟨by refine rb_ ?_; refine blk_far ?_ NB683_685.out _; refine rb_ ?_; exact BK683.out⟩, ⟨by refine rb_ ?_; refine blk_far ?_ NB684_685.out _; refine rb_ ?_; exact BK684.out⟩, ⟨by refine rb_ ?_; refine blk_put (cs := #[.slice Ao77 y712.length co77, u686001]) ?_ 1 _ rfl; refine rb_ ?_; exact BK685.out⟩, ⟨by exact zp34_0_ HB.out GE682.out GE683.out GE684.out GE685.out⟩⟩
                 ·rw [if_neg c74] at H
                  exact absurd H (by simp)
                ·rw [if_neg c73] at H
                 exact absurd H (by simp)
              ·rw [if_neg c39] at H
               exact absurd H (by simp)
             ·rw [if_neg c38] at H
              exact absurd H (by simp)
            ·replace c37 := Bool.eq_false_iff.mpr c37
             subst c37
             have H1 : (if a2 = true then (if 0 ≤ x10_2 then (if x10_2 < (l1_0.length : Int) then (if rdOf false l1_0 x10_2 = true then (if x686000_2.length < 140737488355328 then (if x686001_2.length < 5864062014805 then (spec_l7Pairs.l1 k3 a2 (l1_0.length : Int) x9_1 (wrap64 (x10_2 + 1)) l0_0 l0_1 l1_0 l1_1 (x686000_2 ++ [!(false)]) (x686001_2 ++ [x11_3])) else (none)) else (none)) else (if x686000_2.length < 140737488355328 then (if x686001_2.length < 5864062014805 then (spec_l7Pairs.l1 k3 a2 (l1_0.length : Int) x9_1 (wrap64 (x10_2 + 1)) l0_0 l0_1 l1_0 l1_1 (x686000_2 ++ [false]) (x686001_2 ++ [x11_3])) else (none)) else (none))) else (none)) else (none)) else (if x686000_2.length < 140737488355328 then (if x686001_2.length < 5864062014805 then (spec_l7Pairs.l1 k3 a2 (l1_0.length : Int) x9_1 (wrap64 (x10_2 + 1)) l0_0 l0_1 l1_0 l1_1 (x686000_2 ++ [false]) (x686001_2 ++ [x11_3])) else (none)) else (none))) = some (r1, r2) := by rw [if_neg (show ¬ (false = true) by decide)] at H; exact H
             clear H
             have H := H1
             clear H1
             by_cases c88 : a2 = true
             ·subst c88
              have H1 : (if 0 ≤ x10_2 then (if x10_2 < (l1_0.length : Int) then (if rdOf false l1_0 x10_2 = true then (if x686000_2.length < 140737488355328 then (if x686001_2.length < 5864062014805 then (spec_l7Pairs.l1 k3 true (l1_0.length : Int) x9_1 (wrap64 (x10_2 + 1)) l0_0 l0_1 l1_0 l1_1 (x686000_2 ++ [!(false)]) (x686001_2 ++ [x11_3])) else (none)) else (none)) else (if x686000_2.length < 140737488355328 then (if x686001_2.length < 5864062014805 then (spec_l7Pairs.l1 k3 true (l1_0.length : Int) x9_1 (wrap64 (x10_2 + 1)) l0_0 l0_1 l1_0 l1_1 (x686000_2 ++ [false]) (x686001_2 ++ [x11_3])) else (none)) else (none))) else (none)) else (none)) = some (r1, r2) := by rw [if_pos rfl] at H; exact H
              clear H
              have H := H1
              clear H1
              by_cases c89 : 0 ≤ x10_2
              ·rw [if_pos c89] at H
               have c89b0 : decide (0 ≤ x10_2) = true := decide_eq_true c89
               clear c89
               by_cases c90 : x10_2 < (l1_0.length : Int)
               ·rw [if_pos c90] at H
                have c90b0 : decide (x10_2 < (l1_0.length : Int)) = true := decide_eq_true c90
                clear c90
                obtain ⟨bq91, hbq91⟩ : ∃ b_ : Bool, b_ = (rdOf false l1_0 x10_2) := ⟨_, rfl⟩
                replace H : (if bq91 = true then (if x686000_2.length < 140737488355328 then (if x686001_2.length < 5864062014805 then (spec_l7Pairs.l1 k3 true (l1_0.length : Int) x9_1 (wrap64 (x10_2 + 1)) l0_0 l0_1 l1_0 l1_1 (x686000_2 ++ [!(false)]) (x686001_2 ++ [x11_3])) else (none)) else (none)) else (if x686000_2.length < 140737488355328 then (if x686001_2.length < 5864062014805 then (spec_l7Pairs.l1 k3 true (l1_0.length : Int) x9_1 (wrap64 (x10_2 + 1)) l0_0 l0_1 l1_0 l1_1 (x686000_2 ++ [false]) (x686001_2 ++ [x11_3])) else (none)) else (none))) = some (r1, r2) := by rw [← hbq91] at H; exact H
                have Nbq91 := am_ hbq91
                clear hbq91
                by_cases c92 : bq91 = true
                ·subst c92
                 have H1 : (if x686000_2.length < 140737488355328 then (if x686001_2.length < 5864062014805 then (spec_l7Pairs.l1 k3 true (l1_0.length : Int) x9_1 (wrap64 (x10_2 + 1)) l0_0 l0_1 l1_0 l1_1 (x686000_2 ++ [!(false)]) (x686001_2 ++ [x11_3])) else (none)) else (none)) = some (r1, r2) := by rw [if_pos rfl] at H; exact H
                 clear H
                 have H := H1
                 clear H1
                 by_cases c93 : x686000_2.length < 140737488355328
                 ·rw [if_pos c93] at H
                  have LMc93 := am_ c93
                  clear c93
                  obtain ⟨y720, hy720⟩ : ∃ y_ : List Bool, y_ = (x686000_2 ++ [!(false)]) := ⟨_, rfl⟩
                  replace H : (if x686001_2.length < 5864062014805 then (spec_l7Pairs.l1 k3 true (l1_0.length : Int) x9_1 (wrap64 (x10_2 + 1)) l0_0 l0_1 l1_0 l1_1 y720 (x686001_2 ++ [x11_3])) else (none)) = some (r1, r2) := by first | (rw [hy720]; with_reducible exact H) | (have H2_ := (Option.bind_some _ _).symm.trans H; rw [hy720]; with_reducible exact H2_) | (have H2_ := (Option.bind_some _ _).symm.trans H; with_reducible exact H2_) | with_reducible exact H | (rw [hy720]; exact H) | exact H
                  have Ny720 := am_ hy720
                  clear hy720
                  by_cases c94 : x686001_2.length < 5864062014805
                  ·rw [if_pos c94] at H
                   have LMc94 := am_ c94
                   clear c94
                   obtain ⟨y723, hy723⟩ : ∃ y_ : List (List Int), y_ = (x686001_2 ++ [x11_3]) := ⟨_, rfl⟩
                   replace H : (spec_l7Pairs.l1 k3 true (l1_0.length : Int) x9_1 (wrap64 (x10_2 + 1)) l0_0 l0_1 l1_0 l1_1 y720 y723) = some (r1, r2) := by first | (rw [hy723]; with_reducible exact H) | (have H2_ := (Option.bind_some _ _).symm.trans H; rw [hy723]; with_reducible exact H2_) | (have H2_ := (Option.bind_some _ _).symm.trans H; with_reducible exact H2_) | with_reducible exact H | (rw [hy723]; exact H) | exact H
                   have Ny723 := am_ hy723
                   clear hy723
                   have H' := am_ H
                   clear H
                   try go_wp2
                   replace HO_11 := am_ (Kd.R_drew HO_11.out)
                   replace HO_686000 := am_ (Kd.R_drew HO_686000.out)
                   replace HO_686001 := am_ (Kd.S_drew HO_686001.out)
                   replace BK682 := am_ (blk_drew BK682.out)
                   replace BK683 := am_ (blk_drew BK683.out)
                   replace BK684 := am_ (blk_drew BK684.out)
                   replace BK685 := am_ (blk_drew BK685.out)
                   replace HB := am_ (below_drew1 HB.out)
                   have p696 : 0 ≤ (x9_1 : Int) := of_decide_eq_true ah_
                   have q696 : x9_1 < (l0_0.length : Int) := of_decide_eq_true ah_
                   obtain ⟨ad696, e696, hx696_0⟩ := Kd.at_bool HR0_0.out x9_1 p696 q696
                   have hw696_0 := hx696_0
                   (try rw [← Nbq36.out] at hx696_0)
                   (try rw [← Nbq36.out] at hw696_0)
                   (try rw [← Nbq91.out] at hx696_0)
                   (try rw [← Nbq91.out] at hw696_0)
                   cases e696
                   replace hx696_0 := (HB.out.cell (World.block_lt_of_cell? w _ hx696_0)).trans hx696_0
                   replace p696 := eq_true p696
                   replace q696 := eq_true q696
                   have p718 : 0 ≤ (x10_2 : Int) := of_decide_eq_true ah_
                   have q718 : x10_2 < (l1_0.length : Int) := of_decide_eq_true ah_
                   obtain ⟨ad718, e718, hx718_0⟩ := Kd.at_bool HR1_0.out x10_2 p718 q718
                   have hw718_0 := hx718_0
                   (try rw [← Nbq36.out] at hx718_0)
                   (try rw [← Nbq36.out] at hw718_0)
                   (try rw [← Nbq91.out] at hx718_0)
                   (try rw [← Nbq91.out] at hw718_0)
                   cases e718
                   replace hx718_0 := (HB.out.cell (World.block_lt_of_cell? w _ hx718_0)).trans hx718_0
                   replace p718 := eq_true p718
                   replace q718 := eq_true q718
                   have p719 : 0 ≤ (x9_1 : Int) := of_decide_eq_true ah_
                   have q719 : x9_1 < (l0_0.length : Int) := of_decide_eq_true ah_
                   obtain ⟨ad719, e719, hx719_0⟩ := Kd.at_bool HR0_0.out x9_1 p719 q719
                   have hw719_0 := hx719_0
                   (try rw [← Nbq36.out] at hx719_0)
                   (try rw [← Nbq36.out] at hw719_0)
                   (try rw [← Nbq91.out] at hx719_0)
                   (try rw [← Nbq91.out] at hw719_0)
                   obtain rfl : ad696 = ad719 := (by injection e719)
                   replace hx719_0 := (HB.out.cell (World.block_lt_of_cell? w _ hx719_0)).trans hx719_0
                   replace p719 := eq_true p719
                   replace q719 := eq_true q719
                   refine start_ (n := 37) (S := fun w' => w'.cell? ⟨gb685, 0, none⟩ = some (u686000) ∧ w'.cell? ⟨gb685, 1, none⟩ = some (u686001) ∧ w'.cell? ⟨gb682, 0, none⟩ = some (.slice (some ad696) l0_0.length c0_0) ∧ w'.cell? ⟨gb682, 1, none⟩ = some (.slice A0_1 l0_1.length c0_1) ∧ w'.cell? ⟨gb683, 0, none⟩ = some (.slice (some ad718) l1_0.length c1_0) ∧ w'.cell? ⟨gb683, 1, none⟩ = some (.slice A1_1 l1_1.length c1_1) ∧ w'.cell? (ad696.add (x9_1).toNat) = some (.bool false) ∧ w'.cell? (ad718.add (x10_2).toNat) = some (.bool true) ∧ w'.cell? (ad696.add (x9_1).toNat) = some (.bool (false))) (ds := [36]) (bl 37 0) (by kernel_rfl) rfl rfl ⟨(blk_cell BK685.out 0).trans rfl, (blk_cell BK685.out 1).trans rfl, (blk_cell BK682.out 0).trans rfl, (blk_cell BK682.out 1).trans rfl, (blk_cell BK683.out 0).trans rfl, (blk_cell BK683.out 1).trans rfl, ((HB.out.cell (World.block_lt_of_cell? w _ hw696_0)).trans hw696_0), ((HB.out.cell (World.block_lt_of_cell? w _ hw718_0)).trans hw718_0), ((HB.out.cell (World.block_lt_of_cell? w _ hw719_0)).trans hw719_0)⟩ (fun hHeld => ?_); refine with_tabW spec_l7Pairs.tab14 spec_l7Pairs.bits14 (fun HT_ HW_ => ?_)
                   generalize wr.drew = w95 at HO_11 HO_686000 HO_686001 BK682 BK683 BK684 BK685 HB hx696_0 hx718_0 hx719_0 hHeld ⊢
                   refine pu_ 0 56 (bl 37 1) HT_ ?_
                   refine pu_ 2 58 (bl 37 5) HT_ ?_
                   refine pu_ 4 60 (bl 37 21) HT_ ?_
                   refine tk_ 1 57 (bl 37 23) HT_ HW_ hHeld ?_
                   refine tk_ 3 59 (bl 37 31) HT_ HW_ hHeld ?_
                   refine pu_ 5 61 (bl 37 63) HT_ ?_
                   refine tk_ 6 62 (bl 37 127) HT_ HW_ hHeld ?_
                   refine pu_ 7 63 (bl 37 255) HT_ ?_
                   refine pz_ 8 64 (bl 37 511) HT_ ?_
                   refine pz_ 9 65 (bl 37 1023) HT_ ?_
                   refine pz_ 10 66 (bl 37 2047) HT_ ?_
                   refine pz_ 11 67 (bl 37 4095) HT_ ?_
                   refine pz_ 12 68 (bl 37 8191) HT_ ?_
                   refine pz_ 13 69 (bl 37 16383) HT_ ?_
                   refine pu_ 14 70 (bl 37 32767) HT_ ?_
                   refine pu_ 15 71 (bl 37 65535) HT_ ?_
                   refine pu_ 16 72 (bl 37 131071) HT_ ?_
                   refine pu_ 17 73 (bl 37 262143) HT_ ?_
                   refine pu_ 18 74 (bl 37 524287) HT_ ?_
                   refine pu_ 20 76 (bl 37 1572863) HT_ ?_
                   refine tk_ 19 75 (bl 37 2097151) HT_ HW_ hHeld ?_
                   refine pu_ 21 77 (bl 37 4194303) HT_ ?_
                   refine tk_ 22 78 (bl 37 8388607) HT_ HW_ hHeld ?_
                   refine pu_ 23 79 (bl 37 16777215) HT_ ?_
                   refine pu_ 24 80 (bl 37 33554431) HT_ ?_
                   refine pu_ 25 81 (bl 37 67108863) HT_ ?_
                   refine pu_ 27 83 (bl 37 201326591) HT_ ?_
                   refine tk_ 26 82 (bl 37 268435455) HT_ HW_ hHeld ?_
                   refine pu_ 28 84 (bl 37 536870911) HT_ ?_
                   refine tk_ 29 85 (bl 37 1073741823) HT_ HW_ hHeld ?_
                   refine pu_ 30 86 (bl 37 2147483647) HT_ ?_
                   refine pu_ 31 87 (bl 37 4294967295) HT_ ?_
                   refine pu_ 32 88 (bl 37 8589934591) HT_ ?_
                   refine one_ (i := 33) (N := some 89) (bl 37 17179869183) rfl rfl (one_of HT_.out (by kernel_rfl)) (by decide) (fun K hK => ?_)
                   refine value_ (w1 := ?_) (v := ?_) (by rfl) rfl ?_ ?_
                   rotate_left 2
                   ·go_simp
                    constructor
                    ·rfl
                    ·rfl
                   refine hK.out _ _ ⟨(blk_cell (blk_alloc BK685.out _) 0).trans rfl, (blk_cell (blk_alloc BK685.out _) 1).trans rfl, (blk_cell (blk_alloc BK682.out _) 0).trans rfl, (blk_cell (blk_alloc BK682.out _) 1).trans rfl, (blk_cell (blk_alloc BK683.out _) 0).trans rfl, (blk_cell (blk_alloc BK683.out _) 1).trans rfl, (World.cell?_alloc_lt _ _ _ (World.block_lt_of_cell? _ _ (((HB.out.cell (World.block_lt_of_cell? w _ hw696_0)).trans hw696_0)))).trans (((HB.out.cell (World.block_lt_of_cell? w _ hw696_0)).trans hw696_0)), (World.cell?_alloc_lt _ _ _ (World.block_lt_of_cell? _ _ (((HB.out.cell (World.block_lt_of_cell? w _ hw718_0)).trans hw718_0)))).trans (((HB.out.cell (World.block_lt_of_cell? w _ hw718_0)).trans hw718_0)), (World.cell?_alloc_lt _ _ _ (World.block_lt_of_cell? _ _ (((HB.out.cell (World.block_lt_of_cell? w _ hw719_0)).trans hw719_0)))).trans (((HB.out.cell (World.block_lt_of_cell? w _ hw719_0)).trans hw719_0))⟩ (fun hHeld => ?_)
                   clear hK K
                   refine norm_ (a' := ?_) ?_ ?_
                   rotate_left
                   ·show Act.put _ (some 89) _ = _
                    simp only [pn_, sz_, ss_, i64_w, i32_w]
                    rfl
                   refine one_ (i := 34) (N := some 90) (bl 37 34359738367) rfl rfl (one_of HT_.out (by kernel_rfl)) (by decide) (fun K hK => ?_)
                   refine Kd.R_append_step Kd.bool (w0 := w) w.heap.size (by rfl) (.tmp 57) (.tmp 89) 22 4 (.bool false) 1 rfl Try.underlying22 info4 rfl (by decide) (by omega) u686000 x686000_2 (!(false)) [.bool (!(false))] (fun _ => True) (fun _ => False) rfl rfl ?aP (fun _ hk => hk.elim) ?aF ?aO ?aB ?aS ?aL ?_
                   (case aP => exact rfl)
                   (case aB => exact (b4_ HB.out GE682.out GE683.out GE684.out GE685.out))
                   (case aF => exact (fun _ _ => trivial))
                   (case aO => exact (rr_ HO_686000.out))
                   (case aS => exact (below_size (b4_ HB.out GE682.out GE683.out GE684.out GE685.out)))
                   (case aL => have := LMc93.out; omega)
                   intro v721 w96 ho hb hg hat
                   rw [← Ny720.out] at ho
                   replace HO_11 := am_ (Kd.R_over' (rr_ HO_11.out) (Kd.R_typed (rr_ HO_686000.out)) (by decide) hg)
                   replace HO_686001 := am_ (Kd.S_over' (rs_ HO_686001.out) (Kd.R_typed (rr_ HO_686000.out)) (by decide) hg)
                   replace BK682 := am_ (blk_grown (g := gb682) (o := .cells #[.slice (some ad696) l0_0.length c0_0, .slice A0_1 l0_1.length c0_1] 27 (0, 0)) (rb_ BK682.out) hg (Kd.R_ne HO_686000.out BK682.out (by decide)))
                   replace BK683 := am_ (blk_grown (g := gb683) (o := .cells #[.slice (some ad718) l1_0.length c1_0, .slice A1_1 l1_1.length c1_1] 27 (0, 0)) (rb_ BK683.out) hg (Kd.R_ne HO_686000.out BK683.out (by decide)))
                   replace BK684 := am_ (blk_grown (g := gb684) (o := .cells #[.slice none 0 0, .slice none 0 0] 27 (0, 0)) (rb_ BK684.out) hg (Kd.R_ne HO_686000.out BK684.out (by decide)))
                   replace BK685 := am_ (blk_grown (g := gb685) (o := .cells #[u686000, u686001] 27 (0, 0)) (rb_ BK685.out) hg (Kd.R_ne HO_686000.out BK685.out (by decide)))
                   replace HB := am_ (hb)
                   replace HO722 := am_ (ho)
                   clear HO_686000 ho hb hg hat
                   obtain ⟨Ao97, co97, eo97⟩ := Kd.R_slice HO722.out
                   (first | subst eo97 | (injection eo97 with f1_ f2_ f3_; have f4_ := f1_.symm; have f5_ := f3_.symm; clear f1_ f2_ f3_; subst f4_; subst f5_))
                   refine hK.out _ _ ⟨(blk_cell BK685.out 0).trans rfl, (blk_cell BK685.out 1).trans rfl, (blk_cell BK682.out 0).trans rfl, (blk_cell BK682.out 1).trans rfl, (blk_cell BK683.out 0).trans rfl, (blk_cell BK683.out 1).trans rfl, ((HB.out.cell (World.block_lt_of_cell? w _ hw696_0)).trans hw696_0), ((HB.out.cell (World.block_lt_of_cell? w _ hw718_0)).trans hw718_0), ((HB.out.cell (World.block_lt_of_cell? w _ hw719_0)).trans hw719_0)⟩ (fun hHeld => ?_)
                   clear hK K
                   refine norm_ (a' := ?_) ?_ ?_
                   rotate_left
                   ·show Act.put _ (some 90) _ = _
                    simp only [pn_, sz_, ss_, i64_w, i32_w]
                    rfl
                   refine pu_ 35 91 (bl 37 68719476735) HT_ ?_
                   refine last_ (i := 36) (N := none) (bl 37 137438953471) rfl rfl (one_of HT_.out (by kernel_rfl)) (by decide) (fun K hK => ?_)
                   have hs98 : w96.cell? ⟨gb685, 0, none⟩ = some (u686000) := (blk_cell BK685.out 0).trans rfl
                   have hfs98 := blk_frozen BK685.out 0
                   have hns98_0 := NB682_685.out
                   have hns98_1 := NB683_685.out
                   have hns98_2 := NB684_685.out
                   have hms98_0 := NB685_682.out
                   have hms98_1 := NB685_683.out
                   have hms98_2 := NB685_684.out
                   refine skip_ (w1 := ?_) (by rfl) rfl ?_ ?_
                   rotate_left
                   ·go_simp
                    rfl
                   refine hK.out _ _ ?_
                   clear hK K
                   refine done_ (done_of HT_.out (by kernel_rfl)) ?_
                   have n0_ : Aside0 (Kd.R (Kd.int .i64) 3 (w96.setCell ⟨gb685, 0, none⟩ (.slice Ao97 y720.length co97)) w.heap.size (fun _ => True) u11 x11_3) := ⟨by refine rr_ ?_; exact Kd.R_mono (Kd.R_far (p := ⟨gb685, 0, none⟩) (Kd.R_types HO_11.out BK685.out (by decide)) (fun _ hk => hk.2) (.slice Ao97 y720.length co97)) (fun _ hk => trivial)⟩
                   have n1_ : Aside0 (Kd.S (Kd.slice 3 (Kd.int .i64)) 67 (w96.setCell ⟨gb685, 0, none⟩ (.slice Ao97 y720.length co97)) w.heap.size (fun k_ => some k_ ≠ (u11 : Value).ownBlock) u686001 x686001_2) := ⟨by refine rs_ ?_; exact Kd.S_mono (Kd.S_far (p := ⟨gb685, 0, none⟩) (Kd.S_types HO_686001.out BK685.out (by decide)) (fun _ hk => hk.2) (.slice Ao97 y720.length co97)) (fun _ hk => hk.1)⟩
                   have n2_ : Aside0 (Kd.R Kd.bool 4 (w96.setCell ⟨gb685, 0, none⟩ (.slice Ao97 y720.length co97)) w.heap.size (fun _ => True) (.slice Ao97 y720.length co97) y720) := ⟨by refine rr_ ?_; exact Kd.R_mono (Kd.R_far (p := ⟨gb685, 0, none⟩) (Kd.R_types HO722.out BK685.out (by decide)) (fun _ hk => hk.2) (.slice Ao97 y720.length co97)) (fun _ hk => trivial)⟩
                   have n3_ : Aside0 ((w96.setCell ⟨gb685, 0, none⟩ (.slice Ao97 y720.length co97)).heap[gb682]? = some (.cells #[.slice (some ad696) l0_0.length c0_0, .slice A0_1 l0_1.length c0_1] 27 (0, 0))) := ⟨by refine rb_ ?_; refine blk_far ?_ NB682_685.out _; refine rb_ ?_; exact BK682.out⟩
                   have n4_ : Aside0 ((w96.setCell ⟨gb685, 0, none⟩ (.slice Ao97 y720.length co97)).heap[gb683]? = some (.cells #[.slice (some ad718) l1_0.length c1_0, .slice A1_1 l1_1.length c1_1] 27 (0, 0))) := ⟨by refine rb_ ?_; refine blk_far ?_ NB683_685.out _; refine rb_ ?_; exact BK683.out⟩
                   have n5_ : Aside0 ((w96.setCell ⟨gb685, 0, none⟩ (.slice Ao97 y720.length co97)).heap[gb684]? = some (.cells #[.slice none 0 0, .slice none 0 0] 27 (0, 0))) := ⟨by refine rb_ ?_; refine blk_far ?_ NB684_685.out _; refine rb_ ?_; exact BK684.out⟩
                   have n6_ : Aside0 ((w96.setCell ⟨gb685, 0, none⟩ (.slice Ao97 y720.length co97)).heap[gb685]? = some (.cells #[.slice Ao97 y720.length co97, u686001] 27 (0, 0))) := ⟨by refine rb_ ?_; refine blk_put (cs := #[u686000, u686001]) ?_ 0 _ rfl; refine rb_ ?_; exact BK685.out⟩
                   have n7_ : Aside0 (Below w.heap.size w (w96.setCell ⟨gb685, 0, none⟩ (.slice Ao97 y720.length co97))) := ⟨by exact zp34_0_ HB.out GE682.out GE683.out GE684.out GE685.out⟩
                   (try clear HO_11)
                   (try clear HO_686001)
                   (try clear HO722)
                   (try clear BK682)
                   (try clear BK683)
                   (try clear BK684)
                   (try clear BK685)
                   (try clear HB)
                   generalize (w96.setCell ⟨gb685, 0, none⟩ (.slice Ao97 y720.length co97)) = w99 at n0_ n1_ n2_ n3_ n4_ n5_ n6_ n7_ ⊢
                   have HO_11 := n0_; have HO_686001 := n1_; have HO722 := n2_; have BK682 := n3_; have BK683 := n4_; have BK684 := n5_; have BK685 := n6_; have HB := n7_
                   clear n0_ n1_ n2_ n3_ n4_ n5_ n6_ n7_
                   have hnb100 := NB685_682.out
                   have hnc100 := NB682_685.out
                   have hnb101 := NB685_683.out
                   have hnc101 := NB683_685.out
                   have hnb102 := NB685_684.out
                   have hnc102 := NB684_685.out
                   have hcz103_0 : w99.cell? ⟨gb685, 0, none⟩ = some (.slice Ao97 y720.length co97) := (blk_cell BK685.out 0).trans rfl
                   have hcz103_1 : w99.cell? ⟨gb685, 1, none⟩ = some (u686001) := (blk_cell BK685.out 1).trans rfl
                   have hfz103_0 := blk_frozen BK685.out 0
                   have hfz103_1 := blk_frozen BK685.out 1
                   obtain ⟨Ao105, co105, eo105⟩ := Kd.R_slice HO_11.out
                   subst eo105
                   try go_wp2_with (first | ((with_reducible refine gate_builtin (b := .append) (xs := #[.tmp 93, .tmp 95]) rfl ?_); at_builtin; refine Kd.S_append (Kd.slice 3 (Kd.int .i64)) (w0 := w) w.heap.size rfl (.tmp 93) (.tmp 95) 23 67 (.slice none 0 0) 24 rfl Try.underlying23 info67 rfl (by decide) (by omega) u686001 x686001_2 x11_3 [.slice Ao105 x11_3.length co105] (fun _ => True) (fun k_ => some k_ = (.slice Ao105 x11_3.length co105 : Value).ownBlock) rfl rfl ?aP (fun k_ hk_ => ((Kd.R_mono (ok' := fun k_ => ((fun _ => True)) k_ ∧ some k_ ≠ (u686001 : Value).ownBlock) (Kd.R_apart' (HO_11.out) (Kd.S_typed HO_686001.out) (by decide)) (fun k_ hk => ⟨trivial, hk.2⟩))).1 k_ hk_.symm) ?aF ?aO ?aB ?aS ?aL ?_; (case aP => exact Kd.M_row (Kd.R_mono (Kd.R_tight rfl (Kd.R_mono (ok' := fun k_ => ((fun _ => True)) k_ ∧ some k_ ≠ (u686001 : Value).ownBlock) (Kd.R_apart' (HO_11.out) (Kd.S_typed HO_686001.out) (by decide)) (fun k_ hk => ⟨trivial, hk.2⟩))) (fun _ h_ => h_))); (case aB => exact (b4_ HB.out GE682.out GE683.out GE684.out GE685.out)); (case aF => exact (fun _ _ => trivial)); (case aO => exact (by refine rs_ ?_; exact Kd.S_mono HO_686001.out (fun k_ hk => ⟨trivial, fun e_ => hk e_⟩))); (case aS => exact (below_size (b4_ HB.out GE682.out GE683.out GE684.out GE685.out))); (case aL => have := LMc94.out; omega); intro v724 w104 ho hb hg hat; rw [← Ny723.out] at ho; have n0_ := am_ (blk_grown (g := gb682) (o := .cells #[.slice (some ad696) l0_0.length c0_0, .slice A0_1 l0_1.length c0_1] 27 (0, 0)) (rb_ BK682.out) hg (Kd.S_ne HO_686001.out BK682.out (by decide))); have n1_ := am_ (blk_grown (g := gb683) (o := .cells #[.slice (some ad718) l1_0.length c1_0, .slice A1_1 l1_1.length c1_1] 27 (0, 0)) (rb_ BK683.out) hg (Kd.S_ne HO_686001.out BK683.out (by decide))); have n2_ := am_ (blk_grown (g := gb684) (o := .cells #[.slice none 0 0, .slice none 0 0] 27 (0, 0)) (rb_ BK684.out) hg (Kd.S_ne HO_686001.out BK684.out (by decide))); have n3_ := am_ (blk_grown (g := gb685) (o := .cells #[.slice Ao97 y720.length co97, u686001] 27 (0, 0)) (rb_ BK685.out) hg (Kd.S_ne HO_686001.out BK685.out (by decide))); have n4_ := am_ (Kd.R_over' (rr_ HO722.out) (Kd.S_typed (rs_ HO_686001.out)) (by decide) hg); have n5_ := am_ (hb); have n6_ := am_ (ho); clear BK682; clear BK683; clear BK684; clear BK685; clear HO722; clear HB; clear HO_686001; clear HO_11; have BK682 := n0_; have BK683 := n1_; have BK684 := n2_; have BK685 := n3_; have HO722 := n4_; have HB := n5_; have HO725 := n6_; clear n0_ n1_ n2_ n3_ n4_ n5_ n6_; clear ho hb hg hat; obtain ⟨Ao106, co106, eo106⟩ := Kd.S_slice HO725.out; subst eo106; have hcz107_0 : w104.cell? ⟨gb685, 0, none⟩ = some (.slice Ao97 y720.length co97) := (blk_cell BK685.out 0).trans rfl; have hcz107_1 : w104.cell? ⟨gb685, 1, none⟩ = some (u686001) := (blk_cell BK685.out 1).trans rfl; have hfz107_0 := blk_frozen BK685.out 0; have hfz107_1 := blk_frozen BK685.out 1))
                   go_roundg k3
                   case measure => have := HK1.out; have := HK2.out; have := HK3.out; omega
                   case rel => exact ⟨(wrap64 (x10_2 + 1)), (y720), (y723), (.slice Ao97 y720.length co97), (.slice Ao106 y723.length co106), (by first | rfl | (simp; done) | (simp [*]; done)), H', ⟨by have := HK1.out; have := HK2.out; have := HK3.out; omega⟩, ⟨by refine rr_ ?_; exact Kd.R_mono (Kd.R_far (p := ⟨gb685, 1, none⟩) (Kd.R_types HO722.out BK685.out (by decide)) (fun _ hk => hk.2) (.slice Ao106 y723.length co106)) (fun _ hk => trivial)⟩, ⟨by refine rs_ ?_; exact Kd.S_mono (Kd.S_far (p := ⟨gb685, 1, none⟩) (Kd.S_types HO725.out BK685.out (by decide)) (fun _ hk => hk.2) (.slice Ao106 y723.length co106)) (fun _ hk => trivial)⟩, ⟨by refine rb_ ?_; refine blk_far ?_ NB682_685.out _; refine rb_ ?_; exact BK682.out⟩, ⟨by refine rb_ ?_; refine blk_far ?_ NB683_685.out _; refine rb_ ?_; exact BK683.out⟩, ⟨by refine rb_ ?_; refine blk_far ?_ NB684_685.out _; refine rb_ ?_; exact BK684.out⟩, ⟨by refine rb_ ?_; refine blk_put (cs := #[.slice Ao97 y720.length co97, u686001]) ?_ 1 _ rfl; refine rb_ ?_; exact BK685.out⟩, ⟨by exact zp34_0_ HB.out GE682.out GE683.out GE684.out GE685.out⟩⟩
                  ·rw [if_neg c94] at H
                   exact absurd H (by simp)
                 ·rw [if_neg c93] at H
                  exact absurd H (by simp)
                ·replace c92 := Bool.eq_false_iff.mpr c92
                 subst c92
                 have H1 : (if x686000_2.length < 140737488355328 then (if x686001_2.length < 5864062014805 then (spec_l7Pairs.l1 k3 true (l1_0.length : Int) x9_1 (wrap64 (x10_2 + 1)) l0_0 l0_1 l1_0 l1_1 (x686000_2 ++ [false]) (x686001_2 ++ [x11_3])) else (none)) else (none)) = some (r1, r2) := by rw [if_neg (show ¬ (false = true) by decide)] at H; exact H
                 clear H
                 have H := H1
                 clear H1
                 by_cases c108 : x686000_2.length < 140737488355328
                 ·rw [if_pos c108] at H
                  have LMc108 := am_ c108
                  clear c108
                  obtain ⟨y726, hy726⟩ : ∃ y_ : List Bool, y_ = (x686000_2 ++ [false]) := ⟨_, rfl⟩
                  replace H : (if x686001_2.length < 5864062014805 then (spec_l7Pairs.l1 k3 true (l1_0.length : Int) x9_1 (wrap64 (x10_2 + 1)) l0_0 l0_1 l1_0 l1_1 y726 (x686001_2 ++ [x11_3])) else (none)) = some (r1, r2) := by first | (rw [hy726]; with_reducible exact H) | (have H2_ := (Option.bind_some _ _).symm.trans H; rw [hy726]; with_reducible exact H2_) | (have H2_ := (Option.bind_some _ _).symm.trans H; with_reducible exact H2_) | with_reducible exact H | (rw [hy726]; exact H) | exact H
                  have Ny726 := am_ hy726
                  clear hy726
                  by_cases c109 : x686001_2.length < 5864062014805
                  ·rw [if_pos c109] at H
                   have LMc109 := am_ c109
                   clear c109
                   obtain ⟨y729, hy729⟩ : ∃ y_ : List (List Int), y_ = (x686001_2 ++ [x11_3]) := ⟨_, rfl⟩
                   replace H : (spec_l7Pairs.l1 k3 true (l1_0.length : Int) x9_1 (wrap64 (x10_2 + 1)) l0_0 l0_1 l1_0 l1_1 y726 y729) = some (r1, r2) := by first | (rw [hy729]; with_reducible exact H) | (have H2_ := (Option.bind_some _ _).symm.trans H; rw [hy729]; with_reducible exact H2_) | (have H2_ := (Option.bind_some _ _).symm.trans H; with_reducible exact H2_) | with_reducible exact H | (rw [hy729]; exact H) | exact H
                   have Ny729 := am_ hy729
                   clear hy729
                   have H' := am_ H
                   clear H
                   try go_wp2
                   replace HO_11 := am_ (Kd.R_drew HO_11.out)
                   replace HO_686000 := am_ (Kd.R_drew HO_686000.out)
                   replace HO_686001 := am_ (Kd.S_drew HO_686001.out)
                   replace BK682 := am_ (blk_drew BK682.out)
                   replace BK683 := am_ (blk_drew BK683.out)
                   replace BK684 := am_ (blk_drew BK684.out)
                   replace BK685 := am_ (blk_drew BK685.out)
                   replace HB := am_ (below_drew1 HB.out)
                   have p696 : 0 ≤ (x9_1 : Int) := of_decide_eq_true ah_
                   have q696 : x9_1 < (l0_0.length : Int) := of_decide_eq_true ah_
                   obtain ⟨ad696, e696, hx696_0⟩ := Kd.at_bool HR0_0.out x9_1 p696 q696
                   have hw696_0 := hx696_0
                   (try rw [← Nbq36.out] at hx696_0)
                   (try rw [← Nbq36.out] at hw696_0)
                   (try rw [← Nbq91.out] at hx696_0)
                   (try rw [← Nbq91.out] at hw696_0)
                   cases e696
                   replace hx696_0 := (HB.out.cell (World.block_lt_of_cell? w _ hx696_0)).trans hx696_0
                   replace p696 := eq_true p696
                   replace q696 := eq_true q696
                   have p718 : 0 ≤ (x10_2 : Int) := of_decide_eq_true ah_
                   have q718 : x10_2 < (l1_0.length : Int) := of_decide_eq_true ah_
                   obtain ⟨ad718, e718, hx718_0⟩ := Kd.at_bool HR1_0.out x10_2 p718 q718
                   have hw718_0 := hx718_0
                   (try rw [← Nbq36.out] at hx718_0)
                   (try rw [← Nbq36.out] at hw718_0)
                   (try rw [← Nbq91.out] at hx718_0)
                   (try rw [← Nbq91.out] at hw718_0)
                   cases e718
                   replace hx718_0 := (HB.out.cell (World.block_lt_of_cell? w _ hx718_0)).trans hx718_0
                   replace p718 := eq_true p718
                   replace q718 := eq_true q718
                   refine start_ (n := 37) (S := fun w' => w'.cell? ⟨gb685, 0, none⟩ = some (u686000) ∧ w'.cell? ⟨gb685, 1, none⟩ = some (u686001) ∧ w'.cell? ⟨gb682, 0, none⟩ = some (.slice (some ad696) l0_0.length c0_0) ∧ w'.cell? ⟨gb682, 1, none⟩ = some (.slice A0_1 l0_1.length c0_1) ∧ w'.cell? ⟨gb683, 0, none⟩ = some (.slice (some ad718) l1_0.length c1_0) ∧ w'.cell? ⟨gb683, 1, none⟩ = some (.slice A1_1 l1_1.length c1_1) ∧ w'.cell? (ad696.add (x9_1).toNat) = some (.bool false) ∧ w'.cell? (ad718.add (x10_2).toNat) = some (.bool false)) (ds := [36]) (bl 37 0) (by kernel_rfl) rfl rfl ⟨(blk_cell BK685.out 0).trans rfl, (blk_cell BK685.out 1).trans rfl, (blk_cell BK682.out 0).trans rfl, (blk_cell BK682.out 1).trans rfl, (blk_cell BK683.out 0).trans rfl, (blk_cell BK683.out 1).trans rfl, ((HB.out.cell (World.block_lt_of_cell? w _ hw696_0)).trans hw696_0), ((HB.out.cell (World.block_lt_of_cell? w _ hw718_0)).trans hw718_0)⟩ (fun hHeld => ?_); refine with_tabW spec_l7Pairs.tab14 spec_l7Pairs.bits14 (fun HT_ HW_ => ?_)
                   generalize wr.drew = w110 at HO_11 HO_686000 HO_686001 BK682 BK683 BK684 BK685 HB hx696_0 hx718_0 hHeld ⊢
                   refine pu_ 0 56 (bl 37 1) HT_ ?_
                   refine pu_ 2 58 (bl 37 5) HT_ ?_
                   refine pu_ 4 60 (bl 37 21) HT_ ?_
                   refine tk_ 1 57 (bl 37 23) HT_ HW_ hHeld ?_
                   refine tk_ 3 59 (bl 37 31) HT_ HW_ hHeld ?_
                   refine pu_ 5 61 (bl 37 63) HT_ ?_
                   refine tk_ 6 62 (bl 37 127) HT_ HW_ hHeld ?_
                   refine pu_ 7 63 (bl 37 255) HT_ ?_
                   refine pz_ 8 64 (bl 37 511) HT_ ?_
                   refine pz_ 9 65 (bl 37 1023) HT_ ?_
                   refine pz_ 10 66 (bl 37 2047) HT_ ?_
                   refine pz_ 11 67 (bl 37 4095) HT_ ?_
                   refine pz_ 12 68 (bl 37 8191) HT_ ?_
                   refine pz_ 13 69 (bl 37 16383) HT_ ?_
                   refine pu_ 14 70 (bl 37 32767) HT_ ?_
                   refine pu_ 15 71 (bl 37 65535) HT_ ?_
                   refine pu_ 16 72 (bl 37 131071) HT_ ?_
                   refine pu_ 17 73 (bl 37 262143) HT_ ?_
                   refine pu_ 18 74 (bl 37 524287) HT_ ?_
                   refine pu_ 20 76 (bl 37 1572863) HT_ ?_
                   refine tk_ 19 75 (bl 37 2097151) HT_ HW_ hHeld ?_
                   refine pu_ 21 77 (bl 37 4194303) HT_ ?_
                   refine tk_ 22 78 (bl 37 8388607) HT_ HW_ hHeld ?_
                   refine pu_ 23 79 (bl 37 16777215) HT_ ?_
                   refine pu_ 24 80 (bl 37 33554431) HT_ ?_
                   refine pz_ 25 81 (bl 37 67108863) HT_ ?_
                   refine pz_ 26 82 (bl 37 134217727) HT_ ?_
                   refine pz_ 27 83 (bl 37 268435455) HT_ ?_
                   refine pz_ 28 84 (bl 37 536870911) HT_ ?_
                   refine pz_ 29 85 (bl 37 1073741823) HT_ ?_
                   refine pz_ 30 86 (bl 37 2147483647) HT_ ?_
                   refine pu_ 31 87 (bl 37 4294967295) HT_ ?_
                   refine pu_ 32 88 (bl 37 8589934591) HT_ ?_
                   refine one_ (i := 33) (N := some 89) (bl 37 17179869183) rfl rfl (one_of HT_.out (by kernel_rfl)) (by decide) (fun K hK => ?_)
                   refine value_ (w1 := ?_) (v := ?_) (by rfl) rfl ?_ ?_
                   rotate_left 2
                   ·go_simp
                    constructor
                    ·rfl
                    ·rfl
                   refine hK.out _ _ ⟨(blk_cell (blk_alloc BK685.out _) 0).trans rfl, (blk_cell (blk_alloc BK685.out _) 1).trans rfl, (blk_cell (blk_alloc BK682.out _) 0).trans rfl, (blk_cell (blk_alloc BK682.out _) 1).trans rfl, (blk_cell (blk_alloc BK683.out _) 0).trans rfl, (blk_cell (blk_alloc BK683.out _) 1).trans rfl, (World.cell?_alloc_lt _ _ _ (World.block_lt_of_cell? _ _ (((HB.out.cell (World.block_lt_of_cell? w _ hw696_0)).trans hw696_0)))).trans (((HB.out.cell (World.block_lt_of_cell? w _ hw696_0)).trans hw696_0)), (World.cell?_alloc_lt _ _ _ (World.block_lt_of_cell? _ _ (((HB.out.cell (World.block_lt_of_cell? w _ hw718_0)).trans hw718_0)))).trans (((HB.out.cell (World.block_lt_of_cell? w _ hw718_0)).trans hw718_0))⟩ (fun hHeld => ?_)
                   clear hK K
                   refine norm_ (a' := ?_) ?_ ?_
                   rotate_left
                   ·show Act.put _ (some 89) _ = _
                    simp only [pn_, sz_, ss_, i64_w, i32_w]
                    rfl
                   refine one_ (i := 34) (N := some 90) (bl 37 34359738367) rfl rfl (one_of HT_.out (by kernel_rfl)) (by decide) (fun K hK => ?_)
                   refine Kd.R_append_step Kd.bool (w0 := w) w.heap.size (by rfl) (.tmp 57) (.tmp 89) 22 4 (.bool false) 1 rfl Try.underlying22 info4 rfl (by decide) (by omega) u686000 x686000_2 false [.bool false] (fun _ => True) (fun _ => False) rfl rfl ?aP (fun _ hk => hk.elim) ?aF ?aO ?aB ?aS ?aL ?_
                   (case aP => exact rfl)
                   (case aB => exact (b4_ HB.out GE682.out GE683.out GE684.out GE685.out))
                   (case aF => exact (fun _ _ => trivial))
                   (case aO => exact (rr_ HO_686000.out))
                   (case aS => exact (below_size (b4_ HB.out GE682.out GE683.out GE684.out GE685.out)))
                   (case aL => have := LMc108.out; omega)
                   intro v727 w111 ho hb hg hat
                   rw [← Ny726.out] at ho
                   replace HO_11 := am_ (Kd.R_over' (rr_ HO_11.out) (Kd.R_typed (rr_ HO_686000.out)) (by decide) hg)
                   replace HO_686001 := am_ (Kd.S_over' (rs_ HO_686001.out) (Kd.R_typed (rr_ HO_686000.out)) (by decide) hg)
                   replace BK682 := am_ (blk_grown (g := gb682) (o := .cells #[.slice (some ad696) l0_0.length c0_0, .slice A0_1 l0_1.length c0_1] 27 (0, 0)) (rb_ BK682.out) hg (Kd.R_ne HO_686000.out BK682.out (by decide)))
                   replace BK683 := am_ (blk_grown (g := gb683) (o := .cells #[.slice (some ad718) l1_0.length c1_0, .slice A1_1 l1_1.length c1_1] 27 (0, 0)) (rb_ BK683.out) hg (Kd.R_ne HO_686000.out BK683.out (by decide)))
                   replace BK684 := am_ (blk_grown (g := gb684) (o := .cells #[.slice none 0 0, .slice none 0 0] 27 (0, 0)) (rb_ BK684.out) hg (Kd.R_ne HO_686000.out BK684.out (by decide)))
                   replace BK685 := am_ (blk_grown (g := gb685) (o := .cells #[u686000, u686001] 27 (0, 0)) (rb_ BK685.out) hg (Kd.R_ne HO_686000.out BK685.out (by decide)))
                   replace HB := am_ (hb)
                   replace HO728 := am_ (ho)
                   clear HO_686000 ho hb hg hat
                   obtain ⟨Ao112, co112, eo112⟩ := Kd.R_slice HO728.out
                   (first | subst eo112 | (injection eo112 with f1_ f2_ f3_; have f4_ := f1_.symm; have f5_ := f3_.symm; clear f1_ f2_ f3_; subst f4_; subst f5_))
                   refine hK.out _ _ ⟨(blk_cell BK685.out 0).trans rfl, (blk_cell BK685.out 1).trans rfl, (blk_cell BK682.out 0).trans rfl, (blk_cell BK682.out 1).trans rfl, (blk_cell BK683.out 0).trans rfl, (blk_cell BK683.out 1).trans rfl, ((HB.out.cell (World.block_lt_of_cell? w _ hw696_0)).trans hw696_0), ((HB.out.cell (World.block_lt_of_cell? w _ hw718_0)).trans hw718_0)⟩ (fun hHeld => ?_)
                   clear hK K
                   refine norm_ (a' := ?_) ?_ ?_
                   rotate_left
                   ·show Act.put _ (some 90) _ = _
                    simp only [pn_, sz_, ss_, i64_w, i32_w]
                    rfl
                   refine pu_ 35 91 (bl 37 68719476735) HT_ ?_
                   refine last_ (i := 36) (N := none) (bl 37 137438953471) rfl rfl (one_of HT_.out (by kernel_rfl)) (by decide) (fun K hK => ?_)
                   have hs113 : w111.cell? ⟨gb685, 0, none⟩ = some (u686000) := (blk_cell BK685.out 0).trans rfl
                   have hfs113 := blk_frozen BK685.out 0
                   have hns113_0 := NB682_685.out
                   have hns113_1 := NB683_685.out
                   have hns113_2 := NB684_685.out
                   have hms113_0 := NB685_682.out
                   have hms113_1 := NB685_683.out
                   have hms113_2 := NB685_684.out
                   refine skip_ (w1 := ?_) (by rfl) rfl ?_ ?_
                   rotate_left
                   ·go_simp
                    rfl
                   refine hK.out _ _ ?_
                   clear hK K
                   refine done_ (done_of HT_.out (by kernel_rfl)) ?_
                   have n0_ : Aside0 (Kd.R (Kd.int .i64) 3 (w111.setCell ⟨gb685, 0, none⟩ (.slice Ao112 y726.length co112)) w.heap.size (fun _ => True) u11 x11_3) := ⟨by refine rr_ ?_; exact Kd.R_mono (Kd.R_far (p := ⟨gb685, 0, none⟩) (Kd.R_types HO_11.out BK685.out (by decide)) (fun _ hk => hk.2) (.slice Ao112 y726.length co112)) (fun _ hk => trivial)⟩
                   have n1_ : Aside0 (Kd.S (Kd.slice 3 (Kd.int .i64)) 67 (w111.setCell ⟨gb685, 0, none⟩ (.slice Ao112 y726.length co112)) w.heap.size (fun k_ => some k_ ≠ (u11 : Value).ownBlock) u686001 x686001_2) := ⟨by refine rs_ ?_; exact Kd.S_mono (Kd.S_far (p := ⟨gb685, 0, none⟩) (Kd.S_types HO_686001.out BK685.out (by decide)) (fun _ hk => hk.2) (.slice Ao112 y726.length co112)) (fun _ hk => hk.1)⟩
                   have n2_ : Aside0 (Kd.R Kd.bool 4 (w111.setCell ⟨gb685, 0, none⟩ (.slice Ao112 y726.length co112)) w.heap.size (fun _ => True) (.slice Ao112 y726.length co112) y726) := ⟨by refine rr_ ?_; exact Kd.R_mono (Kd.R_far (p := ⟨gb685, 0, none⟩) (Kd.R_types HO728.out BK685.out (by decide)) (fun _ hk => hk.2) (.slice Ao112 y726.length co112)) (fun _ hk => trivial)⟩
                   have n3_ : Aside0 ((w111.setCell ⟨gb685, 0, none⟩ (.slice Ao112 y726.length co112)).heap[gb682]? = some (.cells #[.slice (some ad696) l0_0.length c0_0, .slice A0_1 l0_1.length c0_1] 27 (0, 0))) := ⟨by refine rb_ ?_; refine blk_far ?_ NB682_685.out _; refine rb_ ?_; exact BK682.out⟩
                   have n4_ : Aside0 ((w111.setCell ⟨gb685, 0, none⟩ (.slice Ao112 y726.length co112)).heap[gb683]? = some (.cells #[.slice (some ad718) l1_0.length c1_0, .slice A1_1 l1_1.length c1_1] 27 (0, 0))) := ⟨by refine rb_ ?_; refine blk_far ?_ NB683_685.out _; refine rb_ ?_; exact BK683.out⟩
                   have n5_ : Aside0 ((w111.setCell ⟨gb685, 0, none⟩ (.slice Ao112 y726.length co112)).heap[gb684]? = some (.cells #[.slice none 0 0, .slice none 0 0] 27 (0, 0))) := ⟨by refine rb_ ?_; refine blk_far ?_ NB684_685.out _; refine rb_ ?_; exact BK684.out⟩
                   have n6_ : Aside0 ((w111.setCell ⟨gb685, 0, none⟩ (.slice Ao112 y726.length co112)).heap[gb685]? = some (.cells #[.slice Ao112 y726.length co112, u686001] 27 (0, 0))) := ⟨by refine rb_ ?_; refine blk_put (cs := #[u686000, u686001]) ?_ 0 _ rfl; refine rb_ ?_; exact BK685.out⟩
                   have n7_ : Aside0 (Below w.heap.size w (w111.setCell ⟨gb685, 0, none⟩ (.slice Ao112 y726.length co112))) := ⟨by exact zp34_0_ HB.out GE682.out GE683.out GE684.out GE685.out⟩
                   (try clear HO_11)
                   (try clear HO_686001)
                   (try clear HO728)
                   (try clear BK682)
                   (try clear BK683)
                   (try clear BK684)
                   (try clear BK685)
                   (try clear HB)
                   generalize (w111.setCell ⟨gb685, 0, none⟩ (.slice Ao112 y726.length co112)) = w114 at n0_ n1_ n2_ n3_ n4_ n5_ n6_ n7_ ⊢
                   have HO_11 := n0_; have HO_686001 := n1_; have HO728 := n2_; have BK682 := n3_; have BK683 := n4_; have BK684 := n5_; have BK685 := n6_; have HB := n7_
                   clear n0_ n1_ n2_ n3_ n4_ n5_ n6_ n7_
                   have hnb115 := NB685_682.out
                   have hnc115 := NB682_685.out
                   have hnb116 := NB685_683.out
                   have hnc116 := NB683_685.out
                   have hnb117 := NB685_684.out
                   have hnc117 := NB684_685.out
                   have hcz118_0 : w114.cell? ⟨gb685, 0, none⟩ = some (.slice Ao112 y726.length co112) := (blk_cell BK685.out 0).trans rfl
                   have hcz118_1 : w114.cell? ⟨gb685, 1, none⟩ = some (u686001) := (blk_cell BK685.out 1).trans rfl
                   have hfz118_0 := blk_frozen BK685.out 0
                   have hfz118_1 := blk_frozen BK685.out 1
                   obtain ⟨Ao120, co120, eo120⟩ := Kd.R_slice HO_11.out
                   subst eo120
                   try go_wp2_with (first | ((with_reducible refine gate_builtin (b := .append) (xs := #[.tmp 93, .tmp 95]) rfl ?_); at_builtin; refine Kd.S_append (Kd.slice 3 (Kd.int .i64)) (w0 := w) w.heap.size rfl (.tmp 93) (.tmp 95) 23 67 (.slice none 0 0) 24 rfl Try.underlying23 info67 rfl (by decide) (by omega) u686001 x686001_2 x11_3 [.slice Ao120 x11_3.length co120] (fun _ => True) (fun k_ => some k_ = (.slice Ao120 x11_3.length co120 : Value).ownBlock) rfl rfl ?aP (fun k_ hk_ => ((Kd.R_mono (ok' := fun k_ => ((fun _ => True)) k_ ∧ some k_ ≠ (u686001 : Value).ownBlock) (Kd.R_apart' (HO_11.out) (Kd.S_typed HO_686001.out) (by decide)) (fun k_ hk => ⟨trivial, hk.2⟩))).1 k_ hk_.symm) ?aF ?aO ?aB ?aS ?aL ?_; (case aP => exact Kd.M_row (Kd.R_mono (Kd.R_tight rfl (Kd.R_mono (ok' := fun k_ => ((fun _ => True)) k_ ∧ some k_ ≠ (u686001 : Value).ownBlock) (Kd.R_apart' (HO_11.out) (Kd.S_typed HO_686001.out) (by decide)) (fun k_ hk => ⟨trivial, hk.2⟩))) (fun _ h_ => h_))); (case aB => exact (b4_ HB.out GE682.out GE683.out GE684.out GE685.out)); (case aF => exact (fun _ _ => trivial)); (case aO => exact (by refine rs_ ?_; exact Kd.S_mono HO_686001.out (fun k_ hk => ⟨trivial, fun e_ => hk e_⟩))); (case aS => exact (below_size (b4_ HB.out GE682.out GE683.out GE684.out GE685.out))); (case aL => have := LMc109.out; omega); intro v730 w119 ho hb hg hat; rw [← Ny729.out] at ho; have n0_ := am_ (blk_grown (g := gb682) (o := .cells #[.slice (some ad696) l0_0.length c0_0, .slice A0_1 l0_1.length c0_1] 27 (0, 0)) (rb_ BK682.out) hg (Kd.S_ne HO_686001.out BK682.out (by decide))); have n1_ := am_ (blk_grown (g := gb683) (o := .cells #[.slice (some ad718) l1_0.length c1_0, .slice A1_1 l1_1.length c1_1] 27 (0, 0)) (rb_ BK683.out) hg (Kd.S_ne HO_686001.out BK683.out (by decide))); have n2_ := am_ (blk_grown (g := gb684) (o := .cells #[.slice none 0 0, .slice none 0 0] 27 (0, 0)) (rb_ BK684.out) hg (Kd.S_ne HO_686001.out BK684.out (by decide))); have n3_ := am_ (blk_grown (g := gb685) (o := .cells #[.slice Ao112 y726.length co112, u686001] 27 (0, 0)) (rb_ BK685.out) hg (Kd.S_ne HO_686001.out BK685.out (by decide))); have n4_ := am_ (Kd.R_over' (rr_ HO728.out) (Kd.S_typed (rs_ HO_686001.out)) (by decide) hg); have n5_ := am_ (hb); have n6_ := am_ (ho); clear BK682; clear BK683; clear BK684; clear BK685; clear HO728; clear HB; clear HO_686001; clear HO_11; have BK682 := n0_; have BK683 := n1_; have BK684 := n2_; have BK685 := n3_; have HO728 := n4_; have HB := n5_; have HO731 := n6_; clear n0_ n1_ n2_ n3_ n4_ n5_ n6_; clear ho hb hg hat; obtain ⟨Ao121, co121, eo121⟩ := Kd.S_slice HO731.out; subst eo121; have hcz122_0 : w119.cell? ⟨gb685, 0, none⟩ = some (.slice Ao112 y726.length co112) := (blk_cell BK685.out 0).trans rfl; have hcz122_1 : w119.cell? ⟨gb685, 1, none⟩ = some (u686001) := (blk_cell BK685.out 1).trans rfl; have hfz122_0 := blk_frozen BK685.out 0; have hfz122_1 := blk_frozen BK685.out 1))
                   go_roundg k3
                   case measure => have := HK1.out; have := HK2.out; have := HK3.out; omega
                   case rel => exact ⟨(wrap64 (x10_2 + 1)), (y726), (y729), (.slice Ao112 y726.length co112), (.slice Ao121 y729.length co121), (by first | rfl | (simp; done) | (simp [*]; done)), H', ⟨by have := HK1.out; have := HK2.out; have := HK3.out; omega⟩, ⟨by refine rr_ ?_; exact Kd.R_mono (Kd.R_far (p := ⟨gb685, 1, none⟩) (Kd.R_types HO728.out BK685.out (by decide)) (fun _ hk => hk.2) (.slice Ao121 y729.length co121)) (fun _ hk => trivial)⟩, ⟨by refine rs_ ?_; exact Kd.S_mono (Kd.S_far (p := ⟨gb685, 1, none⟩) (Kd.S_types HO731.out BK685.out (by decide)) (fun _ hk => hk.2) (.slice Ao121 y729.length co121)) (fun _ hk => trivial)⟩, ⟨by refine rb_ ?_; refine blk_far ?_ NB682_685.out _; refine rb_ ?_; exact BK682.out⟩, ⟨by refine rb_ ?_; refine blk_far ?_ NB683_685.out _; refine rb_ ?_; exact BK683.out⟩, ⟨by refine rb_ ?_; refine blk_far ?_ NB684_685.out _; refine rb_ ?_; exact BK684.out⟩, ⟨by refine rb_ ?_; refine blk_put (cs := #[.slice Ao112 y726.length co112, u686001]) ?_ 1 _ rfl; refine rb_ ?_; exact BK685.out⟩, ⟨by exact zp34_0_ HB.out GE682.out GE683.out GE684.out GE685.out⟩⟩
                  ·rw [if_neg c109] at H
                   exact absurd H (by simp)
                 ·rw [if_neg c108] at H
                  exact absurd H (by simp)
               ·rw [if_neg c90] at H
                exact absurd H (by simp)
              ·rw [if_neg c89] at H
               exact absurd H (by simp)
             ·replace c88 := Bool.eq_false_iff.mpr c88
              subst c88
              have H1 : (if x686000_2.length < 140737488355328 then (if x686001_2.length < 5864062014805 then (spec_l7Pairs.l1 k3 false (l1_0.length : Int) x9_1 (wrap64 (x10_2 + 1)) l0_0 l0_1 l1_0 l1_1 (x686000_2 ++ [false]) (x686001_2 ++ [x11_3])) else (none)) else (none)) = some (r1, r2) := by rw [if_neg (show ¬ (false = true) by decide)] at H; exact H
              clear H
              have H := H1
              clear H1
              by_cases c123 : x686000_2.length < 140737488355328
              ·rw [if_pos c123] at H
               have LMc123 := am_ c123
               clear c123
               obtain ⟨y732, hy732⟩ : ∃ y_ : List Bool, y_ = (x686000_2 ++ [false]) := ⟨_, rfl⟩
               replace H : (if x686001_2.length < 5864062014805 then (spec_l7Pairs.l1 k3 false (l1_0.length : Int) x9_1 (wrap64 (x10_2 + 1)) l0_0 l0_1 l1_0 l1_1 y732 (x686001_2 ++ [x11_3])) else (none)) = some (r1, r2) := by first | (rw [hy732]; with_reducible exact H) | (have H2_ := (Option.bind_some _ _).symm.trans H; rw [hy732]; with_reducible exact H2_) | (have H2_ := (Option.bind_some _ _).symm.trans H; with_reducible exact H2_) | with_reducible exact H | (rw [hy732]; exact H) | exact H
               have Ny732 := am_ hy732
               clear hy732
               by_cases c124 : x686001_2.length < 5864062014805
               ·rw [if_pos c124] at H
                have LMc124 := am_ c124
                clear c124
                obtain ⟨y735, hy735⟩ : ∃ y_ : List (List Int), y_ = (x686001_2 ++ [x11_3]) := ⟨_, rfl⟩
                replace H : (spec_l7Pairs.l1 k3 false (l1_0.length : Int) x9_1 (wrap64 (x10_2 + 1)) l0_0 l0_1 l1_0 l1_1 y732 y735) = some (r1, r2) := by first | (rw [hy735]; with_reducible exact H) | (have H2_ := (Option.bind_some _ _).symm.trans H; rw [hy735]; with_reducible exact H2_) | (have H2_ := (Option.bind_some _ _).symm.trans H; with_reducible exact H2_) | with_reducible exact H | (rw [hy735]; exact H) | exact H
                have Ny735 := am_ hy735
                clear hy735
                have H' := am_ H
                clear H
                try go_wp2
                replace HO_11 := am_ (Kd.R_drew HO_11.out)
                replace HO_686000 := am_ (Kd.R_drew HO_686000.out)
                replace HO_686001 := am_ (Kd.S_drew HO_686001.out)
                replace BK682 := am_ (blk_drew BK682.out)
                replace BK683 := am_ (blk_drew BK683.out)
                replace BK684 := am_ (blk_drew BK684.out)
                replace BK685 := am_ (blk_drew BK685.out)
                replace HB := am_ (below_drew1 HB.out)
                have p696 : 0 ≤ (x9_1 : Int) := of_decide_eq_true ah_
                have q696 : x9_1 < (l0_0.length : Int) := of_decide_eq_true ah_
                obtain ⟨ad696, e696, hx696_0⟩ := Kd.at_bool HR0_0.out x9_1 p696 q696
                have hw696_0 := hx696_0
                (try rw [← Nbq36.out] at hx696_0)
                (try rw [← Nbq36.out] at hw696_0)
                cases e696
                replace hx696_0 := (HB.out.cell (World.block_lt_of_cell? w _ hx696_0)).trans hx696_0
                replace p696 := eq_true p696
                replace q696 := eq_true q696
                refine start_ (n := 37) (S := fun w' => w'.cell? ⟨gb685, 0, none⟩ = some (u686000) ∧ w'.cell? ⟨gb685, 1, none⟩ = some (u686001) ∧ w'.cell? ⟨gb682, 0, none⟩ = some (.slice (some ad696) l0_0.length c0_0) ∧ w'.cell? ⟨gb682, 1, none⟩ = some (.slice A0_1 l0_1.length c0_1) ∧ w'.cell? (ad696.add (x9_1).toNat) = some (.bool false)) (ds := [36]) (bl 37 0) (by kernel_rfl) rfl rfl ⟨(blk_cell BK685.out 0).trans rfl, (blk_cell BK685.out 1).trans rfl, (blk_cell BK682.out 0).trans rfl, (blk_cell BK682.out 1).trans rfl, ((HB.out.cell (World.block_lt_of_cell? w _ hw696_0)).trans hw696_0)⟩ (fun hHeld => ?_); refine with_tabW spec_l7Pairs.tab14 spec_l7Pairs.bits14 (fun HT_ HW_ => ?_)
                generalize wr.drew = w125 at HO_11 HO_686000 HO_686001 BK682 BK683 BK684 BK685 HB hx696_0 hHeld ⊢
                refine pu_ 0 56 (bl 37 1) HT_ ?_
                refine pu_ 2 58 (bl 37 5) HT_ ?_
                refine pu_ 4 60 (bl 37 21) HT_ ?_
                refine tk_ 1 57 (bl 37 23) HT_ HW_ hHeld ?_
                refine tk_ 3 59 (bl 37 31) HT_ HW_ hHeld ?_
                refine pu_ 5 61 (bl 37 63) HT_ ?_
                refine tk_ 6 62 (bl 37 127) HT_ HW_ hHeld ?_
                refine pu_ 7 63 (bl 37 255) HT_ ?_
                refine pz_ 8 64 (bl 37 511) HT_ ?_
                refine pz_ 9 65 (bl 37 1023) HT_ ?_
                refine pz_ 10 66 (bl 37 2047) HT_ ?_
                refine pz_ 11 67 (bl 37 4095) HT_ ?_
                refine pz_ 12 68 (bl 37 8191) HT_ ?_
                refine pz_ 13 69 (bl 37 16383) HT_ ?_
                refine pu_ 14 70 (bl 37 32767) HT_ ?_
                refine pu_ 15 71 (bl 37 65535) HT_ ?_
                refine pu_ 16 72 (bl 37 131071) HT_ ?_
                refine pu_ 17 73 (bl 37 262143) HT_ ?_
                refine pz_ 18 74 (bl 37 524287) HT_ ?_
                refine pz_ 19 75 (bl 37 1048575) HT_ ?_
                refine pz_ 20 76 (bl 37 2097151) HT_ ?_
                refine pz_ 21 77 (bl 37 4194303) HT_ ?_
                refine pz_ 22 78 (bl 37 8388607) HT_ ?_
                refine pu_ 23 79 (bl 37 16777215) HT_ ?_
                refine pu_ 24 80 (bl 37 33554431) HT_ ?_
                refine pz_ 25 81 (bl 37 67108863) HT_ ?_
                refine pz_ 26 82 (bl 37 134217727) HT_ ?_
                refine pz_ 27 83 (bl 37 268435455) HT_ ?_
                refine pz_ 28 84 (bl 37 536870911) HT_ ?_
                refine pz_ 29 85 (bl 37 1073741823) HT_ ?_
                refine pz_ 30 86 (bl 37 2147483647) HT_ ?_
                refine pu_ 31 87 (bl 37 4294967295) HT_ ?_
                refine pu_ 32 88 (bl 37 8589934591) HT_ ?_
                refine one_ (i := 33) (N := some 89) (bl 37 17179869183) rfl rfl (one_of HT_.out (by kernel_rfl)) (by decide) (fun K hK => ?_)
                refine value_ (w1 := ?_) (v := ?_) (by rfl) rfl ?_ ?_
                rotate_left 2
                ·go_simp
                 constructor
                 ·rfl
                 ·rfl
                refine hK.out _ _ ⟨(blk_cell (blk_alloc BK685.out _) 0).trans rfl, (blk_cell (blk_alloc BK685.out _) 1).trans rfl, (blk_cell (blk_alloc BK682.out _) 0).trans rfl, (blk_cell (blk_alloc BK682.out _) 1).trans rfl, (World.cell?_alloc_lt _ _ _ (World.block_lt_of_cell? _ _ (((HB.out.cell (World.block_lt_of_cell? w _ hw696_0)).trans hw696_0)))).trans (((HB.out.cell (World.block_lt_of_cell? w _ hw696_0)).trans hw696_0))⟩ (fun hHeld => ?_)
                clear hK K
                refine norm_ (a' := ?_) ?_ ?_
                rotate_left
                ·show Act.put _ (some 89) _ = _
                 simp only [pn_, sz_, ss_, i64_w, i32_w]
                 rfl
                refine one_ (i := 34) (N := some 90) (bl 37 34359738367) rfl rfl (one_of HT_.out (by kernel_rfl)) (by decide) (fun K hK => ?_)
                refine Kd.R_append_step Kd.bool (w0 := w) w.heap.size (by rfl) (.tmp 57) (.tmp 89) 22 4 (.bool false) 1 rfl Try.underlying22 info4 rfl (by decide) (by omega) u686000 x686000_2 false [.bool false] (fun _ => True) (fun _ => False) rfl rfl ?aP (fun _ hk => hk.elim) ?aF ?aO ?aB ?aS ?aL ?_
                (case aP => exact rfl)
                (case aB => exact (b4_ HB.out GE682.out GE683.out GE684.out GE685.out))
                (case aF => exact (fun _ _ => trivial))
                (case aO => exact (rr_ HO_686000.out))
                (case aS => exact (below_size (b4_ HB.out GE682.out GE683.out GE684.out GE685.out)))
                (case aL => have := LMc123.out; omega)
                intro v733 w126 ho hb hg hat
                rw [← Ny732.out] at ho
                replace HO_11 := am_ (Kd.R_over' (rr_ HO_11.out) (Kd.R_typed (rr_ HO_686000.out)) (by decide) hg)
                replace HO_686001 := am_ (Kd.S_over' (rs_ HO_686001.out) (Kd.R_typed (rr_ HO_686000.out)) (by decide) hg)
                replace BK682 := am_ (blk_grown (g := gb682) (o := .cells #[.slice (some ad696) l0_0.length c0_0, .slice A0_1 l0_1.length c0_1] 27 (0, 0)) (rb_ BK682.out) hg (Kd.R_ne HO_686000.out BK682.out (by decide)))
                replace BK683 := am_ (blk_grown (g := gb683) (o := .cells #[.slice A1_0 l1_0.length c1_0, .slice A1_1 l1_1.length c1_1] 27 (0, 0)) (rb_ BK683.out) hg (Kd.R_ne HO_686000.out BK683.out (by decide)))
                replace BK684 := am_ (blk_grown (g := gb684) (o := .cells #[.slice none 0 0, .slice none 0 0] 27 (0, 0)) (rb_ BK684.out) hg (Kd.R_ne HO_686000.out BK684.out (by decide)))
                replace BK685 := am_ (blk_grown (g := gb685) (o := .cells #[u686000, u686001] 27 (0, 0)) (rb_ BK685.out) hg (Kd.R_ne HO_686000.out BK685.out (by decide)))
                replace HB := am_ (hb)
                replace HO734 := am_ (ho)
                clear HO_686000 ho hb hg hat
                obtain ⟨Ao127, co127, eo127⟩ := Kd.R_slice HO734.out
                (first | subst eo127 | (injection eo127 with f1_ f2_ f3_; have f4_ := f1_.symm; have f5_ := f3_.symm; clear f1_ f2_ f3_; subst f4_; subst f5_))
                refine hK.out _ _ ⟨(blk_cell BK685.out 0).trans rfl, (blk_cell BK685.out 1).trans rfl, (blk_cell BK682.out 0).trans rfl, (blk_cell BK682.out 1).trans rfl, ((HB.out.cell (World.block_lt_of_cell? w _ hw696_0)).trans hw696_0)⟩ (fun hHeld => ?_)
                clear hK K
                refine norm_ (a' := ?_) ?_ ?_
                rotate_left
                ·show Act.put _ (some 90) _ = _
                 simp only [pn_, sz_, ss_, i64_w, i32_w]
                 rfl
                refine pu_ 35 91 (bl 37 68719476735) HT_ ?_
                refine last_ (i := 36) (N := none) (bl 37 137438953471) rfl rfl (one_of HT_.out (by kernel_rfl)) (by decide) (fun K hK => ?_)
                have hs128 : w126.cell? ⟨gb685, 0, none⟩ = some (u686000) := (blk_cell BK685.out 0).trans rfl
                have hfs128 := blk_frozen BK685.out 0
                have hns128_0 := NB682_685.out
                have hns128_1 := NB683_685.out
                have hns128_2 := NB684_685.out
                have hms128_0 := NB685_682.out
                have hms128_1 := NB685_683.out
                have hms128_2 := NB685_684.out
                refine skip_ (w1 := ?_) (by rfl) rfl ?_ ?_
                rotate_left
                ·go_simp
                 rfl
                refine hK.out _ _ ?_
                clear hK K
                refine done_ (done_of HT_.out (by kernel_rfl)) ?_
                have n0_ : Aside0 (Kd.R (Kd.int .i64) 3 (w126.setCell ⟨gb685, 0, none⟩ (.slice Ao127 y732.length co127)) w.heap.size (fun _ => True) u11 x11_3) := ⟨by refine rr_ ?_; exact Kd.R_mono (Kd.R_far (p := ⟨gb685, 0, none⟩) (Kd.R_types HO_11.out BK685.out (by decide)) (fun _ hk => hk.2) (.slice Ao127 y732.length co127)) (fun _ hk => trivial)⟩
                have n1_ : Aside0 (Kd.S (Kd.slice 3 (Kd.int .i64)) 67 (w126.setCell ⟨gb685, 0, none⟩ (.slice Ao127 y732.length co127)) w.heap.size (fun k_ => some k_ ≠ (u11 : Value).ownBlock) u686001 x686001_2) := ⟨by refine rs_ ?_; exact Kd.S_mono (Kd.S_far (p := ⟨gb685, 0, none⟩) (Kd.S_types HO_686001.out BK685.out (by decide)) (fun _ hk => hk.2) (.slice Ao127 y732.length co127)) (fun _ hk => hk.1)⟩
                have n2_ : Aside0 (Kd.R Kd.bool 4 (w126.setCell ⟨gb685, 0, none⟩ (.slice Ao127 y732.length co127)) w.heap.size (fun _ => True) (.slice Ao127 y732.length co127) y732) := ⟨by refine rr_ ?_; exact Kd.R_mono (Kd.R_far (p := ⟨gb685, 0, none⟩) (Kd.R_types HO734.out BK685.out (by decide)) (fun _ hk => hk.2) (.slice Ao127 y732.length co127)) (fun _ hk => trivial)⟩
                have n3_ : Aside0 ((w126.setCell ⟨gb685, 0, none⟩ (.slice Ao127 y732.length co127)).heap[gb682]? = some (.cells #[.slice (some ad696) l0_0.length c0_0, .slice A0_1 l0_1.length c0_1] 27 (0, 0))) := ⟨by refine rb_ ?_; refine blk_far ?_ NB682_685.out _; refine rb_ ?_; exact BK682.out⟩
                have n4_ : Aside0 ((w126.setCell ⟨gb685, 0, none⟩ (.slice Ao127 y732.length co127)).heap[gb683]? = some (.cells #[.slice A1_0 l1_0.length c1_0, .slice A1_1 l1_1.length c1_1] 27 (0, 0))) := ⟨by refine rb_ ?_; refine blk_far ?_ NB683_685.out _; refine rb_ ?_; exact BK683.out⟩
                have n5_ : Aside0 ((w126.setCell ⟨gb685, 0, none⟩ (.slice Ao127 y732.length co127)).heap[gb684]? = some (.cells #[.slice none 0 0, .slice none 0 0] 27 (0, 0))) := ⟨by refine rb_ ?_; refine blk_far ?_ NB684_685.out _; refine rb_ ?_; exact BK684.out⟩
                have n6_ : Aside0 ((w126.setCell ⟨gb685, 0, none⟩ (.slice Ao127 y732.length co127)).heap[gb685]? = some (.cells #[.slice Ao127 y732.length co127, u686001] 27 (0, 0))) := ⟨by refine rb_ ?_; refine blk_put (cs := #[u686000, u686001]) ?_ 0 _ rfl; refine rb_ ?_; exact BK685.out⟩
                have n7_ : Aside0 (Below w.heap.size w (w126.setCell ⟨gb685, 0, none⟩ (.slice Ao127 y732.length co127))) := ⟨by exact zp34_0_ HB.out GE682.out GE683.out GE684.out GE685.out⟩
                (try clear HO_11)
                (try clear HO_686001)
                (try clear HO734)
                (try clear BK682)
                (try clear BK683)
                (try clear BK684)
                (try clear BK685)
                (try clear HB)
                generalize (w126.setCell ⟨gb685, 0, none⟩ (.slice Ao127 y732.length co127)) = w129 at n0_ n1_ n2_ n3_ n4_ n5_ n6_ n7_ ⊢
                have HO_11 := n0_; have HO_686001 := n1_; have HO734 := n2_; have BK682 := n3_; have BK683 := n4_; have BK684 := n5_; have BK685 := n6_; have HB := n7_
                clear n0_ n1_ n2_ n3_ n4_ n5_ n6_ n7_
                have hnb130 := NB685_682.out
                have hnc130 := NB682_685.out
                have hnb131 := NB685_683.out
                have hnc131 := NB683_685.out
                have hnb132 := NB685_684.out
                have hnc132 := NB684_685.out
                have hcz133_0 : w129.cell? ⟨gb685, 0, none⟩ = some (.slice Ao127 y732.length co127) := (blk_cell BK685.out 0).trans rfl
                have hcz133_1 : w129.cell? ⟨gb685, 1, none⟩ = some (u686001) := (blk_cell BK685.out 1).trans rfl
                have hfz133_0 := blk_frozen BK685.out 0
                have hfz133_1 := blk_frozen BK685.out 1
                obtain ⟨Ao135, co135, eo135⟩ := Kd.R_slice HO_11.out
                subst eo135
                try go_wp2_with (first | ((with_reducible refine gate_builtin (b := .append) (xs := #[.tmp 93, .tmp 95]) rfl ?_); at_builtin; refine Kd.S_append (Kd.slice 3 (Kd.int .i64)) (w0 := w) w.heap.size rfl (.tmp 93) (.tmp 95) 23 67 (.slice none 0 0) 24 rfl Try.underlying23 info67 rfl (by decide) (by omega) u686001 x686001_2 x11_3 [.slice Ao135 x11_3.length co135] (fun _ => True) (fun k_ => some k_ = (.slice Ao135 x11_3.length co135 : Value).ownBlock) rfl rfl ?aP (fun k_ hk_ => ((Kd.R_mono (ok' := fun k_ => ((fun _ => True)) k_ ∧ some k_ ≠ (u686001 : Value).ownBlock) (Kd.R_apart' (HO_11.out) (Kd.S_typed HO_686001.out) (by decide)) (fun k_ hk => ⟨trivial, hk.2⟩))).1 k_ hk_.symm) ?aF ?aO ?aB ?aS ?aL ?_; (case aP => exact Kd.M_row (Kd.R_mono (Kd.R_tight rfl (Kd.R_mono (ok' := fun k_ => ((fun _ => True)) k_ ∧ some k_ ≠ (u686001 : Value).ownBlock) (Kd.R_apart' (HO_11.out) (Kd.S_typed HO_686001.out) (by decide)) (fun k_ hk => ⟨trivial, hk.2⟩))) (fun _ h_ => h_))); (case aB => exact (b4_ HB.out GE682.out GE683.out GE684.out GE685.out)); (case aF => exact (fun _ _ => trivial)); (case aO => exact (by refine rs_ ?_; exact Kd.S_mono HO_686001.out (fun k_ hk => ⟨trivial, fun e_ => hk e_⟩))); (case aS => exact (below_size (b4_ HB.out GE682.out GE683.out GE684.out GE685.out))); (case aL => have := LMc124.out; omega); intro v736 w134 ho hb hg hat; rw [← Ny735.out] at ho; have n0_ := am_ (blk_grown (g := gb682) (o := .cells #[.slice (some ad696) l0_0.length c0_0, .slice A0_1 l0_1.length c0_1] 27 (0, 0)) (rb_ BK682.out) hg (Kd.S_ne HO_686001.out BK682.out (by decide))); have n1_ := am_ (blk_grown (g := gb683) (o := .cells #[.slice A1_0 l1_0.length c1_0, .slice A1_1 l1_1.length c1_1] 27 (0, 0)) (rb_ BK683.out) hg (Kd.S_ne HO_686001.out BK683.out (by decide))); have n2_ := am_ (blk_grown (g := gb684) (o := .cells #[.slice none 0 0, .slice none 0 0] 27 (0, 0)) (rb_ BK684.out) hg (Kd.S_ne HO_686001.out BK684.out (by decide))); have n3_ := am_ (blk_grown (g := gb685) (o := .cells #[.slice Ao127 y732.length co127, u686001] 27 (0, 0)) (rb_ BK685.out) hg (Kd.S_ne HO_686001.out BK685.out (by decide))); have n4_ := am_ (Kd.R_over' (rr_ HO734.out) (Kd.S_typed (rs_ HO_686001.out)) (by decide) hg); have n5_ := am_ (hb); have n6_ := am_ (ho); clear BK682; clear BK683; clear BK684; clear BK685; clear HO734; clear HB; clear HO_686001; clear HO_11; have BK682 := n0_; have BK683 := n1_; have BK684 := n2_; have BK685 := n3_; have HO734 := n4_; have HB := n5_; have HO737 := n6_; clear n0_ n1_ n2_ n3_ n4_ n5_ n6_; clear ho hb hg hat; obtain ⟨Ao136, co136, eo136⟩ := Kd.S_slice HO737.out; subst eo136; have hcz137_0 : w134.cell? ⟨gb685, 0, none⟩ = some (.slice Ao127 y732.length co127) := (blk_cell BK685.out 0).trans rfl; have hcz137_1 : w134.cell? ⟨gb685, 1, none⟩ = some (u686001) := (blk_cell BK685.out 1).trans rfl; have hfz137_0 := blk_frozen BK685.out 0; have hfz137_1 := blk_frozen BK685.out 1))
                go_roundg k3
                case measure => have := HK1.out; have := HK2.out; have := HK3.out; omega
                case rel => exact ⟨(wrap64 (x10_2 + 1)), (y732), (y735), (.slice Ao127 y732.length co127), (.slice Ao136 y735.length co136), (by first | rfl | (simp; done) | (simp [*]; done)), H', ⟨by have := HK1.out; have := HK2.out; have := HK3.out; omega⟩, ⟨by refine rr_ ?_; exact Kd.R_mono (Kd.R_far (p := ⟨gb685, 1, none⟩) (Kd.R_types HO734.out BK685.out (by decide)) (fun _ hk => hk.2) (.slice Ao136 y735.length co136)) (fun _ hk => trivial)⟩, ⟨by refine rs_ ?_; exact Kd.S_mono (Kd.S_far (p := ⟨gb685, 1, none⟩) (Kd.S_types HO737.out BK685.out (by decide)) (fun _ hk => hk.2) (.slice Ao136 y735.length co136)) (fun _ hk => trivial)⟩, ⟨by refine rb_ ?_; refine blk_far ?_ NB682_685.out _; refine rb_ ?_; exact BK682.out⟩, ⟨by refine rb_ ?_; refine blk_far ?_ NB683_685.out _; refine rb_ ?_; exact BK683.out⟩, ⟨by refine rb_ ?_; refine blk_far ?_ NB684_685.out _; refine rb_ ?_; exact BK684.out⟩, ⟨by refine rb_ ?_; refine blk_put (cs := #[.slice Ao127 y732.length co127, u686001]) ?_ 1 _ rfl; refine rb_ ?_; exact BK685.out⟩, ⟨by exact zp34_0_ HB.out GE682.out GE683.out GE684.out GE685.out⟩⟩
               ·rw [if_neg c124] at H
                exact absurd H (by simp)
              ·rw [if_neg c123] at H
               exact absurd H (by simp)
           ·rw [if_neg c35] at H
            exact absurd H (by simp)
          ·rw [if_neg c34] at H
           exact absurd H (by simp)
      ·rw [if_neg c20] at H
       have c20b0 : decide (x10_2 < (l1_0.length : Int)) = false := decide_eq_false c20
       clear c20
       have H' := am_ H
       clear H
       go_wp2
       go_roundg k2
       case measure => have := HK1.out; have := HK2.out; omega
       case rel => exact ⟨(wrap64 (x9_1 + 1)), (x686000_2), (x686001_2), (u686000), (u686001), (by first | rfl | (simp; done) | (simp [*]; done)), H', ⟨by have := HK1.out; have := HK2.out; omega⟩, ⟨by refine rr_ ?_; exact HO_686000.out⟩, ⟨by refine rs_ ?_; exact HO_686001.out⟩, ⟨by refine rb_ ?_; exact BK682.out⟩, ⟨by refine rb_ ?_; exact BK683.out⟩, ⟨by refine rb_ ?_; exact BK684.out⟩, ⟨by refine rb_ ?_; exact BK685.out⟩, ⟨by exact zp34_0_ HB.out GE682.out GE683.out GE684.out GE685.out⟩⟩
   ·rw [if_neg c15] at H
    have c15b0 : decide (x9_1 < (l0_0.length : Int)) = false := decide_eq_false c15
    clear c15
    simp only [Option.some.injEq, Prod.mk.injEq] at H
    obtain ⟨rfl, rfl⟩ := H
    have hnb138 := NB682_683.out
    have hnc138 := NB683_682.out
    have hnb139 := NB682_684.out
    have hnc139 := NB684_682.out
    have hnb140 := NB682_685.out
    have hnc140 := NB685_682.out
    have hcz141_0 : wr.cell? ⟨gb682, 0, none⟩ = some (.slice A0_0 l0_0.length c0_0) := (blk_cell BK682.out 0).trans rfl
    have hcz141_1 : wr.cell? ⟨gb682, 1, none⟩ = some (.slice A0_1 l0_1.length c0_1) := (blk_cell BK682.out 1).trans rfl
    have hfz141_0 := blk_frozen BK682.out 0
    have hfz141_1 := blk_frozen BK682.out 1
    have hnb142 := NB685_683.out
    have hnc142 := NB683_685.out
    have hnb143 := NB685_684.out
    have hnc143 := NB684_685.out
    have hcz144_0 : wr.cell? ⟨gb685, 0, none⟩ = some (u686000) := (blk_cell BK685.out 0).trans rfl
    have hcz144_1 : wr.cell? ⟨gb685, 1, none⟩ = some (u686001) := (blk_cell BK685.out 1).trans rfl
    have hfz144_0 := blk_frozen BK685.out 0
    have hfz144_1 := blk_frozen BK685.out 1
    obtain ⟨Ao145, co145, eo145⟩ := Kd.R_slice HO_686000.out
    subst eo145
    have hnb146 := NB684_683.out
    have hnc146 := NB683_684.out
    have hcz147_0 : wr.cell? ⟨gb684, 0, none⟩ = some (.slice none 0 0) := (blk_cell BK684.out 0).trans rfl
    have hcz147_1 : wr.cell? ⟨gb684, 1, none⟩ = some (.slice none 0 0) := (blk_cell BK684.out 1).trans rfl
    have hfz147_0 := blk_frozen BK684.out 0
    have hfz147_1 := blk_frozen BK684.out 1
    obtain ⟨Ao148, co148, eo148⟩ := Kd.S_slice HO_686001.out
    subst eo148
    go_wp2
    refine bodyPost_ret (results_cell_row rfl _ _ gb684 27 #[.slice Ao145 x686000_1.length co145, .slice Ao148 x686001_1.length co148] (0, 0) _ rfl (by refine rb_ ?_; refine blk_put (cs := #[.slice Ao145 x686000_1.length co145, .slice none 0 0]) ?_ 1 _ rfl; refine rb_ ?_; refine blk_put (cs := #[.slice none 0 0, .slice none 0 0]) ?_ 0 _ rfl; refine rb_ ?_; exact BK684.out) Try.underlying27 rfl (by kernel_rfl)) rfl ?_
    exact ⟨_, _, by first | rfl | (simp [errW_none, errW_some] <;> rfl) | (simp [*, errW_none, errW_some] <;> rfl), by refine rr_ ?_; exact Kd.R_mono (Kd.R_far (p := ⟨gb684, 1, none⟩) (Kd.R_far (p := ⟨gb684, 0, none⟩) (Kd.R_types HO_686000.out BK684.out (by decide)) (fun _ hk => hk.2) (.slice Ao145 x686000_1.length co145)) (fun _ hk => hk.2) (.slice Ao148 x686001_1.length co148)) (fun _ hk => trivial), by refine rs_ ?_; exact Kd.S_mono (Kd.S_far (p := ⟨gb684, 1, none⟩) (Kd.S_far (p := ⟨gb684, 0, none⟩) (Kd.S_types HO_686001.out BK684.out (by decide)) (fun _ hk => hk.2) (.slice Ao145 x686000_1.length co145)) (fun _ hk => hk.2) (.slice Ao148 x686001_1.length co148)) (fun _ hk => trivial), by exact zp34_0_ HB.out GE682.out GE683.out GE684.out GE685.out⟩
end Go.Proofs.Ytogamkblkoobkaa.P
end
