-- Written by gen.py of this repo (a driver of the kit's print) for seat Ytoknogcefajfiaa.
import Derived.Test.YtoknogcefajfiaaP0
import Derived.Test.YtoknogcefajfiaaSq
namespace Go.Proofs.Ytoknogcefajfiaa.P
open Go.RowKit Go.Proofs.YtoknogcefajfiaaW.PrintWords Go.Proofs.YtoknogcefajfiaaW.PrintLast Go.Proofs.YtoknogcefajfiaaW.PrintMore
attribute [local go_sem] max2_int min2_int max_two min_two max_three min_three max_four min_four   -- for this text's walks alone
set_option linter.unusedVariables false
set_option linter.unusedSimpArgs false

/-! ### spec_l7Pairs: function 74 -/
mutual
def spec_l7Pairs.l0 : Nat → Bool → Int → Int → List Bool → List (List Int) → List Bool → List (List Int) → List Bool → List (List Int) → Option (List Bool × (List (List Int)))
  | 0, _, _, _, _, _, _, _, _, _ => none
  | k + 1, x2, x7, x9, x423000, x423001, x424000, x424001, x426000, x426001 => if x9 < (x423000.length : Int) then (spec_l7Pairs.l1 k x2 x7 x9 0 x423000 x423001 x424000 x424001 x426000 x426001) else (some (x426000, x426001))
def spec_l7Pairs.l1 : Nat → Bool → Int → Int → Int → List Bool → List (List Int) → List Bool → List (List Int) → List Bool → List (List Int) → Option (List Bool × (List (List Int)))
  | 0, _, _, _, _, _, _, _, _, _, _ => none
  | k + 1, x2, x7, x9, x10, x423000, x423001, x424000, x424001, x426000, x426001 => if x10 < x7 then (spec_l7Pairs.l2 k x2 x7 x9 x10 (([] : List Int)) 0 x423000 x423001 x424000 x424001 x426000 x426001) else (spec_l7Pairs.l0 k x2 x7 (wrap64 (x9 + 1)) x423000 x423001 x424000 x424001 x426000 x426001)
def spec_l7Pairs.l2 : Nat → Bool → Int → Int → Int → List Int → Int → List Bool → List (List Int) → List Bool → List (List Int) → List Bool → List (List Int) → Option (List Bool × (List (List Int)))
  | 0, _, _, _, _, _, _, _, _, _, _, _, _ => none
  | k + 1, x2, x7, x9, x10, x11, x12, x423000, x423001, x424000, x424001, x426000, x426001 => if x12 < 3 then (if 0 ≤ x9 then (if x9 < (x423001.length : Int) then (if 0 ≤ x12 then (if x12 < ((rd_L2 x423001 x9).length : Int) then (if 0 ≤ x10 then (if x10 < (x424001.length : Int) then (if x12 < ((rd_L2 x424001 x10).length : Int) then (if x11.length < 17592186044416 then (spec_l7Pairs.l2 k x2 x7 x9 x10 (x11 ++ [wrap64 ((wrap64 ((rd (rd_L2 x423001 x9) x12) * x7)) + (rd (rd_L2 x424001 x10) x12))]) (wrap64 (x12 + 1)) x423000 x423001 x424000 x424001 x426000 x426001) else (none)) else (none)) else (none)) else (none)) else (none)) else (none)) else (none)) else (none)) else (if 0 ≤ x9 then (if x9 < (x423000.length : Int) then (if rdOf false x423000 x9 = true then (if 0 ≤ x10 then (if x10 < (x424000.length : Int) then (if rdOf false x424000 x10 = true then (if x2 = true then (if x426000.length < 140737488355328 then (if x426001.length < 5864062014805 then (spec_l7Pairs.l1 k x2 x7 x9 (wrap64 (x10 + 1)) x423000 x423001 x424000 x424001 (x426000 ++ [!(rdOf false x423000 x9)]) (x426001 ++ [x11])) else (none)) else (none)) else (if x426000.length < 140737488355328 then (if x426001.length < 5864062014805 then (spec_l7Pairs.l1 k x2 x7 x9 (wrap64 (x10 + 1)) x423000 x423001 x424000 x424001 (x426000 ++ [false]) (x426001 ++ [x11])) else (none)) else (none))) else (if x426000.length < 140737488355328 then (if x426001.length < 5864062014805 then (spec_l7Pairs.l1 k x2 x7 x9 (wrap64 (x10 + 1)) x423000 x423001 x424000 x424001 (x426000 ++ [true]) (x426001 ++ [x11])) else (none)) else (none))) else (none)) else (none)) else (if x2 = true then (if 0 ≤ x10 then (if x10 < (x424000.length : Int) then (if rdOf false x424000 x10 = true then (if x426000.length < 140737488355328 then (if x426001.length < 5864062014805 then (spec_l7Pairs.l1 k x2 x7 x9 (wrap64 (x10 + 1)) x423000 x423001 x424000 x424001 (x426000 ++ [!(rdOf false x423000 x9)]) (x426001 ++ [x11])) else (none)) else (none)) else (if x426000.length < 140737488355328 then (if x426001.length < 5864062014805 then (spec_l7Pairs.l1 k x2 x7 x9 (wrap64 (x10 + 1)) x423000 x423001 x424000 x424001 (x426000 ++ [false]) (x426001 ++ [x11])) else (none)) else (none))) else (none)) else (none)) else (if x426000.length < 140737488355328 then (if x426001.length < 5864062014805 then (spec_l7Pairs.l1 k x2 x7 x9 (wrap64 (x10 + 1)) x423000 x423001 x424000 x424001 (x426000 ++ [false]) (x426001 ++ [x11])) else (none)) else (none)))) else (none)) else (none))
end
def spec_l7Pairs.f (k : Nat) (l0_0 : List Bool) (l0_1 : List (List Int)) (l1_0 : List Bool) (l1_1 : List (List Int)) (a2 : Bool) : Option (List Bool × (List (List Int))) := spec_l7Pairs.l0 k a2 (l1_0.length : Int) 0 l0_0 l0_1 l1_0 l1_1 ([] : List Bool) ([] : List (List Int))
theorem spec_l7Pairs.mono_l : ∀ k, (∀ y0 y1 y2 y3 y4 y5 y6 y7 y8, LeO (spec_l7Pairs.l0 k y0 y1 y2 y3 y4 y5 y6 y7 y8) (spec_l7Pairs.l0 (k + 1) y0 y1 y2 y3 y4 y5 y6 y7 y8)) ∧ (∀ y0 y1 y2 y3 y4 y5 y6 y7 y8 y9, LeO (spec_l7Pairs.l1 k y0 y1 y2 y3 y4 y5 y6 y7 y8 y9) (spec_l7Pairs.l1 (k + 1) y0 y1 y2 y3 y4 y5 y6 y7 y8 y9)) ∧ (∀ y0 y1 y2 y3 y4 y5 y6 y7 y8 y9 y10 y11, LeO (spec_l7Pairs.l2 k y0 y1 y2 y3 y4 y5 y6 y7 y8 y9 y10 y11) (spec_l7Pairs.l2 (k + 1) y0 y1 y2 y3 y4 y5 y6 y7 y8 y9 y10 y11))
 | 0 => ⟨fun _ _ _ _ _ _ _ _ _ r h => by simp [spec_l7Pairs.l0] at h, fun _ _ _ _ _ _ _ _ _ _ r h => by simp [spec_l7Pairs.l1] at h, fun _ _ _ _ _ _ _ _ _ _ _ _ r h => by simp [spec_l7Pairs.l2] at h⟩
 | k + 1 => by
  obtain ⟨ih0, ih1, ih2⟩ := spec_l7Pairs.mono_l k
  refine ⟨?_, ?_, ?_⟩
  ·intro y0 y1 y2 y3 y4 y5 y6 y7 y8
   unfold spec_l7Pairs.l0
   repeat' first
   | (with_reducible exact ih0 _ _ _ _ _ _ _ _ _)
   | (with_reducible exact ih1 _ _ _ _ _ _ _ _ _ _)
   | (with_reducible exact ih2 _ _ _ _ _ _ _ _ _ _ _ _)
   | (with_reducible exact LeO.refl _)
   | (with_reducible exact LeO.none _)
   | (with_reducible refine LeO.ite ?_ ?_)
   | (with_reducible refine LeO.bind ?_ (fun _ => ?_))
   | exact ih0 _ _ _ _ _ _ _ _ _
   | exact ih1 _ _ _ _ _ _ _ _ _ _
   | exact ih2 _ _ _ _ _ _ _ _ _ _ _ _
   | exact LeO.none _
   | refine LeO.ite ?_ ?_
   | refine LeO.bind ?_ (fun _ => ?_)
  ·intro y0 y1 y2 y3 y4 y5 y6 y7 y8 y9
   unfold spec_l7Pairs.l1
   repeat' first
   | (with_reducible exact ih0 _ _ _ _ _ _ _ _ _)
   | (with_reducible exact ih1 _ _ _ _ _ _ _ _ _ _)
   | (with_reducible exact ih2 _ _ _ _ _ _ _ _ _ _ _ _)
   | (with_reducible exact LeO.refl _)
   | (with_reducible exact LeO.none _)
   | (with_reducible refine LeO.ite ?_ ?_)
   | (with_reducible refine LeO.bind ?_ (fun _ => ?_))
   | exact ih0 _ _ _ _ _ _ _ _ _
   | exact ih1 _ _ _ _ _ _ _ _ _ _
   | exact ih2 _ _ _ _ _ _ _ _ _ _ _ _
   | exact LeO.none _
   | refine LeO.ite ?_ ?_
   | refine LeO.bind ?_ (fun _ => ?_)
  ·intro y0 y1 y2 y3 y4 y5 y6 y7 y8 y9 y10 y11
   unfold spec_l7Pairs.l2
   repeat' first
   | (with_reducible exact ih0 _ _ _ _ _ _ _ _ _)
   | (with_reducible exact ih1 _ _ _ _ _ _ _ _ _ _)
   | (with_reducible exact ih2 _ _ _ _ _ _ _ _ _ _ _ _)
   | (with_reducible exact LeO.refl _)
   | (with_reducible exact LeO.none _)
   | (with_reducible refine LeO.ite ?_ ?_)
   | (with_reducible refine LeO.bind ?_ (fun _ => ?_))
   | exact ih0 _ _ _ _ _ _ _ _ _
   | exact ih1 _ _ _ _ _ _ _ _ _ _
   | exact ih2 _ _ _ _ _ _ _ _ _ _ _ _
   | exact LeO.none _
   | refine LeO.ite ?_ ?_
   | refine LeO.bind ?_ (fun _ => ?_)
theorem spec_l7Pairs.mono : ∀ a0 a1 a2 a3 a4 k, LeO (spec_l7Pairs.f k a0 a1 a2 a3 a4) (spec_l7Pairs.f (k + 1) a0 a1 a2 a3 a4) := by
 intro a0 a1 a2 a3 a4 k
 obtain ⟨ih0, ih1, ih2⟩ := spec_l7Pairs.mono_l k
 unfold spec_l7Pairs.f
 repeat' first
   | (with_reducible exact ih0 _ _ _ _ _ _ _ _ _)
   | (with_reducible exact ih1 _ _ _ _ _ _ _ _ _ _)
   | (with_reducible exact ih2 _ _ _ _ _ _ _ _ _ _ _ _)
   | (with_reducible exact LeO.refl _)
   | (with_reducible exact LeO.none _)
   | (with_reducible refine LeO.ite ?_ ?_)
   | (with_reducible refine LeO.bind ?_ (fun _ => ?_))
   | exact ih0 _ _ _ _ _ _ _ _ _
   | exact ih1 _ _ _ _ _ _ _ _ _ _
   | exact ih2 _ _ _ _ _ _ _ _ _ _ _ _
   | exact LeO.none _
   | refine LeO.ite ?_ ?_
   | refine LeO.bind ?_ (fun _ => ?_)
def spec_l7Pairs.T13 : Bool × List (List Nat × List Nat) := (true, [([], []), ([], []), ([1], [1]), ([], []), ([2, 3], [2, 3]), ([4], [4]), ([], []), ([5, 6], [5, 6]), ([7], [7]), ([], []), ([8, 9], [8, 9]), ([], []), ([11], [11]), ([], []), ([12, 13], [12, 13]), ([14], [14]), ([], []), ([15, 16], [15, 16]), ([17], [17]), ([10, 18], [10, 18]), ([19], [19]), ([0, 20], [0, 20]), ([21, 21, 0, 1, 2, 3, 4, 5, 6, 7, 8, 9, 10, 11, 12, 13, 14, 15, 16, 17, 18, 19, 20, 21], [0, 21])])
def spec_l7Pairs.B13 : List Nat := [0, 0, 2, 0, 14, 30, 0, 126, 254, 0, 1022, 0, 2048, 0, 14336, 30720, 0, 129024, 260096, 524286, 1048574, 2097151, 4194303]
theorem spec_l7Pairs.tab13 : rtab .any (opsOf Try.f74 13) = spec_l7Pairs.T13 := by kernel_rfl
theorem spec_l7Pairs.bits13 : waitsOk spec_l7Pairs.T13.2 spec_l7Pairs.B13 = true := by kernel_rfl
def spec_l7Pairs.T14 : Bool × List (List Nat × List Nat) := (true, [([], []), ([0], [0]), ([], []), ([2], [2]), ([], []), ([3, 4], [3, 4]), ([5], [5]), ([6], [6]), ([7], [7]), ([8, 7], [7, 8]), ([7], [7]), ([9, 10, 7], [7, 9, 10]), ([11, 7], [7, 11]), ([12, 7], [7, 12]), ([7, 13], [7, 13]), ([14, 7], [14]), ([15], [15]), ([16, 15, 15], [15, 16]), ([17], [17]), ([18, 17], [17, 18]), ([17], [17]), ([19, 20, 17], [17, 19, 20]), ([21, 17], [17, 21]), ([17, 22, 15], [15, 17, 22]), ([23, 17, 15], [15, 23]), ([24], [24]), ([25, 24], [24, 25]), ([24], [24]), ([26, 27, 24], [24, 26, 27]), ([28, 24], [24, 28]), ([29, 24], [24, 29]), ([24, 30, 15], [15, 24, 30]), ([15, 31], [15, 31]), ([32], [32]), ([1, 33, 24], [1, 33]), ([0, 1, 2, 3, 4, 5, 6, 7, 8, 9, 10, 11, 12, 13, 14, 15, 16, 17, 18, 19, 20, 21, 22, 23, 24, 25, 26, 27, 28, 29, 30, 31, 32, 33, 34], []), ([35, 34, 34, 0, 1, 2, 3, 4, 5, 6, 7, 8, 9, 10, 11, 12, 13, 14, 15, 16, 17, 18, 19, 20, 21, 22, 23, 24, 25, 26, 27, 28, 29, 30, 31, 32, 33, 34], [34, 35])])
def spec_l7Pairs.B14 : List Nat := [0, 1, 0, 4, 0, 28, 60, 124, 252, 508, 252, 2044, 4092, 8188, 16380, 32764, 65532, 131068, 262140, 524284, 262140, 2097148, 4194300, 8388604, 16777212, 33554428, 67108860, 33554428, 268435452, 536870908, 1073741820, 2147483644, 4294967292, 8589934588, 17179869183, 34359738367, 68719476735]
theorem spec_l7Pairs.tab14 : rtab .any (opsOf Try.f74 14) = spec_l7Pairs.T14 := by kernel_rfl
theorem spec_l7Pairs.bits14 : waitsOk spec_l7Pairs.T14.2 spec_l7Pairs.B14 = true := by kernel_rfl
set_option maxHeartbeats 8000000 in
set_option maxRecDepth 100000 in
theorem spec_l7Pairs.calls (k : Nat) (A0_0 : Option Addr) (c0_0 : Nat) (l0_0 : List Bool) (A0_1 : Option Addr) (c0_1 : Nat) (l0_1 : List (List Int)) (A1_0 : Option Addr) (c1_0 : Nat) (l1_0 : List Bool) (A1_1 : Option Addr) (c1_1 : Nat) (l1_1 : List (List Int)) (a2 : Bool) (r1 : List Bool) (r2 : List (List Int)) (w : World) (hr0_0 : Kd.C Kd.bool w A0_0 l0_0.length l0_0) (hc0_0 : l0_0.length ≤ c0_0) (hr0_1 : Kd.C (Kd.slice 3 (Kd.int .i64)) w A0_1 l0_1.length l0_1) (hc0_1 : l0_1.length ≤ c0_1) (hr1_0 : Kd.C Kd.bool w A1_0 l1_0.length l1_0) (hc1_0 : l1_0.length ≤ c1_0) (hr1_1 : Kd.C (Kd.slice 3 (Kd.int .i64)) w A1_1 l1_1.length l1_1) (hc1_1 : l1_1.length ≤ c1_1) (h : spec_l7Pairs.f k l0_0 l0_1 l1_0 l1_1 a2 = some (r1, r2)) :
  Calls Try.prog 74 #[.agg #[.slice A0_0 l0_0.length c0_0, .slice A0_1 l0_1.length c0_1], .agg #[.slice A1_0 l1_0.length c1_0, .slice A1_1 l1_1.length c1_1], .bool a2] w fun e w' => ∃ v0_ v1_ : Value, e = .returned (.agg #[v0_, v1_]) ∧ Kd.R Kd.bool 4 w' w.heap.size (fun _ => True) v0_ r1 ∧ Kd.S (Kd.slice 3 (Kd.int .i64)) 54 w' w.heap.size (fun _ => True) v1_ r2 ∧ Below w.heap.size w w' := by
 have hu28 := Try.underlying28
 have HR0_0 := Aside0.mk hr0_0
 have HC0_0 := Aside0.mk hc0_0
 clear hr0_0 hc0_0
 have HR0_1 := Aside0.mk hr0_1
 have HC0_1 := Aside0.mk hc0_1
 clear hr0_1 hc0_1
 have HR1_0 := Aside0.mk hr1_0
 have HC1_0 := Aside0.mk hc1_0
 clear hr1_0 hc1_0
 have HR1_1 := Aside0.mk hr1_1
 have HC1_1 := Aside0.mk hc1_1
 clear hr1_1 hc1_1
 have HB := Aside0.mk (Below.refl w.heap.size w)
 have H : (spec_l7Pairs.l0 k a2 (l1_0.length : Int) 0 l0_0 l0_1 l1_0 l1_1 ([] : List Bool) ([] : List (List Int))) = some (r1, r2) := h
 clear h
 have H' := Aside0.mk H
 clear H
 go_enter Try.func74, Try.ntmps74
 go_wp2_with (first | ((with_reducible refine gate_dst (N := 3) rfl ?_); refine box_event ?hg (N := 3) ?hd (cs := #[.slice A0_0 l0_0.length c0_0, .slice A0_1 l0_1.length c0_1]) (t := 28) ?hr ?_; (case hd => rfl); (case hg => rfl); (case hr => first | (go_simp; done) | (go_simp; rfl)); intro gb422 hg w4 hbox hb; have n0_ := Aside0.mk (below_step (by repeat (first | (with_reducible first | exact HB.out | apply below_alloc | apply pw_below_drewN | apply below_drew1) | exact HB.out)) hb); have n1_ := Aside0.mk (hbox); have n2_ := Aside0.mk ((by rw [hg]; exact (below_size (by repeat (first | (with_reducible first | exact HB.out | apply below_alloc | apply pw_below_drewN | apply below_drew1) | exact HB.out))) : w.heap.size ≤ gb422)); have n3_ := Aside0.mk ((by rw [hg]; exact (below_size (by repeat (first | (with_reducible first | exact HB.out | apply below_alloc | apply pw_below_drewN | apply below_drew1) | exact HB.out))) : w.heap.size ≤ gb422)); clear HB; have HB := n0_; have BK422 := n1_; have GW422 := n2_; have GE422 := n3_; clear n0_ n1_ n2_ n3_; clear hb hbox hg) | ((with_reducible refine gate_dst (N := 4) rfl ?_); refine box_event ?hg (N := 4) ?hd (cs := #[.slice A1_0 l1_0.length c1_0, .slice A1_1 l1_1.length c1_1]) (t := 28) ?hr ?_; (case hd => rfl); (case hg => rfl); (case hr => first | (go_simp; done) | (go_simp; rfl)); intro gb423 hg w5 hbox hb; have n0_ := Aside0.mk (blk_below (g := gb422) (o := .cells #[.slice A0_0 l0_0.length c0_0, .slice A0_1 l0_1.length c0_1] 28 (0, 0)) (by (with_reducible repeat (first | refine blk_drewN ?_ _ | refine blk_drew ?_ | refine blk_alloc ?_ _)); exact BK422.out) hb); have n1_ := Aside0.mk (below_step (by repeat (first | (with_reducible first | exact HB.out | apply below_alloc | apply pw_below_drewN | apply below_drew1 | refine below_set ?_ GE422.out) | exact HB.out)) hb); have n2_ := Aside0.mk (hbox); have n3_ := Aside0.mk ((by rw [hg]; exact (below_size (by repeat (first | (with_reducible first | exact HB.out | apply below_alloc | apply pw_below_drewN | apply below_drew1 | refine below_set ?_ GE422.out) | exact HB.out))) : w.heap.size ≤ gb423)); have n4_ := Aside0.mk ((by rw [hg]; exact (below_size (by repeat (first | (with_reducible first | exact HB.out | apply below_alloc | apply pw_below_drewN | apply below_drew1 | refine below_set ?_ GE422.out) | exact HB.out))) : w.heap.size ≤ gb423)); have n5_ := Aside0.mk ((by rw [hg]; exact Nat.ne_of_lt (blk_lt (g := gb422) (o := .cells #[.slice A0_0 l0_0.length c0_0, .slice A0_1 l0_1.length c0_1] 28 (0, 0)) (by (with_reducible repeat (first | refine blk_drewN ?_ _ | refine blk_drew ?_ | refine blk_alloc ?_ _)); exact BK422.out)) : gb422 ≠ gb423)); have n6_ := Aside0.mk ((by rw [hg]; exact Nat.ne_of_gt (blk_lt (g := gb422) (o := .cells #[.slice A0_0 l0_0.length c0_0, .slice A0_1 l0_1.length c0_1] 28 (0, 0)) (by (with_reducible repeat (first | refine blk_drewN ?_ _ | refine blk_drew ?_ | refine blk_alloc ?_ _)); exact BK422.out)) : gb423 ≠ gb422)); clear BK422; clear HB; have BK422 := n0_; have HB := n1_; have BK423 := n2_; have GW423 := n3_; have GE423 := n4_; have NB422_423 := n5_; have NB423_422 := n6_; clear n0_ n1_ n2_ n3_ n4_ n5_ n6_; clear hb hbox hg) | ((with_reducible refine gate_dst (N := 6) rfl ?_); refine box_event ?hg (N := 6) ?hd (cs := #[.slice none 0 0, .slice none 0 0]) (t := 28) ?hr ?_; (case hd => rfl); (case hg => rfl); (case hr => first | (go_simp; done) | (go_simp; rfl)); intro gb424 hg w6 hbox hb; have n0_ := Aside0.mk (blk_below (g := gb422) (o := .cells #[.slice A0_0 l0_0.length c0_0, .slice A0_1 l0_1.length c0_1] 28 (0, 0)) (by (with_reducible repeat (first | refine blk_drewN ?_ _ | refine blk_drew ?_ | refine blk_alloc ?_ _)); exact BK422.out) hb); have n1_ := Aside0.mk (blk_below (g := gb423) (o := .cells #[.slice A1_0 l1_0.length c1_0, .slice A1_1 l1_1.length c1_1] 28 (0, 0)) (by (with_reducible repeat (first | refine blk_drewN ?_ _ | refine blk_drew ?_ | refine blk_alloc ?_ _)); exact BK423.out) hb); have n2_ := Aside0.mk (below_step (by repeat (first | (with_reducible first | exact HB.out | apply below_alloc | apply pw_below_drewN | apply below_drew1 | refine below_set ?_ GE422.out | refine below_set ?_ GE423.out) | exact HB.out)) hb); have n3_ := Aside0.mk (hbox); have n4_ := Aside0.mk ((by rw [hg]; exact (below_size (by repeat (first | (with_reducible first | exact HB.out | apply below_alloc | apply pw_below_drewN | apply below_drew1 | refine below_set ?_ GE422.out | refine below_set ?_ GE423.out) | exact HB.out))) : w.heap.size ≤ gb424)); have n5_ := Aside0.mk ((by rw [hg]; exact (below_size (by repeat (first | (with_reducible first | exact HB.out | apply below_alloc | apply pw_below_drewN | apply below_drew1 | refine below_set ?_ GE422.out | refine below_set ?_ GE423.out) | exact HB.out))) : w.heap.size ≤ gb424)); have n6_ := Aside0.mk ((by rw [hg]; exact Nat.ne_of_lt (blk_lt (g := gb422) (o := .cells #[.slice A0_0 l0_0.length c0_0, .slice A0_1 l0_1.length c0_1] 28 (0, 0)) (by (with_reducible repeat (first | refine blk_drewN ?_ _ | refine blk_drew ?_ | refine blk_alloc ?_ _)); exact BK422.out)) : gb422 ≠ gb424)); have n7_ := Aside0.mk ((by rw [hg]; exact Nat.ne_of_gt (blk_lt (g := gb422) (o := .cells #[.slice A0_0 l0_0.length c0_0, .slice A0_1 l0_1.length c0_1] 28 (0, 0)) (by (with_reducible repeat (first | refine blk_drewN ?_ _ | refine blk_drew ?_ | refine blk_alloc ?_ _)); exact BK422.out)) : gb424 ≠ gb422)); have n8_ := Aside0.mk ((by rw [hg]; exact Nat.ne_of_lt (blk_lt (g := gb423) (o := .cells #[.slice A1_0 l1_0.length c1_0, .slice A1_1 l1_1.length c1_1] 28 (0, 0)) (by (with_reducible repeat (first | refine blk_drewN ?_ _ | refine blk_drew ?_ | refine blk_alloc ?_ _)); exact BK423.out)) : gb423 ≠ gb424)); have n9_ := Aside0.mk ((by rw [hg]; exact Nat.ne_of_gt (blk_lt (g := gb423) (o := .cells #[.slice A1_0 l1_0.length c1_0, .slice A1_1 l1_1.length c1_1] 28 (0, 0)) (by (with_reducible repeat (first | refine blk_drewN ?_ _ | refine blk_drew ?_ | refine blk_alloc ?_ _)); exact BK423.out)) : gb424 ≠ gb423)); clear BK422; clear BK423; clear HB; have BK422 := n0_; have BK423 := n1_; have HB := n2_; have BK424 := n3_; have GW424 := n4_; have GE424 := n5_; have NB422_424 := n6_; have NB424_422 := n7_; have NB423_424 := n8_; have NB424_423 := n9_; clear n0_ n1_ n2_ n3_ n4_ n5_ n6_ n7_ n8_ n9_; clear hb hbox hg; have hnb7 := NB423_422.out; have hnc7 := NB422_423.out; have hnb8 := NB423_424.out; have hnc8 := NB424_423.out; have hcz9_0 : w6.cell? ⟨gb423, 0, none⟩ = some (.slice A1_0 l1_0.length c1_0) := (blk_cell BK423.out 0).trans rfl; have hcz9_1 : w6.cell? ⟨gb423, 1, none⟩ = some (.slice A1_1 l1_1.length c1_1) := (blk_cell BK423.out 1).trans rfl; have hfz9_0 := blk_frozen BK423.out 0; have hfz9_1 := blk_frozen BK423.out 1) | ((with_reducible refine gate_dst (N := 8) rfl ?_); refine box_event ?hg (N := 8) ?hd (cs := #[.slice none 0 0, .slice none 0 0]) (t := 28) ?hr ?_; (case hd => rfl); (case hg => rfl); (case hr => first | (go_simp; done) | (go_simp; rfl)); intro gb425 hg w10 hbox hb; have n0_ := Aside0.mk (blk_below (g := gb422) (o := .cells #[.slice A0_0 l0_0.length c0_0, .slice A0_1 l0_1.length c0_1] 28 (0, 0)) (by (with_reducible repeat (first | refine blk_drewN ?_ _ | refine blk_drew ?_ | refine blk_alloc ?_ _)); exact BK422.out) hb); have n1_ := Aside0.mk (blk_below (g := gb423) (o := .cells #[.slice A1_0 l1_0.length c1_0, .slice A1_1 l1_1.length c1_1] 28 (0, 0)) (by (with_reducible repeat (first | refine blk_drewN ?_ _ | refine blk_drew ?_ | refine blk_alloc ?_ _)); exact BK423.out) hb); have n2_ := Aside0.mk (blk_below (g := gb424) (o := .cells #[.slice none 0 0, .slice none 0 0] 28 (0, 0)) (by (with_reducible repeat (first | refine blk_drewN ?_ _ | refine blk_drew ?_ | refine blk_alloc ?_ _)); exact BK424.out) hb); have n3_ := Aside0.mk (below_step (by repeat (first | (with_reducible first | exact HB.out | apply below_alloc | apply pw_below_drewN | apply below_drew1 | refine below_set ?_ GE422.out | refine below_set ?_ GE423.out | refine below_set ?_ GE424.out) | exact HB.out)) hb); have n4_ := Aside0.mk (hbox); have n5_ := Aside0.mk ((by rw [hg]; exact (below_size (by repeat (first | (with_reducible first | exact HB.out | apply below_alloc | apply pw_below_drewN | apply below_drew1 | refine below_set ?_ GE422.out | refine below_set ?_ GE423.out | refine below_set ?_ GE424.out) | exact HB.out))) : w.heap.size ≤ gb425)); have n6_ := Aside0.mk ((by rw [hg]; exact (below_size (by repeat (first | (with_reducible first | exact HB.out | apply below_alloc | apply pw_below_drewN | apply below_drew1 | refine below_set ?_ GE422.out | refine below_set ?_ GE423.out | refine below_set ?_ GE424.out) | exact HB.out))) : w.heap.size ≤ gb425)); have n7_ := Aside0.mk ((by rw [hg]; exact Nat.ne_of_lt (blk_lt (g := gb422) (o := .cells #[.slice A0_0 l0_0.length c0_0, .slice A0_1 l0_1.length c0_1] 28 (0, 0)) (by (with_reducible repeat (first | refine blk_drewN ?_ _ | refine blk_drew ?_ | refine blk_alloc ?_ _)); exact BK422.out)) : gb422 ≠ gb425)); have n8_ := Aside0.mk ((by rw [hg]; exact Nat.ne_of_gt (blk_lt (g := gb422) (o := .cells #[.slice A0_0 l0_0.length c0_0, .slice A0_1 l0_1.length c0_1] 28 (0, 0)) (by (with_reducible repeat (first | refine blk_drewN ?_ _ | refine blk_drew ?_ | refine blk_alloc ?_ _)); exact BK422.out)) : gb425 ≠ gb422)); have n9_ := Aside0.mk ((by rw [hg]; exact Nat.ne_of_lt (blk_lt (g := gb423) (o := .cells #[.slice A1_0 l1_0.length c1_0, .slice A1_1 l1_1.length c1_1] 28 (0, 0)) (by (with_reducible repeat (first | refine blk_drewN ?_ _ | refine blk_drew ?_ | refine blk_alloc ?_ _)); exact BK423.out)) : gb423 ≠ gb425)); have n10_ := Aside0.mk ((by rw [hg]; exact Nat.ne_of_gt (blk_lt (g := gb423) (o := .cells #[.slice A1_0 l1_0.length c1_0, .slice A1_1 l1_1.length c1_1] 28 (0, 0)) (by (with_reducible repeat (first | refine blk_drewN ?_ _ | refine blk_drew ?_ | refine blk_alloc ?_ _)); exact BK423.out)) : gb425 ≠ gb423)); have n11_ := Aside0.mk ((by rw [hg]; exact Nat.ne_of_lt (blk_lt (g := gb424) (o := .cells #[.slice none 0 0, .slice none 0 0] 28 (0, 0)) (by (with_reducible repeat (first | refine blk_drewN ?_ _ | refine blk_drew ?_ | refine blk_alloc ?_ _)); exact BK424.out)) : gb424 ≠ gb425)); have n12_ := Aside0.mk ((by rw [hg]; exact Nat.ne_of_gt (blk_lt (g := gb424) (o := .cells #[.slice none 0 0, .slice none 0 0] 28 (0, 0)) (by (with_reducible repeat (first | refine blk_drewN ?_ _ | refine blk_drew ?_ | refine blk_alloc ?_ _)); exact BK424.out)) : gb425 ≠ gb424)); clear BK422; clear BK423; clear BK424; clear HB; have BK422 := n0_; have BK423 := n1_; have BK424 := n2_; have HB := n3_; have BK425 := n4_; have GW425 := n5_; have GE425 := n6_; have NB422_425 := n7_; have NB425_422 := n8_; have NB423_425 := n9_; have NB425_423 := n10_; have NB424_425 := n11_; have NB425_424 := n12_; clear n0_ n1_ n2_ n3_ n4_ n5_ n6_ n7_ n8_ n9_ n10_ n11_ n12_; clear hb hbox hg; have hnb11 := NB425_422.out; have hnc11 := NB422_425.out; have hnb12 := NB425_423.out; have hnc12 := NB423_425.out; have hnb13 := NB425_424.out; have hnc13 := NB424_425.out; have hcz14_0 : w10.cell? ⟨gb425, 0, none⟩ = some (.slice none 0 0) := (blk_cell BK425.out 0).trans rfl; have hcz14_1 : w10.cell? ⟨gb425, 1, none⟩ = some (.slice none 0 0) := (blk_cell BK425.out 1).trans rfl; have hfz14_0 := blk_frozen BK425.out 0; have hfz14_1 := blk_frozen BK425.out 1))
 go_loopg [9] k (fun kq v9 w' => ∃ (x9_1 : Int) (x426000_1 : List Bool) (x426001_1 : List (List Int)) (u426000 : Value) (u426001 : Value), v9 = .int .i64 x9_1 ∧ Aside0 (spec_l7Pairs.l0 kq a2 (l1_0.length : Int) x9_1 l0_0 l0_1 l1_0 l1_1 x426000_1 x426001_1 = some (r1, r2)) ∧ Aside0 (kq ≤ k) ∧ Aside0 (Kd.R Kd.bool 4 w' w.heap.size (fun _ => True) u426000 x426000_1) ∧ Aside0 (Kd.S (Kd.slice 3 (Kd.int .i64)) 54 w' w.heap.size (fun _ => True) u426001 x426001_1) ∧ Aside0 (w'.heap[gb422]? = some (.cells #[(.slice A0_0 l0_0.length c0_0), (.slice A0_1 l0_1.length c0_1)] 28 (0, 0))) ∧ Aside0 (w'.heap[gb423]? = some (.cells #[(.slice A1_0 l1_0.length c1_0), (.slice A1_1 l1_1.length c1_1)] 28 (0, 0))) ∧ Aside0 (w'.heap[gb424]? = some (.cells #[(.slice none 0 0), (.slice none 0 0)] 28 (0, 0))) ∧ Aside0 (w'.heap[gb425]? = some (.cells #[u426000, u426001] 28 (0, 0))) ∧ Aside0 (Below w.heap.size w w'))
 case atStart => exact ⟨(0), (([] : List Bool)), (([] : List (List Int))), (.slice none 0 0), (.slice none 0 0), (by first | rfl | (simp; done) | (simp [*]; done)), H', ⟨Nat.le_refl _⟩, ⟨by first | exact Kd.R_nil _ _ _ _ _ | exact Kd.N_nil _ _ _ _ _ | exact Kd.V_nil _ _ _ _ _ | exact Kd.Q_nil _ _ _ _ _ | exact Kd.S_nil _ _ _ _ _⟩, ⟨by first | exact Kd.S_nil _ _ _ _ _ | exact Kd.N_nil _ _ _ _ _ | exact Kd.V_nil _ _ _ _ _ | exact Kd.Q_nil _ _ _ _ _ | exact Kd.R_nil _ _ _ _ _⟩, ⟨by (with_reducible repeat (first | refine blk_drewN ?_ _ | refine blk_drew ?_ | refine blk_alloc ?_ _)); refine blk_far ?_ NB422_425.out _; (with_reducible repeat (first | refine blk_drewN ?_ _ | refine blk_drew ?_ | refine blk_alloc ?_ _)); refine blk_far ?_ NB422_425.out _; (with_reducible repeat (first | refine blk_drewN ?_ _ | refine blk_drew ?_ | refine blk_alloc ?_ _)); exact BK422.out⟩, ⟨by (with_reducible repeat (first | refine blk_drewN ?_ _ | refine blk_drew ?_ | refine blk_alloc ?_ _)); refine blk_far ?_ NB423_425.out _; (with_reducible repeat (first | refine blk_drewN ?_ _ | refine blk_drew ?_ | refine blk_alloc ?_ _)); refine blk_far ?_ NB423_425.out _; (with_reducible repeat (first | refine blk_drewN ?_ _ | refine blk_drew ?_ | refine blk_alloc ?_ _)); exact BK423.out⟩, ⟨by (with_reducible repeat (first | refine blk_drewN ?_ _ | refine blk_drew ?_ | refine blk_alloc ?_ _)); refine blk_far ?_ NB424_425.out _; (with_reducible repeat (first | refine blk_drewN ?_ _ | refine blk_drew ?_ | refine blk_alloc ?_ _)); refine blk_far ?_ NB424_425.out _; (with_reducible repeat (first | refine blk_drewN ?_ _ | refine blk_drew ?_ | refine blk_alloc ?_ _)); exact BK424.out⟩, ⟨by (with_reducible repeat (first | refine blk_drewN ?_ _ | refine blk_drew ?_ | refine blk_alloc ?_ _)); refine blk_put (cs := #[.slice none 0 0, .slice none 0 0]) ?_ 1 _ rfl; (with_reducible repeat (first | refine blk_drewN ?_ _ | refine blk_drew ?_ | refine blk_alloc ?_ _)); refine blk_put (cs := #[.slice none 0 0, .slice none 0 0]) ?_ 0 _ rfl; (with_reducible repeat (first | refine blk_drewN ?_ _ | refine blk_drew ?_ | refine blk_alloc ?_ _)); exact BK425.out⟩, ⟨by repeat (first | (with_reducible first | exact HB.out | apply below_alloc | apply pw_below_drewN | apply below_drew1 | refine below_set ?_ GE422.out | refine below_set ?_ GE423.out | refine below_set ?_ GE424.out | refine below_set ?_ GE425.out) | exact HB.out)⟩⟩
 case round =>
  clear H'
  try clear c1
  try clear p2
  try clear c7
  try clear c8
  try clear c11
  try clear c12
  try clear c13
  try clear hcz14_0
  try clear hcz14_1
  try clear hcz9_0
  try clear hcz9_1
  try clear hfz14_0
  try clear hfz14_1
  try clear hfz9_0
  try clear hfz9_1
  obtain ⟨x9_1, x426000_1, x426001_1, u426000, u426001, rfl, HA, HK1, HO_426000, HO_426001, BK422, BK423, BK424, BK425, HB⟩ := hrel
  cases gk with
  | zero => exact absurd HA.out (by simp [spec_l7Pairs.l0])
  | succ k1 =>
   have H := HA.out
   clear HA
   simp only [spec_l7Pairs.l0] at H
   by_cases c15 : x9_1 < (l0_0.length : Int)
   ·rw [if_pos c15] at H
    have c15b0 : decide (x9_1 < (l0_0.length : Int)) = true := decide_eq_true c15
    clear c15
    have H' := Aside0.mk H
    clear H
    have hnb16 := NB422_423.out
    have hnc16 := NB423_422.out
    have hnb17 := NB422_424.out
    have hnc17 := NB424_422.out
    have hnb18 := NB422_425.out
    have hnc18 := NB425_422.out
    have hcz19_0 : wr.cell? ⟨gb422, 0, none⟩ = some (.slice A0_0 l0_0.length c0_0) := (blk_cell BK422.out 0).trans rfl
    have hcz19_1 : wr.cell? ⟨gb422, 1, none⟩ = some (.slice A0_1 l0_1.length c0_1) := (blk_cell BK422.out 1).trans rfl
    have hfz19_0 := blk_frozen BK422.out 0
    have hfz19_1 := blk_frozen BK422.out 1
    go_wp2
    go_loopg [10] k1 (fun kq v10 w' => ∃ (x10_2 : Int) (x426000_2 : List Bool) (x426001_2 : List (List Int)) (u426000 : Value) (u426001 : Value), v10 = .int .i64 x10_2 ∧ Aside0 (spec_l7Pairs.l1 kq a2 (l1_0.length : Int) x9_1 x10_2 l0_0 l0_1 l1_0 l1_1 x426000_2 x426001_2 = some (r1, r2)) ∧ Aside0 (kq ≤ k1) ∧ Aside0 (Kd.R Kd.bool 4 w' w.heap.size (fun _ => True) u426000 x426000_2) ∧ Aside0 (Kd.S (Kd.slice 3 (Kd.int .i64)) 54 w' w.heap.size (fun _ => True) u426001 x426001_2) ∧ Aside0 (w'.heap[gb422]? = some (.cells #[(.slice A0_0 l0_0.length c0_0), (.slice A0_1 l0_1.length c0_1)] 28 (0, 0))) ∧ Aside0 (w'.heap[gb423]? = some (.cells #[(.slice A1_0 l1_0.length c1_0), (.slice A1_1 l1_1.length c1_1)] 28 (0, 0))) ∧ Aside0 (w'.heap[gb424]? = some (.cells #[(.slice none 0 0), (.slice none 0 0)] 28 (0, 0))) ∧ Aside0 (w'.heap[gb425]? = some (.cells #[u426000, u426001] 28 (0, 0))) ∧ Aside0 (Below w.heap.size w w'))
    case atStart => exact ⟨(0), (x426000_1), (x426001_1), (u426000), (u426001), (by first | rfl | (simp; done) | (simp [*]; done)), H', ⟨Nat.le_refl _⟩, ⟨by (with_reducible repeat (first | apply Kd.R_alloc | apply Kd.R_drewN | apply Kd.R_drew)); exact HO_426000.out⟩, ⟨by (with_reducible repeat (first | apply Kd.S_alloc | apply Kd.S_drewN | apply Kd.S_drew)); exact HO_426001.out⟩, ⟨by (with_reducible repeat (first | refine blk_drewN ?_ _ | refine blk_drew ?_ | refine blk_alloc ?_ _)); exact BK422.out⟩, ⟨by (with_reducible repeat (first | refine blk_drewN ?_ _ | refine blk_drew ?_ | refine blk_alloc ?_ _)); exact BK423.out⟩, ⟨by (with_reducible repeat (first | refine blk_drewN ?_ _ | refine blk_drew ?_ | refine blk_alloc ?_ _)); exact BK424.out⟩, ⟨by (with_reducible repeat (first | refine blk_drewN ?_ _ | refine blk_drew ?_ | refine blk_alloc ?_ _)); exact BK425.out⟩, ⟨by repeat (first | (with_reducible first | exact HB.out | apply below_alloc | apply pw_below_drewN | apply below_drew1 | refine below_set ?_ GE422.out | refine below_set ?_ GE423.out | refine below_set ?_ GE424.out | refine below_set ?_ GE425.out) | exact HB.out)⟩⟩
    case round =>
     clear H'
     try clear c1
     try clear p2
     try clear c7
     try clear c8
     try clear c11
     try clear c12
     try clear c13
     try clear c15
     try clear c15b0
     try clear c16
     try clear c17
     try clear c18
     try clear hcz14_0
     try clear hcz14_1
     try clear hcz19_0
     try clear hcz19_1
     try clear hcz9_0
     try clear hcz9_1
     try clear hfz14_0
     try clear hfz14_1
     try clear hfz19_0
     try clear hfz19_1
     try clear hfz9_0
     try clear hfz9_1
     try clear p2
     obtain ⟨x10_2, x426000_2, x426001_2, u426000, u426001, rfl, HA, HK2, HO_426000, HO_426001, BK422, BK423, BK424, BK425, HB⟩ := hrel
     cases gk with
     | zero => exact absurd HA.out (by simp [spec_l7Pairs.l1])
     | succ k2 =>
      have H := HA.out
      clear HA
      simp only [spec_l7Pairs.l1] at H
      by_cases c20 : x10_2 < (l1_0.length : Int)
      ·rw [if_pos c20] at H
       have c20b0 : decide (x10_2 < (l1_0.length : Int)) = true := decide_eq_true c20
       clear c20
       obtain ⟨y426, hy426⟩ : ∃ y_ : List Int, y_ = (([] : List Int)) := ⟨_, rfl⟩
       replace H : (spec_l7Pairs.l2 k2 a2 (l1_0.length : Int) x9_1 x10_2 y426 0 l0_0 l0_1 l1_0 l1_1 x426000_2 x426001_2) = some (r1, r2) := by first | (rw [hy426]; with_reducible exact H) | (have H2_ := (Option.bind_some _ _).symm.trans H; rw [hy426]; with_reducible exact H2_) | (have H2_ := (Option.bind_some _ _).symm.trans H; with_reducible exact H2_) | with_reducible exact H | (rw [hy426]; exact H) | exact H
       have Ny426 := Aside0.mk hy426
       clear hy426
       have H' := Aside0.mk H
       clear H
       go_wp2_with (first | ((with_reducible refine gate_dst (N := 29) rfl ?_); refine Kd.R_lit (Kd.int .i64) _ 3 ?hg (N := 29) ?hd (xs := ([] : List Int)) (inner := []) (ok := fun _ => True) (okp := fun _ => True) ?hr ?hp (fun _ hk => hk) trivial (Below.refl _ _) (Nat.le_refl _) (by simp) ?_; (case hd => rfl); (case hg => rfl); (case hr => first | (go_simp; done) | (go_simp; rfl)); (case hp => exact (Reps.none _ _)); intro v427 w21 ho22 hb hg_ hnew_; clear hg_ hnew_; (first | rw [← Ny426.out] at ho22 | (simp only [Int.reduceToNat] at ho22; rw [← Ny426.out] at ho22)); have n0_ := Aside0.mk (Kd.R_below (by (with_reducible repeat (first | apply Kd.R_alloc | apply Kd.R_drewN | apply Kd.R_drew)); exact HO_426000.out) hb); have n1_ := Aside0.mk (Kd.S_elder' (by (with_reducible repeat (first | apply Kd.S_alloc | apply Kd.S_drewN | apply Kd.S_drew)); exact HO_426001.out) (Kd.R_base ho22) hb); have n2_ := Aside0.mk (Kd.R_lower ho22 (below_size (by repeat (first | (with_reducible first | exact HB.out | apply below_alloc | apply pw_below_drewN | apply below_drew1 | refine below_set ?_ GE422.out | refine below_set ?_ GE423.out | refine below_set ?_ GE424.out | refine below_set ?_ GE425.out) | exact HB.out)))); have n3_ := Aside0.mk (blk_below (g := gb422) (o := .cells #[.slice A0_0 l0_0.length c0_0, .slice A0_1 l0_1.length c0_1] 28 (0, 0)) (by (with_reducible repeat (first | refine blk_drewN ?_ _ | refine blk_drew ?_ | refine blk_alloc ?_ _)); exact BK422.out) hb); have n4_ := Aside0.mk (blk_below (g := gb423) (o := .cells #[.slice A1_0 l1_0.length c1_0, .slice A1_1 l1_1.length c1_1] 28 (0, 0)) (by (with_reducible repeat (first | refine blk_drewN ?_ _ | refine blk_drew ?_ | refine blk_alloc ?_ _)); exact BK423.out) hb); have n5_ := Aside0.mk (blk_below (g := gb424) (o := .cells #[.slice none 0 0, .slice none 0 0] 28 (0, 0)) (by (with_reducible repeat (first | refine blk_drewN ?_ _ | refine blk_drew ?_ | refine blk_alloc ?_ _)); exact BK424.out) hb); have n6_ := Aside0.mk (blk_below (g := gb425) (o := .cells #[u426000, u426001] 28 (0, 0)) (by (with_reducible repeat (first | refine blk_drewN ?_ _ | refine blk_drew ?_ | refine blk_alloc ?_ _)); exact BK425.out) hb); have n7_ := Aside0.mk (below_step (by repeat (first | (with_reducible first | exact HB.out | apply below_alloc | apply pw_below_drewN | apply below_drew1 | refine below_set ?_ GE422.out | refine below_set ?_ GE423.out | refine below_set ?_ GE424.out | refine below_set ?_ GE425.out) | exact HB.out)) hb); clear HO_426000; clear HO_426001; clear BK422; clear BK423; clear BK424; clear BK425; clear HB; have HO_426000 := n0_; have HO_426001 := n1_; have HO428 := n2_; have BK422 := n3_; have BK423 := n4_; have BK424 := n5_; have BK425 := n6_; have HB := n7_; clear n0_ n1_ n2_ n3_ n4_ n5_ n6_ n7_; clear hb ho22))
       go_loopg [11, 12] k2 (fun kq v11 v12 w' => ∃ (x11_3 : List Int) (x12_3 : Int), v12 = .int .i64 x12_3 ∧ Aside0 (spec_l7Pairs.l2 kq a2 (l1_0.length : Int) x9_1 x10_2 x11_3 x12_3 l0_0 l0_1 l1_0 l1_1 x426000_2 x426001_2 = some (r1, r2)) ∧ Aside0 (kq ≤ k2) ∧ Aside0 (Kd.R (Kd.int .i64) 3 w' w.heap.size (fun _ => True) v11 x11_3) ∧ Aside0 (Kd.R Kd.bool 4 w' w.heap.size (fun _ => True) u426000 x426000_2) ∧ Aside0 (Kd.S (Kd.slice 3 (Kd.int .i64)) 54 w' w.heap.size (fun k_ => some k_ ≠ (v11 : Value).ownBlock) u426001 x426001_2) ∧ Aside0 (w'.heap[gb422]? = some (.cells #[(.slice A0_0 l0_0.length c0_0), (.slice A0_1 l0_1.length c0_1)] 28 (0, 0))) ∧ Aside0 (w'.heap[gb423]? = some (.cells #[(.slice A1_0 l1_0.length c1_0), (.slice A1_1 l1_1.length c1_1)] 28 (0, 0))) ∧ Aside0 (w'.heap[gb424]? = some (.cells #[(.slice none 0 0), (.slice none 0 0)] 28 (0, 0))) ∧ Aside0 (w'.heap[gb425]? = some (.cells #[u426000, u426001] 28 (0, 0))) ∧ Aside0 (Below w.heap.size w w'))
       case atStart => exact ⟨(y426), (0), (by first | rfl | (simp; done) | (simp [*]; done)), H', ⟨Nat.le_refl _⟩, ⟨by (with_reducible repeat (first | apply Kd.R_alloc | apply Kd.R_drewN | apply Kd.R_drew)); exact HO428.out⟩, ⟨by (with_reducible repeat (first | apply Kd.R_alloc | apply Kd.R_drewN | apply Kd.R_drew)); exact HO_426000.out⟩, ⟨by (with_reducible repeat (first | apply Kd.S_alloc | apply Kd.S_drewN | apply Kd.S_drew)); exact Kd.S_mono HO_426001.out (fun _ hk => hk.2)⟩, ⟨by (with_reducible repeat (first | refine blk_drewN ?_ _ | refine blk_drew ?_ | refine blk_alloc ?_ _)); exact BK422.out⟩, ⟨by (with_reducible repeat (first | refine blk_drewN ?_ _ | refine blk_drew ?_ | refine blk_alloc ?_ _)); exact BK423.out⟩, ⟨by (with_reducible repeat (first | refine blk_drewN ?_ _ | refine blk_drew ?_ | refine blk_alloc ?_ _)); exact BK424.out⟩, ⟨by (with_reducible repeat (first | refine blk_drewN ?_ _ | refine blk_drew ?_ | refine blk_alloc ?_ _)); exact BK425.out⟩, ⟨by repeat (first | (with_reducible first | exact HB.out | apply below_alloc | apply pw_below_drewN | apply below_drew1 | refine below_set ?_ GE422.out | refine below_set ?_ GE423.out | refine below_set ?_ GE424.out | refine below_set ?_ GE425.out) | exact HB.out)⟩⟩
       case round =>
        clear H'
        try clear c1
        try clear c2
        try clear p2
        try clear c7
        try clear c8
        try clear c11
        try clear c12
        try clear c13
        try clear c15
        try clear c15b0
        try clear c16
        try clear c17
        try clear c18
        try clear c20
        try clear c20b0
        try clear hcz14_0
        try clear hcz14_1
        try clear hcz19_0
        try clear hcz19_1
        try clear hcz9_0
        try clear hcz9_1
        try clear hfz14_0
        try clear hfz14_1
        try clear hfz19_0
        try clear hfz19_1
        try clear hfz9_0
        try clear hfz9_1
        try clear p2
        obtain ⟨x11_3, x12_3, rfl, HA, HK3, HO_11, HO_426000, HO_426001, BK422, BK423, BK424, BK425, HB⟩ := hrel
        cases gk with
        | zero => exact absurd HA.out (by simp [spec_l7Pairs.l2])
        | succ k3 =>
         have H := HA.out
         clear HA
         simp only [spec_l7Pairs.l2] at H
         by_cases c23 : x12_3 < 3
         ·rw [if_pos c23] at H
          have c23b0 : decide (x12_3 < 3) = true := decide_eq_true c23
          clear c23
          by_cases c24 : 0 ≤ x9_1
          ·rw [if_pos c24] at H
           have c24b0 : decide (0 ≤ x9_1) = true := decide_eq_true c24
           clear c24
           by_cases c25 : x9_1 < (l0_1.length : Int)
           ·rw [if_pos c25] at H
            have c25b0 : decide (x9_1 < (l0_1.length : Int)) = true := decide_eq_true c25
            clear c25
            by_cases c26 : 0 ≤ x12_3
            ·rw [if_pos c26] at H
             have c26b0 : decide (0 ≤ x12_3) = true := decide_eq_true c26
             clear c26
             by_cases c27 : x12_3 < ((rd_L2 l0_1 x9_1).length : Int)
             ·rw [if_pos c27] at H
              have c27b0 : decide (x12_3 < ((rd_L2 l0_1 x9_1).length : Int)) = true := decide_eq_true c27
              clear c27
              by_cases c28 : 0 ≤ x10_2
              ·rw [if_pos c28] at H
               have c28b0 : decide (0 ≤ x10_2) = true := decide_eq_true c28
               clear c28
               by_cases c29 : x10_2 < (l1_1.length : Int)
               ·rw [if_pos c29] at H
                have c29b0 : decide (x10_2 < (l1_1.length : Int)) = true := decide_eq_true c29
                clear c29
                by_cases c30 : x12_3 < ((rd_L2 l1_1 x10_2).length : Int)
                ·rw [if_pos c30] at H
                 have c30b0 : decide (x12_3 < ((rd_L2 l1_1 x10_2).length : Int)) = true := decide_eq_true c30
                 clear c30
                 by_cases c31 : x11_3.length < 17592186044416
                 ·rw [if_pos c31] at H
                  have LMc31 := Aside0.mk c31
                  clear c31
                  obtain ⟨y433, hy433⟩ : ∃ y_ : List Int, y_ = (x11_3 ++ [wrap64 ((wrap64 ((rd (rd_L2 l0_1 x9_1) x12_3) * (l1_0.length : Int))) + (rd (rd_L2 l1_1 x10_2) x12_3))]) := ⟨_, rfl⟩
                  replace H : (spec_l7Pairs.l2 k3 a2 (l1_0.length : Int) x9_1 x10_2 y433 (wrap64 (x12_3 + 1)) l0_0 l0_1 l1_0 l1_1 x426000_2 x426001_2) = some (r1, r2) := by first | (rw [hy433]; with_reducible exact H) | (have H2_ := (Option.bind_some _ _).symm.trans H; rw [hy433]; with_reducible exact H2_) | (have H2_ := (Option.bind_some _ _).symm.trans H; with_reducible exact H2_) | with_reducible exact H | (rw [hy433]; exact H) | exact H
                  have Ny433 := Aside0.mk hy433
                  clear hy433
                  have H' := Aside0.mk H
                  clear H
                  try go_wp2
                  have n0_ := Aside0.mk (Kd.R_drew HO_11.out)
                  have n1_ := Aside0.mk (Kd.R_drew HO_426000.out)
                  have n2_ := Aside0.mk (Kd.S_drew HO_426001.out)
                  have n3_ := Aside0.mk (blk_drew BK422.out)
                  have n4_ := Aside0.mk (blk_drew BK423.out)
                  have n5_ := Aside0.mk (blk_drew BK424.out)
                  have n6_ := Aside0.mk (blk_drew BK425.out)
                  have n7_ := Aside0.mk (below_drew1 HB.out)
                  clear HO_11 HO_426000 HO_426001 BK422 BK423 BK424 BK425 HB
                  have HO_11 := n0_; have HO_426000 := n1_; have HO_426001 := n2_; have BK422 := n3_; have BK423 := n4_; have BK424 := n5_; have BK425 := n6_; have HB := n7_
                  clear n0_ n1_ n2_ n3_ n4_ n5_ n6_ n7_
                  have p429 : 0 ≤ (x9_1 : Int) := of_decide_eq_true (by first | (with_reducible assumption) | assumption)
                  have q429 : x9_1 < (l0_1.length : Int) := of_decide_eq_true (by first | (with_reducible assumption) | assumption)
                  obtain ⟨ad429, A429_0, c429_0, e429, hx429_0, hl429_0, hi429_0⟩ := at_L2 HR0_1.out x9_1 p429 q429
                  have hw429_0 := hx429_0
                  cases e429
                  replace hx429_0 := (HB.out.cell (World.block_lt_of_cell? w _ hx429_0)).trans hx429_0
                  have HR429_0 := Aside0.mk hi429_0
                  have HC429_0 := Aside0.mk hl429_0
                  clear hi429_0 hl429_0
                  replace p429 := eq_true p429
                  replace q429 := eq_true q429
                  have p430 : 0 ≤ (x12_3 : Int) := of_decide_eq_true (by first | (with_reducible assumption) | assumption)
                  have q430 : x12_3 < ((rd_L2 l0_1 x9_1).length : Int) := of_decide_eq_true (by first | (with_reducible assumption) | assumption)
                  obtain ⟨ad430, e430, hx430_0⟩ := Kd.at_int HR429_0.out x12_3 p430 q430
                  have hw430_0 := hx430_0
                  cases e430
                  replace hx430_0 := (HB.out.cell (World.block_lt_of_cell? w _ hx430_0)).trans hx430_0
                  replace p430 := eq_true p430
                  replace q430 := eq_true q430
                  have p431 : 0 ≤ (x10_2 : Int) := of_decide_eq_true (by first | (with_reducible assumption) | assumption)
                  have q431 : x10_2 < (l1_1.length : Int) := of_decide_eq_true (by first | (with_reducible assumption) | assumption)
                  obtain ⟨ad431, A431_0, c431_0, e431, hx431_0, hl431_0, hi431_0⟩ := at_L2 HR1_1.out x10_2 p431 q431
                  have hw431_0 := hx431_0
                  cases e431
                  replace hx431_0 := (HB.out.cell (World.block_lt_of_cell? w _ hx431_0)).trans hx431_0
                  have HR431_0 := Aside0.mk hi431_0
                  have HC431_0 := Aside0.mk hl431_0
                  clear hi431_0 hl431_0
                  replace p431 := eq_true p431
                  replace q431 := eq_true q431
                  have p432 : 0 ≤ (x12_3 : Int) := of_decide_eq_true (by first | (with_reducible assumption) | assumption)
                  have q432 : x12_3 < ((rd_L2 l1_1 x10_2).length : Int) := of_decide_eq_true (by first | (with_reducible assumption) | assumption)
                  obtain ⟨ad432, e432, hx432_0⟩ := Kd.at_int HR431_0.out x12_3 p432 q432
                  have hw432_0 := hx432_0
                  cases e432
                  replace hx432_0 := (HB.out.cell (World.block_lt_of_cell? w _ hx432_0)).trans hx432_0
                  replace p432 := eq_true p432
                  replace q432 := eq_true q432
                  refine start_ (n := 23) (S := fun w' => w'.cell? ⟨gb422, 0, none⟩ = some (.slice A0_0 l0_0.length c0_0) ∧ w'.cell? ⟨gb422, 1, none⟩ = some (.slice (some ad429) l0_1.length c0_1) ∧ w'.cell? ⟨gb423, 0, none⟩ = some (.slice A1_0 l1_0.length c1_0) ∧ w'.cell? ⟨gb423, 1, none⟩ = some (.slice (some ad431) l1_1.length c1_1) ∧ w'.cell? (ad429.add (x9_1).toNat) = some (.slice (some ad430) (rd_L2 l0_1 x9_1).length c429_0) ∧ w'.cell? (ad430.add (x12_3).toNat) = some (.int .i64 (rd (rd_L2 l0_1 x9_1) x12_3)) ∧ w'.cell? (ad431.add (x10_2).toNat) = some (.slice (some ad432) (rd_L2 l1_1 x10_2).length c431_0) ∧ w'.cell? (ad432.add (x12_3).toNat) = some (.int .i64 (rd (rd_L2 l1_1 x10_2) x12_3))) (ds := []) (bl 23 0) (by kernel_rfl) rfl rfl ⟨(blk_cell BK422.out 0).trans rfl, (blk_cell BK422.out 1).trans rfl, (blk_cell BK423.out 0).trans rfl, (blk_cell BK423.out 1).trans rfl, ((HB.out.cell (World.block_lt_of_cell? w _ hw429_0)).trans hw429_0), ((HB.out.cell (World.block_lt_of_cell? w _ hw430_0)).trans hw430_0), ((HB.out.cell (World.block_lt_of_cell? w _ hw431_0)).trans hw431_0), ((HB.out.cell (World.block_lt_of_cell? w _ hw432_0)).trans hw432_0)⟩ (fun hHeld => ?_); refine with_tabW spec_l7Pairs.tab13 spec_l7Pairs.bits13 (fun HT_ HW_ => ?_)
                  generalize wr.drew = w32 at HO_11 HO_426000 HO_426001 BK422 BK423 BK424 BK425 HB HR429_0 HR431_0 hx429_0 hx430_0 hx431_0 hx432_0 hHeld ⊢
                  refine pure_ (i := 0) (N := some 34) (v := ?_) (a' := ?_) (bl 23 1) rfl rfl (any_of HT_.out (by kernel_rfl)) (fun _ _ _ h => h) (Or.inl ⟨by rfl, ?_⟩) ?_ ?_
                  rotate_left; (focus (intro w'; go_simp; with_reducible rfl)); rotate_left; (focus (simp only [pn_, sz_, ss_, i64_w, i32_w]; rfl))
                  refine pure_ (i := 1) (N := some 35) (v := ?_) (a' := ?_) (bl 23 3) rfl rfl (any_of HT_.out (by kernel_rfl)) (fun _ _ _ h => h) (Or.inl ⟨by rfl, ?_⟩) ?_ ?_
                  rotate_left; (focus (intro w'; go_simp; with_reducible rfl)); rotate_left; (focus (simp only [pn_, sz_, ss_, i64_w, i32_w]; rfl))
                  refine pure_ (i := 3) (N := some 37) (v := ?_) (a' := ?_) (bl 23 11) rfl rfl (any_of HT_.out (by kernel_rfl)) (fun _ _ _ h => h) (Or.inl ⟨by rfl, ?_⟩) ?_ ?_
                  rotate_left; (focus (intro w'; go_simp; with_reducible rfl)); rotate_left; (focus (simp only [pn_, sz_, ss_, i64_w, i32_w]; rfl))
                  refine pure_ (i := 6) (N := some 40) (v := ?_) (a' := ?_) (bl 23 75) rfl rfl (any_of HT_.out (by kernel_rfl)) (fun _ _ _ h => h) (Or.inl ⟨by rfl, ?_⟩) ?_ ?_
                  rotate_left; (focus (intro w'; go_simp; with_reducible rfl)); rotate_left; (focus (simp only [pn_, sz_, ss_, i64_w, i32_w]; rfl))
                  refine pure_ (i := 9) (N := some 43) (v := ?_) (a' := ?_) (bl 23 587) rfl rfl (any_of HT_.out (by kernel_rfl)) (fun _ _ _ h => h) (Or.inl ⟨by rfl, ?_⟩) ?_ ?_
                  rotate_left; (focus (intro w'; go_simp; with_reducible rfl)); rotate_left; (focus (simp only [pn_, sz_, ss_, i64_w, i32_w]; rfl))
                  refine pure_ (i := 11) (N := some 45) (v := ?_) (a' := ?_) (bl 23 2635) rfl rfl (any_of HT_.out (by kernel_rfl)) (fun _ _ _ h => h) (Or.inl ⟨by rfl, ?_⟩) ?_ ?_
                  rotate_left; (focus (intro w'; go_simp; with_reducible rfl)); rotate_left; (focus (simp only [pn_, sz_, ss_, i64_w, i32_w]; rfl))
                  refine pure_ (i := 13) (N := some 47) (v := ?_) (a' := ?_) (bl 23 10827) rfl rfl (any_of HT_.out (by kernel_rfl)) (fun _ _ _ h => h) (Or.inl ⟨by rfl, ?_⟩) ?_ ?_
                  rotate_left; (focus (intro w'; go_simp; with_reducible rfl)); rotate_left; (focus (simp only [pn_, sz_, ss_, i64_w, i32_w]; rfl))
                  refine pure_ (i := 16) (N := some 50) (v := ?_) (a' := ?_) (bl 23 76363) rfl rfl (any_of HT_.out (by kernel_rfl)) (fun _ _ _ h => h) (Or.inl ⟨by rfl, ?_⟩) ?_ ?_
                  rotate_left; (focus (intro w'; go_simp; with_reducible rfl)); rotate_left; (focus (simp only [pn_, sz_, ss_, i64_w, i32_w]; rfl))
                  refine take_ (i := 2) (N := some 36) (v := ?_) (a' := ?_) (bl 23 76367) rfl rfl (take_ofW HT_.out HW_.out (by kernel_rfl)) (fun _ _ _ h => h) (Or.inl ⟨by rfl, ?_⟩) hHeld ?_ ?_
                  rotate_left; (focus (rintro w' ⟨s0, s1, s2, s3, s4, s5, s6, s7⟩; go_simp; with_reducible rfl)); rotate_left; (focus (simp only [pn_, sz_, ss_, i64_w, i32_w]; rfl))
                  refine pure_ (i := 4) (N := some 38) (v := ?_) (a' := ?_) (bl 23 76383) rfl rfl (any_of HT_.out (by kernel_rfl)) (fun _ _ _ h => h) (Or.inl ⟨by rfl, ?_⟩) ?_ ?_
                  rotate_left; (focus (intro w'; go_simp; with_reducible rfl)); rotate_left; (focus (simp only [pn_, sz_, ss_, i64_w, i32_w]; rfl))
                  refine take_ (i := 5) (N := some 39) (v := ?_) (a' := ?_) (bl 23 76415) rfl rfl (take_ofW HT_.out HW_.out (by kernel_rfl)) (fun _ _ _ h => h) (Or.inl ⟨by rfl, ?_⟩) hHeld ?_ ?_
                  rotate_left; (focus (rintro w' ⟨s0, s1, s2, s3, s4, s5, s6, s7⟩; go_simp; with_reducible rfl)); rotate_left; (focus (simp only [pn_, sz_, ss_, i64_w, i32_w]; rfl))
                  refine pure_ (i := 7) (N := some 41) (v := ?_) (a' := ?_) (bl 23 76543) rfl rfl (any_of HT_.out (by kernel_rfl)) (fun _ _ _ h => h) (Or.inl ⟨by rfl, ?_⟩) ?_ ?_
                  rotate_left; (focus (intro w'; go_simp; with_reducible rfl)); rotate_left; (focus (simp only [pn_, sz_, ss_, i64_w, i32_w]; rfl))
                  refine take_ (i := 8) (N := some 42) (v := ?_) (a' := ?_) (bl 23 76799) rfl rfl (take_ofW HT_.out HW_.out (by kernel_rfl)) (fun _ _ _ h => h) (Or.inl ⟨by rfl, ?_⟩) hHeld ?_ ?_
                  rotate_left; (focus (rintro w' ⟨s0, s1, s2, s3, s4, s5, s6, s7⟩; go_simp; with_reducible rfl)); rotate_left; (focus (simp only [pn_, sz_, ss_, i64_w, i32_w]; rfl))
                  refine pure_ (i := 10) (N := some 44) (v := ?_) (a' := ?_) (bl 23 77823) rfl rfl (any_of HT_.out (by kernel_rfl)) (fun _ _ _ h => h) (Or.inl ⟨by rfl, ?_⟩) ?_ ?_
                  rotate_left; (focus (intro w'; go_simp; with_reducible rfl)); rotate_left; (focus (simp only [pn_, sz_, ss_, i64_w, i32_w]; rfl))
                  refine take_ (i := 12) (N := some 46) (v := ?_) (a' := ?_) (bl 23 81919) rfl rfl (take_ofW HT_.out HW_.out (by kernel_rfl)) (fun _ _ _ h => h) (Or.inl ⟨by rfl, ?_⟩) hHeld ?_ ?_
                  rotate_left; (focus (rintro w' ⟨s0, s1, s2, s3, s4, s5, s6, s7⟩; go_simp; with_reducible rfl)); rotate_left; (focus (simp only [pn_, sz_, ss_, i64_w, i32_w]; rfl))
                  refine pure_ (i := 14) (N := some 48) (v := ?_) (a' := ?_) (bl 23 98303) rfl rfl (any_of HT_.out (by kernel_rfl)) (fun _ _ _ h => h) (Or.inl ⟨by rfl, ?_⟩) ?_ ?_
                  rotate_left; (focus (intro w'; go_simp; with_reducible rfl)); rotate_left; (focus (simp only [pn_, sz_, ss_, i64_w, i32_w]; rfl))
                  refine take_ (i := 15) (N := some 49) (v := ?_) (a' := ?_) (bl 23 131071) rfl rfl (take_ofW HT_.out HW_.out (by kernel_rfl)) (fun _ _ _ h => h) (Or.inl ⟨by rfl, ?_⟩) hHeld ?_ ?_
                  rotate_left; (focus (rintro w' ⟨s0, s1, s2, s3, s4, s5, s6, s7⟩; go_simp; with_reducible rfl)); rotate_left; (focus (simp only [pn_, sz_, ss_, i64_w, i32_w]; rfl))
                  refine pure_ (i := 17) (N := some 51) (v := ?_) (a' := ?_) (bl 23 262143) rfl rfl (any_of HT_.out (by kernel_rfl)) (fun _ _ _ h => h) (Or.inl ⟨by rfl, ?_⟩) ?_ ?_
                  rotate_left; (focus (intro w'; go_simp; with_reducible rfl)); rotate_left; (focus (simp only [pn_, sz_, ss_, i64_w, i32_w]; rfl))
                  refine take_ (i := 18) (N := some 52) (v := ?_) (a' := ?_) (bl 23 524287) rfl rfl (take_ofW HT_.out HW_.out (by kernel_rfl)) (fun _ _ _ h => h) (Or.inl ⟨by rfl, ?_⟩) hHeld ?_ ?_
                  rotate_left; (focus (rintro w' ⟨s0, s1, s2, s3, s4, s5, s6, s7⟩; go_simp; with_reducible rfl)); rotate_left; (focus (simp only [pn_, sz_, ss_, i64_w, i32_w]; rfl))
                  refine pure_ (i := 19) (N := some 53) (v := ?_) (a' := ?_) (bl 23 1048575) rfl rfl (any_of HT_.out (by kernel_rfl)) (fun _ _ _ h => h) (Or.inl ⟨by rfl, ?_⟩) ?_ ?_
                  rotate_left; (focus (intro w'; go_simp; with_reducible rfl)); rotate_left; (focus (simp only [pn_, sz_, ss_, i64_w, i32_w]; rfl))
                  refine one_ (i := 20) (N := some 54) (bl 23 2097151) rfl rfl (one_of HT_.out (by kernel_rfl)) (by decide) (fun K hK => ?_)
                  refine value_ (w1 := ?_) (v := ?_) (by rfl) rfl ?_ ?_
                  rotate_left 2
                  ·go_simp
                   constructor
                   ·rfl
                   ·rfl
                  refine hK.out _ _ ⟨(blk_cell (blk_alloc BK422.out _) 0).trans rfl, (blk_cell (blk_alloc BK422.out _) 1).trans rfl, (blk_cell (blk_alloc BK423.out _) 0).trans rfl, (blk_cell (blk_alloc BK423.out _) 1).trans rfl, (World.cell?_alloc_lt _ _ _ (World.block_lt_of_cell? _ _ (((HB.out.cell (World.block_lt_of_cell? w _ hw429_0)).trans hw429_0)))).trans (((HB.out.cell (World.block_lt_of_cell? w _ hw429_0)).trans hw429_0)), (World.cell?_alloc_lt _ _ _ (World.block_lt_of_cell? _ _ (((HB.out.cell (World.block_lt_of_cell? w _ hw430_0)).trans hw430_0)))).trans (((HB.out.cell (World.block_lt_of_cell? w _ hw430_0)).trans hw430_0)), (World.cell?_alloc_lt _ _ _ (World.block_lt_of_cell? _ _ (((HB.out.cell (World.block_lt_of_cell? w _ hw431_0)).trans hw431_0)))).trans (((HB.out.cell (World.block_lt_of_cell? w _ hw431_0)).trans hw431_0)), (World.cell?_alloc_lt _ _ _ (World.block_lt_of_cell? _ _ (((HB.out.cell (World.block_lt_of_cell? w _ hw432_0)).trans hw432_0)))).trans (((HB.out.cell (World.block_lt_of_cell? w _ hw432_0)).trans hw432_0))⟩ (fun hHeld => ?_)
                  clear hK K
                  refine norm_ (a' := ?_) ?_ ?_
                  rotate_left
                  ·show Act.put _ (some 54) _ = _
                   simp only [pn_, sz_, ss_, i64_w, i32_w]
                   rfl
                  refine one_ (i := 21) (N := some 55) (bl 23 4194303) rfl rfl (one_of HT_.out (by kernel_rfl)) (by decide) (fun K hK => ?_)
                  refine Kd.R_append_step (Kd.int .i64) (w0 := w) w.heap.size (by rfl) (.tmp 34) (.tmp 54) 54 3 (.int .i64 0) 8 rfl Try.underlying54 info3 rfl (by decide) (by omega) u11 x11_3 (wrap64 ((wrap64 ((rd (rd_L2 l0_1 x9_1) x12_3) * (l1_0.length : Int))) + (rd (rd_L2 l1_1 x10_2) x12_3))) [.int .i64 (wrap64 ((wrap64 ((rd (rd_L2 l0_1 x9_1) x12_3) * (l1_0.length : Int))) + (rd (rd_L2 l1_1 x10_2) x12_3)))] (fun _ => True) (fun _ => False) rfl rfl ?aP (fun _ hk => hk.elim) ?aF ?aO ?aB ?aS ?aL ?_
                  (case aP => exact rfl)
                  (case aB => exact (by repeat (first | (with_reducible first | exact HB.out | apply below_alloc | apply pw_below_drewN | apply below_drew1 | refine below_set ?_ GE422.out | refine below_set ?_ GE423.out | refine below_set ?_ GE424.out | refine below_set ?_ GE425.out) | exact HB.out)))
                  (case aF => exact (fun _ _ => trivial))
                  (case aO => exact (by (with_reducible repeat (first | apply Kd.R_alloc | apply Kd.R_drewN | apply Kd.R_drew)); exact HO_11.out))
                  (case aS => exact (below_size (by repeat (first | (with_reducible first | exact HB.out | apply below_alloc | apply pw_below_drewN | apply below_drew1 | refine below_set ?_ GE422.out | refine below_set ?_ GE423.out | refine below_set ?_ GE424.out | refine below_set ?_ GE425.out) | exact HB.out))))
                  (case aL => have := LMc31.out; omega)
                  intro v434 w33 ho hb hg hat
                  rw [← Ny433.out] at ho
                  have n0_ := Aside0.mk (Kd.R_over' (by (with_reducible repeat (first | apply Kd.R_alloc | apply Kd.R_drewN | apply Kd.R_drew)); exact HO_426000.out) (Kd.R_typed (by (with_reducible repeat (first | apply Kd.R_alloc | apply Kd.R_drewN | apply Kd.R_drew)); exact HO_11.out)) (by decide) hg)
                  have n1_ := Aside0.mk (Kd.S_after (ok := (fun _ => True)) (by (with_reducible repeat (first | apply Kd.S_alloc | apply Kd.S_drewN | apply Kd.S_drew)); exact Kd.S_mono HO_426001.out (fun _ hk => ⟨trivial, hk⟩)) hg hat)
                  have n2_ := Aside0.mk (blk_grown (g := gb422) (o := .cells #[.slice A0_0 l0_0.length c0_0, .slice (some ad429) l0_1.length c0_1] 28 (0, 0)) (by (with_reducible repeat (first | refine blk_drewN ?_ _ | refine blk_drew ?_ | refine blk_alloc ?_ _)); exact BK422.out) hg (Kd.R_ne HO_11.out BK422.out (by decide)))
                  have n3_ := Aside0.mk (blk_grown (g := gb423) (o := .cells #[.slice A1_0 l1_0.length c1_0, .slice (some ad431) l1_1.length c1_1] 28 (0, 0)) (by (with_reducible repeat (first | refine blk_drewN ?_ _ | refine blk_drew ?_ | refine blk_alloc ?_ _)); exact BK423.out) hg (Kd.R_ne HO_11.out BK423.out (by decide)))
                  have n4_ := Aside0.mk (blk_grown (g := gb424) (o := .cells #[.slice none 0 0, .slice none 0 0] 28 (0, 0)) (by (with_reducible repeat (first | refine blk_drewN ?_ _ | refine blk_drew ?_ | refine blk_alloc ?_ _)); exact BK424.out) hg (Kd.R_ne HO_11.out BK424.out (by decide)))
                  have n5_ := Aside0.mk (blk_grown (g := gb425) (o := .cells #[u426000, u426001] 28 (0, 0)) (by (with_reducible repeat (first | refine blk_drewN ?_ _ | refine blk_drew ?_ | refine blk_alloc ?_ _)); exact BK425.out) hg (Kd.R_ne HO_11.out BK425.out (by decide)))
                  have n6_ := Aside0.mk (hb)
                  have n7_ := Aside0.mk (ho)
                  clear HO_426000 HO_426001 BK422 BK423 BK424 BK425 HB HO_11
                  have HO_426000 := n0_; have HO_426001 := n1_; have BK422 := n2_; have BK423 := n3_; have BK424 := n4_; have BK425 := n5_; have HB := n6_; have HO435 := n7_
                  clear n0_ n1_ n2_ n3_ n4_ n5_ n6_ n7_ ho hb hg hat
                  refine hK.out _ _ ⟨(blk_cell BK422.out 0).trans rfl, (blk_cell BK422.out 1).trans rfl, (blk_cell BK423.out 0).trans rfl, (blk_cell BK423.out 1).trans rfl, ((HB.out.cell (World.block_lt_of_cell? w _ hw429_0)).trans hw429_0), ((HB.out.cell (World.block_lt_of_cell? w _ hw430_0)).trans hw430_0), ((HB.out.cell (World.block_lt_of_cell? w _ hw431_0)).trans hw431_0), ((HB.out.cell (World.block_lt_of_cell? w _ hw432_0)).trans hw432_0)⟩ (fun hHeld => ?_)
                  clear hK K
                  refine norm_ (a' := ?_) ?_ ?_
                  rotate_left
                  ·show Act.put _ (some 55) _ = _
                   simp only [pn_, sz_, ss_, i64_w, i32_w]
                   rfl
                  refine pure_ (i := 22) (N := some 11) (v := ?_) (a' := ?_) (bl 23 8388607) rfl rfl (any_of HT_.out (by kernel_rfl)) (fun _ _ _ h => h) (Or.inl ⟨by rfl, ?_⟩) ?_ ?_
                  rotate_left; (focus (intro w'; go_simp; with_reducible rfl)); rotate_left; (focus (simp only [pn_, sz_, ss_, i64_w, i32_w]; rfl))
                  refine done_ (done_of HT_.out (by kernel_rfl)) ?_
                  try go_wp2
                  go_roundg k3
                  case measure => have := HK1.out; have := HK2.out; have := HK3.out; omega
                  case rel => exact ⟨(y433), (wrap64 (x12_3 + 1)), (by first | rfl | (simp; done) | (simp [*]; done)), H', ⟨by have := HK1.out; have := HK2.out; have := HK3.out; omega⟩, ⟨by (with_reducible repeat (first | apply Kd.R_alloc | apply Kd.R_drewN | apply Kd.R_drew)); exact HO435.out⟩, ⟨by (with_reducible repeat (first | apply Kd.R_alloc | apply Kd.R_drewN | apply Kd.R_drew)); exact HO_426000.out⟩, ⟨by (with_reducible repeat (first | apply Kd.S_alloc | apply Kd.S_drewN | apply Kd.S_drew)); exact Kd.S_mono HO_426001.out (fun _ hk => hk.2)⟩, ⟨by (with_reducible repeat (first | refine blk_drewN ?_ _ | refine blk_drew ?_ | refine blk_alloc ?_ _)); exact BK422.out⟩, ⟨by (with_reducible repeat (first | refine blk_drewN ?_ _ | refine blk_drew ?_ | refine blk_alloc ?_ _)); exact BK423.out⟩, ⟨by (with_reducible repeat (first | refine blk_drewN ?_ _ | refine blk_drew ?_ | refine blk_alloc ?_ _)); exact BK424.out⟩, ⟨by (with_reducible repeat (first | refine blk_drewN ?_ _ | refine blk_drew ?_ | refine blk_alloc ?_ _)); exact BK425.out⟩, ⟨by repeat (first | (with_reducible first | exact HB.out | apply below_alloc | apply pw_below_drewN | apply below_drew1 | refine below_set ?_ GE422.out | refine below_set ?_ GE423.out | refine below_set ?_ GE424.out | refine below_set ?_ GE425.out) | exact HB.out)⟩⟩
                 ·rw [if_neg c31] at H
                  exact absurd H (by simp)
                ·rw [if_neg c30] at H
                 exact absurd H (by simp)
               ·rw [if_neg c29] at H
                exact absurd H (by simp)
              ·rw [if_neg c28] at H
               exact absurd H (by simp)
             ·rw [if_neg c27] at H
              exact absurd H (by simp)
            ·rw [if_neg c26] at H
             exact absurd H (by simp)
           ·rw [if_neg c25] at H
            exact absurd H (by simp)
          ·rw [if_neg c24] at H
           exact absurd H (by simp)
         ·rw [if_neg c23] at H
          have c23b0 : decide (x12_3 < 3) = false := decide_eq_false c23
          clear c23
          by_cases c34 : 0 ≤ x9_1
          ·rw [if_pos c34] at H
           have c34b0 : decide (0 ≤ x9_1) = true := decide_eq_true c34
           clear c34
           by_cases c35 : x9_1 < (l0_0.length : Int)
           ·rw [if_pos c35] at H
            have c35b0 : decide (x9_1 < (l0_0.length : Int)) = true := decide_eq_true c35
            clear c35
            obtain ⟨bq36, hbq36⟩ : ∃ b_ : Bool, b_ = (rdOf false l0_0 x9_1) := ⟨_, rfl⟩
            replace H : (if bq36 = true then (if 0 ≤ x10_2 then (if x10_2 < (l1_0.length : Int) then (if rdOf false l1_0 x10_2 = true then (if a2 = true then (if x426000_2.length < 140737488355328 then (if x426001_2.length < 5864062014805 then (spec_l7Pairs.l1 k3 a2 (l1_0.length : Int) x9_1 (wrap64 (x10_2 + 1)) l0_0 l0_1 l1_0 l1_1 (x426000_2 ++ [!(bq36)]) (x426001_2 ++ [x11_3])) else (none)) else (none)) else (if x426000_2.length < 140737488355328 then (if x426001_2.length < 5864062014805 then (spec_l7Pairs.l1 k3 a2 (l1_0.length : Int) x9_1 (wrap64 (x10_2 + 1)) l0_0 l0_1 l1_0 l1_1 (x426000_2 ++ [false]) (x426001_2 ++ [x11_3])) else (none)) else (none))) else (if x426000_2.length < 140737488355328 then (if x426001_2.length < 5864062014805 then (spec_l7Pairs.l1 k3 a2 (l1_0.length : Int) x9_1 (wrap64 (x10_2 + 1)) l0_0 l0_1 l1_0 l1_1 (x426000_2 ++ [true]) (x426001_2 ++ [x11_3])) else (none)) else (none))) else (none)) else (none)) else (if a2 = true then (if 0 ≤ x10_2 then (if x10_2 < (l1_0.length : Int) then (if rdOf false l1_0 x10_2 = true then (if x426000_2.length < 140737488355328 then (if x426001_2.length < 5864062014805 then (spec_l7Pairs.l1 k3 a2 (l1_0.length : Int) x9_1 (wrap64 (x10_2 + 1)) l0_0 l0_1 l1_0 l1_1 (x426000_2 ++ [!(bq36)]) (x426001_2 ++ [x11_3])) else (none)) else (none)) else (if x426000_2.length < 140737488355328 then (if x426001_2.length < 5864062014805 then (spec_l7Pairs.l1 k3 a2 (l1_0.length : Int) x9_1 (wrap64 (x10_2 + 1)) l0_0 l0_1 l1_0 l1_1 (x426000_2 ++ [false]) (x426001_2 ++ [x11_3])) else (none)) else (none))) else (none)) else (none)) else (if x426000_2.length < 140737488355328 then (if x426001_2.length < 5864062014805 then (spec_l7Pairs.l1 k3 a2 (l1_0.length : Int) x9_1 (wrap64 (x10_2 + 1)) l0_0 l0_1 l1_0 l1_1 (x426000_2 ++ [false]) (x426001_2 ++ [x11_3])) else (none)) else (none)))) = some (r1, r2) := by rw [← hbq36] at H; exact H
            have Nbq36 := Aside0.mk hbq36
            clear hbq36
            by_cases c37 : bq36 = true
            ·subst c37
             have H1 : (if 0 ≤ x10_2 then (if x10_2 < (l1_0.length : Int) then (if rdOf false l1_0 x10_2 = true then (if a2 = true then (if x426000_2.length < 140737488355328 then (if x426001_2.length < 5864062014805 then (spec_l7Pairs.l1 k3 a2 (l1_0.length : Int) x9_1 (wrap64 (x10_2 + 1)) l0_0 l0_1 l1_0 l1_1 (x426000_2 ++ [!(true)]) (x426001_2 ++ [x11_3])) else (none)) else (none)) else (if x426000_2.length < 140737488355328 then (if x426001_2.length < 5864062014805 then (spec_l7Pairs.l1 k3 a2 (l1_0.length : Int) x9_1 (wrap64 (x10_2 + 1)) l0_0 l0_1 l1_0 l1_1 (x426000_2 ++ [false]) (x426001_2 ++ [x11_3])) else (none)) else (none))) else (if x426000_2.length < 140737488355328 then (if x426001_2.length < 5864062014805 then (spec_l7Pairs.l1 k3 a2 (l1_0.length : Int) x9_1 (wrap64 (x10_2 + 1)) l0_0 l0_1 l1_0 l1_1 (x426000_2 ++ [true]) (x426001_2 ++ [x11_3])) else (none)) else (none))) else (none)) else (none)) = some (r1, r2) := by rw [if_pos rfl] at H; exact H
             clear H
             have H := H1
             clear H1
             by_cases c38 : 0 ≤ x10_2
             ·rw [if_pos c38] at H
              have c38b0 : decide (0 ≤ x10_2) = true := decide_eq_true c38
              clear c38
              by_cases c39 : x10_2 < (l1_0.length : Int)
              ·rw [if_pos c39] at H
               have c39b0 : decide (x10_2 < (l1_0.length : Int)) = true := decide_eq_true c39
               clear c39
               obtain ⟨bq40, hbq40⟩ : ∃ b_ : Bool, b_ = (rdOf false l1_0 x10_2) := ⟨_, rfl⟩
               replace H : (if bq40 = true then (if a2 = true then (if x426000_2.length < 140737488355328 then (if x426001_2.length < 5864062014805 then (spec_l7Pairs.l1 k3 a2 (l1_0.length : Int) x9_1 (wrap64 (x10_2 + 1)) l0_0 l0_1 l1_0 l1_1 (x426000_2 ++ [!(true)]) (x426001_2 ++ [x11_3])) else (none)) else (none)) else (if x426000_2.length < 140737488355328 then (if x426001_2.length < 5864062014805 then (spec_l7Pairs.l1 k3 a2 (l1_0.length : Int) x9_1 (wrap64 (x10_2 + 1)) l0_0 l0_1 l1_0 l1_1 (x426000_2 ++ [false]) (x426001_2 ++ [x11_3])) else (none)) else (none))) else (if x426000_2.length < 140737488355328 then (if x426001_2.length < 5864062014805 then (spec_l7Pairs.l1 k3 a2 (l1_0.length : Int) x9_1 (wrap64 (x10_2 + 1)) l0_0 l0_1 l1_0 l1_1 (x426000_2 ++ [true]) (x426001_2 ++ [x11_3])) else (none)) else (none))) = some (r1, r2) := by rw [← hbq40] at H; exact H
               have Nbq40 := Aside0.mk hbq40
               clear hbq40
               by_cases c41 : bq40 = true
               ·subst c41
                have H1 : (if a2 = true then (if x426000_2.length < 140737488355328 then (if x426001_2.length < 5864062014805 then (spec_l7Pairs.l1 k3 a2 (l1_0.length : Int) x9_1 (wrap64 (x10_2 + 1)) l0_0 l0_1 l1_0 l1_1 (x426000_2 ++ [!(true)]) (x426001_2 ++ [x11_3])) else (none)) else (none)) else (if x426000_2.length < 140737488355328 then (if x426001_2.length < 5864062014805 then (spec_l7Pairs.l1 k3 a2 (l1_0.length : Int) x9_1 (wrap64 (x10_2 + 1)) l0_0 l0_1 l1_0 l1_1 (x426000_2 ++ [false]) (x426001_2 ++ [x11_3])) else (none)) else (none))) = some (r1, r2) := by rw [if_pos rfl] at H; exact H
                clear H
                have H := H1
                clear H1
                by_cases c42 : a2 = true
                ·subst c42
                 have H1 : (if x426000_2.length < 140737488355328 then (if x426001_2.length < 5864062014805 then (spec_l7Pairs.l1 k3 true (l1_0.length : Int) x9_1 (wrap64 (x10_2 + 1)) l0_0 l0_1 l1_0 l1_1 (x426000_2 ++ [!(true)]) (x426001_2 ++ [x11_3])) else (none)) else (none)) = some (r1, r2) := by rw [if_pos rfl] at H; exact H
                 clear H
                 have H := H1
                 clear H1
                 by_cases c43 : x426000_2.length < 140737488355328
                 ·rw [if_pos c43] at H
                  have LMc43 := Aside0.mk c43
                  clear c43
                  obtain ⟨y440, hy440⟩ : ∃ y_ : List Bool, y_ = (x426000_2 ++ [!(true)]) := ⟨_, rfl⟩
                  replace H : (if x426001_2.length < 5864062014805 then (spec_l7Pairs.l1 k3 true (l1_0.length : Int) x9_1 (wrap64 (x10_2 + 1)) l0_0 l0_1 l1_0 l1_1 y440 (x426001_2 ++ [x11_3])) else (none)) = some (r1, r2) := by first | (rw [hy440]; with_reducible exact H) | (have H2_ := (Option.bind_some _ _).symm.trans H; rw [hy440]; with_reducible exact H2_) | (have H2_ := (Option.bind_some _ _).symm.trans H; with_reducible exact H2_) | with_reducible exact H | (rw [hy440]; exact H) | exact H
                  have Ny440 := Aside0.mk hy440
                  clear hy440
                  by_cases c44 : x426001_2.length < 5864062014805
                  ·rw [if_pos c44] at H
                   have LMc44 := Aside0.mk c44
                   clear c44
                   obtain ⟨y443, hy443⟩ : ∃ y_ : List (List Int), y_ = (x426001_2 ++ [x11_3]) := ⟨_, rfl⟩
                   replace H : (spec_l7Pairs.l1 k3 true (l1_0.length : Int) x9_1 (wrap64 (x10_2 + 1)) l0_0 l0_1 l1_0 l1_1 y440 y443) = some (r1, r2) := by first | (rw [hy443]; with_reducible exact H) | (have H2_ := (Option.bind_some _ _).symm.trans H; rw [hy443]; with_reducible exact H2_) | (have H2_ := (Option.bind_some _ _).symm.trans H; with_reducible exact H2_) | with_reducible exact H | (rw [hy443]; exact H) | exact H
                   have Ny443 := Aside0.mk hy443
                   clear hy443
                   have H' := Aside0.mk H
                   clear H
                   try go_wp2
                   have n0_ := Aside0.mk (Kd.R_drew HO_11.out)
                   have n1_ := Aside0.mk (Kd.R_drew HO_426000.out)
                   have n2_ := Aside0.mk (Kd.S_drew HO_426001.out)
                   have n3_ := Aside0.mk (blk_drew BK422.out)
                   have n4_ := Aside0.mk (blk_drew BK423.out)
                   have n5_ := Aside0.mk (blk_drew BK424.out)
                   have n6_ := Aside0.mk (blk_drew BK425.out)
                   have n7_ := Aside0.mk (below_drew1 HB.out)
                   clear HO_11 HO_426000 HO_426001 BK422 BK423 BK424 BK425 HB
                   have HO_11 := n0_; have HO_426000 := n1_; have HO_426001 := n2_; have BK422 := n3_; have BK423 := n4_; have BK424 := n5_; have BK425 := n6_; have HB := n7_
                   clear n0_ n1_ n2_ n3_ n4_ n5_ n6_ n7_
                   have p436 : 0 ≤ (x9_1 : Int) := of_decide_eq_true (by first | (with_reducible assumption) | assumption)
                   have q436 : x9_1 < (l0_0.length : Int) := of_decide_eq_true (by first | (with_reducible assumption) | assumption)
                   obtain ⟨ad436, e436, hx436_0⟩ := Kd.at_bool HR0_0.out x9_1 p436 q436
                   have hw436_0 := hx436_0
                   (try rw [← Nbq36.out] at hx436_0)
                   (try rw [← Nbq36.out] at hw436_0)
                   (try rw [← Nbq40.out] at hx436_0)
                   (try rw [← Nbq40.out] at hw436_0)
                   cases e436
                   replace hx436_0 := (HB.out.cell (World.block_lt_of_cell? w _ hx436_0)).trans hx436_0
                   replace p436 := eq_true p436
                   replace q436 := eq_true q436
                   have p437 : 0 ≤ (x10_2 : Int) := of_decide_eq_true (by first | (with_reducible assumption) | assumption)
                   have q437 : x10_2 < (l1_0.length : Int) := of_decide_eq_true (by first | (with_reducible assumption) | assumption)
                   obtain ⟨ad437, e437, hx437_0⟩ := Kd.at_bool HR1_0.out x10_2 p437 q437
                   have hw437_0 := hx437_0
                   (try rw [← Nbq36.out] at hx437_0)
                   (try rw [← Nbq36.out] at hw437_0)
                   (try rw [← Nbq40.out] at hx437_0)
                   (try rw [← Nbq40.out] at hw437_0)
                   cases e437
                   replace hx437_0 := (HB.out.cell (World.block_lt_of_cell? w _ hx437_0)).trans hx437_0
                   replace p437 := eq_true p437
                   replace q437 := eq_true q437
                   have p438 : 0 ≤ (x10_2 : Int) := of_decide_eq_true (by first | (with_reducible assumption) | assumption)
                   have q438 : x10_2 < (l1_0.length : Int) := of_decide_eq_true (by first | (with_reducible assumption) | assumption)
                   obtain ⟨ad438, e438, hx438_0⟩ := Kd.at_bool HR1_0.out x10_2 p438 q438
                   have hw438_0 := hx438_0
                   (try rw [← Nbq36.out] at hx438_0)
                   (try rw [← Nbq36.out] at hw438_0)
                   (try rw [← Nbq40.out] at hx438_0)
                   (try rw [← Nbq40.out] at hw438_0)
                   obtain rfl : ad437 = ad438 := (by injection e438)
                   replace hx438_0 := (HB.out.cell (World.block_lt_of_cell? w _ hx438_0)).trans hx438_0
                   replace p438 := eq_true p438
                   replace q438 := eq_true q438
                   have p439 : 0 ≤ (x9_1 : Int) := of_decide_eq_true (by first | (with_reducible assumption) | assumption)
                   have q439 : x9_1 < (l0_0.length : Int) := of_decide_eq_true (by first | (with_reducible assumption) | assumption)
                   obtain ⟨ad439, e439, hx439_0⟩ := Kd.at_bool HR0_0.out x9_1 p439 q439
                   have hw439_0 := hx439_0
                   (try rw [← Nbq36.out] at hx439_0)
                   (try rw [← Nbq36.out] at hw439_0)
                   (try rw [← Nbq40.out] at hx439_0)
                   (try rw [← Nbq40.out] at hw439_0)
                   obtain rfl : ad436 = ad439 := (by injection e439)
                   replace hx439_0 := (HB.out.cell (World.block_lt_of_cell? w _ hx439_0)).trans hx439_0
                   replace p439 := eq_true p439
                   replace q439 := eq_true q439
                   refine start_ (n := 37) (S := fun w' => w'.cell? ⟨gb425, 0, none⟩ = some (u426000) ∧ w'.cell? ⟨gb425, 1, none⟩ = some (u426001) ∧ w'.cell? ⟨gb422, 0, none⟩ = some (.slice (some ad436) l0_0.length c0_0) ∧ w'.cell? ⟨gb422, 1, none⟩ = some (.slice A0_1 l0_1.length c0_1) ∧ w'.cell? ⟨gb423, 0, none⟩ = some (.slice (some ad437) l1_0.length c1_0) ∧ w'.cell? ⟨gb423, 1, none⟩ = some (.slice A1_1 l1_1.length c1_1) ∧ w'.cell? (ad436.add (x9_1).toNat) = some (.bool true) ∧ w'.cell? (ad437.add (x10_2).toNat) = some (.bool true) ∧ w'.cell? (ad437.add (x10_2).toNat) = some (.bool (true)) ∧ w'.cell? (ad436.add (x9_1).toNat) = some (.bool (true))) (ds := [36]) (bl 37 0) (by kernel_rfl) rfl rfl ⟨(blk_cell BK425.out 0).trans rfl, (blk_cell BK425.out 1).trans rfl, (blk_cell BK422.out 0).trans rfl, (blk_cell BK422.out 1).trans rfl, (blk_cell BK423.out 0).trans rfl, (blk_cell BK423.out 1).trans rfl, ((HB.out.cell (World.block_lt_of_cell? w _ hw436_0)).trans hw436_0), ((HB.out.cell (World.block_lt_of_cell? w _ hw437_0)).trans hw437_0), ((HB.out.cell (World.block_lt_of_cell? w _ hw438_0)).trans hw438_0), ((HB.out.cell (World.block_lt_of_cell? w _ hw439_0)).trans hw439_0)⟩ (fun hHeld => ?_); refine with_tabW spec_l7Pairs.tab14 spec_l7Pairs.bits14 (fun HT_ HW_ => ?_)
                   generalize wr.drew = w45 at HO_11 HO_426000 HO_426001 BK422 BK423 BK424 BK425 HB hx436_0 hx437_0 hx438_0 hx439_0 hHeld ⊢
                   refine pure_ (i := 0) (N := some 56) (v := ?_) (a' := ?_) (bl 37 1) rfl rfl (any_of HT_.out (by kernel_rfl)) (fun _ _ _ h => h) (Or.inl ⟨by rfl, ?_⟩) ?_ ?_
                   rotate_left; (focus (intro w'; go_simp; with_reducible rfl)); rotate_left; (focus (simp only [pn_, sz_, ss_, i64_w, i32_w]; rfl))
                   refine pure_ (i := 2) (N := some 58) (v := ?_) (a' := ?_) (bl 37 5) rfl rfl (any_of HT_.out (by kernel_rfl)) (fun _ _ _ h => h) (Or.inl ⟨by rfl, ?_⟩) ?_ ?_
                   rotate_left; (focus (intro w'; go_simp; with_reducible rfl)); rotate_left; (focus (simp only [pn_, sz_, ss_, i64_w, i32_w]; rfl))
                   refine pure_ (i := 4) (N := some 60) (v := ?_) (a' := ?_) (bl 37 21) rfl rfl (any_of HT_.out (by kernel_rfl)) (fun _ _ _ h => h) (Or.inl ⟨by rfl, ?_⟩) ?_ ?_
                   rotate_left; (focus (intro w'; go_simp; with_reducible rfl)); rotate_left; (focus (simp only [pn_, sz_, ss_, i64_w, i32_w]; rfl))
                   refine take_ (i := 1) (N := some 57) (v := ?_) (a' := ?_) (bl 37 23) rfl rfl (take_ofW HT_.out HW_.out (by kernel_rfl)) (fun _ _ _ h => h) (Or.inl ⟨by rfl, ?_⟩) hHeld ?_ ?_
                   rotate_left; (focus (rintro w' ⟨s0, s1, s2, s3, s4, s5, s6, s7, s8, s9⟩; go_simp; with_reducible rfl)); rotate_left; (focus (simp only [pn_, sz_, ss_, i64_w, i32_w]; rfl))
                   refine take_ (i := 3) (N := some 59) (v := ?_) (a' := ?_) (bl 37 31) rfl rfl (take_ofW HT_.out HW_.out (by kernel_rfl)) (fun _ _ _ h => h) (Or.inl ⟨by rfl, ?_⟩) hHeld ?_ ?_
                   rotate_left; (focus (rintro w' ⟨s0, s1, s2, s3, s4, s5, s6, s7, s8, s9⟩; go_simp; with_reducible rfl)); rotate_left; (focus (simp only [pn_, sz_, ss_, i64_w, i32_w]; rfl))
                   refine pure_ (i := 5) (N := some 61) (v := ?_) (a' := ?_) (bl 37 63) rfl rfl (any_of HT_.out (by kernel_rfl)) (fun _ _ _ h => h) (Or.inl ⟨by rfl, ?_⟩) ?_ ?_
                   rotate_left; (focus (intro w'; go_simp; with_reducible rfl)); rotate_left; (focus (simp only [pn_, sz_, ss_, i64_w, i32_w]; rfl))
                   refine take_ (i := 6) (N := some 62) (v := ?_) (a' := ?_) (bl 37 127) rfl rfl (take_ofW HT_.out HW_.out (by kernel_rfl)) (fun _ _ _ h => h) (Or.inl ⟨by rfl, ?_⟩) hHeld ?_ ?_
                   rotate_left; (focus (rintro w' ⟨s0, s1, s2, s3, s4, s5, s6, s7, s8, s9⟩; go_simp; with_reducible rfl)); rotate_left; (focus (simp only [pn_, sz_, ss_, i64_w, i32_w]; rfl))
                   refine pure_ (i := 7) (N := some 63) (v := ?_) (a' := ?_) (bl 37 255) rfl rfl (any_of HT_.out (by kernel_rfl)) (fun _ _ _ h => h) (Or.inl ⟨by rfl, ?_⟩) ?_ ?_
                   rotate_left; (focus (intro w'; go_simp; with_reducible rfl)); rotate_left; (focus (simp only [pn_, sz_, ss_, i64_w, i32_w]; rfl))
                   refine pure_ (i := 8) (N := some 64) (v := ?_) (a' := ?_) (bl 37 511) rfl rfl (any_of HT_.out (by kernel_rfl)) (fun _ _ _ h => h) (Or.inl ⟨by rfl, ?_⟩) ?_ ?_
                   rotate_left; (focus (intro w'; go_simp; with_reducible rfl)); rotate_left; (focus (simp only [pn_, sz_, ss_, i64_w, i32_w]; rfl))
                   refine pure_ (i := 10) (N := some 66) (v := ?_) (a' := ?_) (bl 37 1535) rfl rfl (any_of HT_.out (by kernel_rfl)) (fun _ _ _ h => h) (Or.inl ⟨by rfl, ?_⟩) ?_ ?_
                   rotate_left; (focus (intro w'; go_simp; with_reducible rfl)); rotate_left; (focus (simp only [pn_, sz_, ss_, i64_w, i32_w]; rfl))
                   refine take_ (i := 9) (N := some 65) (v := ?_) (a' := ?_) (bl 37 2047) rfl rfl (take_ofW HT_.out HW_.out (by kernel_rfl)) (fun _ _ _ h => h) (Or.inl ⟨by rfl, ?_⟩) hHeld ?_ ?_
                   rotate_left; (focus (rintro w' ⟨s0, s1, s2, s3, s4, s5, s6, s7, s8, s9⟩; go_simp; with_reducible rfl)); rotate_left; (focus (simp only [pn_, sz_, ss_, i64_w, i32_w]; rfl))
                   refine pure_ (i := 11) (N := some 67) (v := ?_) (a' := ?_) (bl 37 4095) rfl rfl (any_of HT_.out (by kernel_rfl)) (fun _ _ _ h => h) (Or.inl ⟨by rfl, ?_⟩) ?_ ?_
                   rotate_left; (focus (intro w'; go_simp; with_reducible rfl)); rotate_left; (focus (simp only [pn_, sz_, ss_, i64_w, i32_w]; rfl))
                   refine take_ (i := 12) (N := some 68) (v := ?_) (a' := ?_) (bl 37 8191) rfl rfl (take_ofW HT_.out HW_.out (by kernel_rfl)) (fun _ _ _ h => h) (Or.inl ⟨by rfl, ?_⟩) hHeld ?_ ?_
                   rotate_left; (focus (rintro w' ⟨s0, s1, s2, s3, s4, s5, s6, s7, s8, s9⟩; go_simp; with_reducible rfl)); rotate_left; (focus (simp only [pn_, sz_, ss_, i64_w, i32_w]; rfl))
                   refine pure_ (i := 13) (N := some 69) (v := ?_) (a' := ?_) (bl 37 16383) rfl rfl (any_of HT_.out (by kernel_rfl)) (fun _ _ _ h => h) (Or.inl ⟨by rfl, ?_⟩) ?_ ?_
                   rotate_left; (focus (intro w'; go_simp; with_reducible rfl)); rotate_left; (focus (simp only [pn_, sz_, ss_, i64_w, i32_w]; rfl))
                   refine pure_ (i := 14) (N := some 70) (v := ?_) (a' := ?_) (bl 37 32767) rfl rfl (any_of HT_.out (by kernel_rfl)) (fun _ _ _ h => h) (Or.inl ⟨by rfl, ?_⟩) ?_ ?_
                   rotate_left; (focus (intro w'; go_simp; with_reducible rfl)); rotate_left; (focus (simp only [pn_, sz_, ss_, i64_w, i32_w]; rfl))
                   refine pure_ (i := 15) (N := some 71) (v := ?_) (a' := ?_) (bl 37 65535) rfl rfl (any_of HT_.out (by kernel_rfl)) (fun _ _ _ h => h) (Or.inl ⟨by rfl, ?_⟩) ?_ ?_
                   rotate_left; (focus (intro w'; go_simp; with_reducible rfl)); rotate_left; (focus (simp only [pn_, sz_, ss_, i64_w, i32_w]; rfl))
                   refine pure_ (i := 16) (N := some 72) (v := ?_) (a' := ?_) (bl 37 131071) rfl rfl (any_of HT_.out (by kernel_rfl)) (fun _ _ _ h => h) (Or.inl ⟨by rfl, ?_⟩) ?_ ?_
                   rotate_left; (focus (intro w'; go_simp; with_reducible rfl)); rotate_left; (focus (simp only [pn_, sz_, ss_, i64_w, i32_w]; rfl))
                   refine pure_ (i := 17) (N := some 73) (v := ?_) (a' := ?_) (bl 37 262143) rfl rfl (any_of HT_.out (by kernel_rfl)) (fun _ _ _ h => h) (Or.inl ⟨by rfl, ?_⟩) ?_ ?_
                   rotate_left; (focus (intro w'; go_simp; with_reducible rfl)); rotate_left; (focus (simp only [pn_, sz_, ss_, i64_w, i32_w]; rfl))
                   refine pure_ (i := 18) (N := some 74) (v := ?_) (a' := ?_) (bl 37 524287) rfl rfl (any_of HT_.out (by kernel_rfl)) (fun _ _ _ h => h) (Or.inl ⟨by rfl, ?_⟩) ?_ ?_
                   rotate_left; (focus (intro w'; go_simp; with_reducible rfl)); rotate_left; (focus (simp only [pn_, sz_, ss_, i64_w, i32_w]; rfl))
                   refine pure_ (i := 20) (N := some 76) (v := ?_) (a' := ?_) (bl 37 1572863) rfl rfl (any_of HT_.out (by kernel_rfl)) (fun _ _ _ h => h) (Or.inl ⟨by rfl, ?_⟩) ?_ ?_
                   rotate_left; (focus (intro w'; go_simp; with_reducible rfl)); rotate_left; (focus (simp only [pn_, sz_, ss_, i64_w, i32_w]; rfl))
                   refine take_ (i := 19) (N := some 75) (v := ?_) (a' := ?_) (bl 37 2097151) rfl rfl (take_ofW HT_.out HW_.out (by kernel_rfl)) (fun _ _ _ h => h) (Or.inl ⟨by rfl, ?_⟩) hHeld ?_ ?_
                   rotate_left; (focus (rintro w' ⟨s0, s1, s2, s3, s4, s5, s6, s7, s8, s9⟩; go_simp; with_reducible rfl)); rotate_left; (focus (simp only [pn_, sz_, ss_, i64_w, i32_w]; rfl))
                   refine pure_ (i := 21) (N := some 77) (v := ?_) (a' := ?_) (bl 37 4194303) rfl rfl (any_of HT_.out (by kernel_rfl)) (fun _ _ _ h => h) (Or.inl ⟨by rfl, ?_⟩) ?_ ?_
                   rotate_left; (focus (intro w'; go_simp; with_reducible rfl)); rotate_left; (focus (simp only [pn_, sz_, ss_, i64_w, i32_w]; rfl))
                   refine take_ (i := 22) (N := some 78) (v := ?_) (a' := ?_) (bl 37 8388607) rfl rfl (take_ofW HT_.out HW_.out (by kernel_rfl)) (fun _ _ _ h => h) (Or.inl ⟨by rfl, ?_⟩) hHeld ?_ ?_
                   rotate_left; (focus (rintro w' ⟨s0, s1, s2, s3, s4, s5, s6, s7, s8, s9⟩; go_simp; with_reducible rfl)); rotate_left; (focus (simp only [pn_, sz_, ss_, i64_w, i32_w]; rfl))
                   refine pure_ (i := 23) (N := some 79) (v := ?_) (a' := ?_) (bl 37 16777215) rfl rfl (any_of HT_.out (by kernel_rfl)) (fun _ _ _ h => h) (Or.inl ⟨by rfl, ?_⟩) ?_ ?_
                   rotate_left; (focus (intro w'; go_simp; with_reducible rfl)); rotate_left; (focus (simp only [pn_, sz_, ss_, i64_w, i32_w]; rfl))
                   refine pure_ (i := 24) (N := some 80) (v := ?_) (a' := ?_) (bl 37 33554431) rfl rfl (any_of HT_.out (by kernel_rfl)) (fun _ _ _ h => h) (Or.inl ⟨by rfl, ?_⟩) ?_ ?_
                   rotate_left; (focus (intro w'; go_simp; with_reducible rfl)); rotate_left; (focus (simp only [pn_, sz_, ss_, i64_w, i32_w]; rfl))
                   refine pure_ (i := 25) (N := some 81) (v := ?_) (a' := ?_) (bl 37 67108863) rfl rfl (any_of HT_.out (by kernel_rfl)) (fun _ _ _ h => h) (Or.inl ⟨by rfl, ?_⟩) ?_ ?_
                   rotate_left; (focus (intro w'; go_simp; with_reducible rfl)); rotate_left; (focus (simp only [pn_, sz_, ss_, i64_w, i32_w]; rfl))
                   refine pure_ (i := 27) (N := some 83) (v := ?_) (a' := ?_) (bl 37 201326591) rfl rfl (any_of HT_.out (by kernel_rfl)) (fun _ _ _ h => h) (Or.inl ⟨by rfl, ?_⟩) ?_ ?_
                   rotate_left; (focus (intro w'; go_simp; with_reducible rfl)); rotate_left; (focus (simp only [pn_, sz_, ss_, i64_w, i32_w]; rfl))
                   refine take_ (i := 26) (N := some 82) (v := ?_) (a' := ?_) (bl 37 268435455) rfl rfl (take_ofW HT_.out HW_.out (by kernel_rfl)) (fun _ _ _ h => h) (Or.inl ⟨by rfl, ?_⟩) hHeld ?_ ?_
                   rotate_left; (focus (rintro w' ⟨s0, s1, s2, s3, s4, s5, s6, s7, s8, s9⟩; go_simp; with_reducible rfl)); rotate_left; (focus (simp only [pn_, sz_, ss_, i64_w, i32_w]; rfl))
                   refine pure_ (i := 28) (N := some 84) (v := ?_) (a' := ?_) (bl 37 536870911) rfl rfl (any_of HT_.out (by kernel_rfl)) (fun _ _ _ h => h) (Or.inl ⟨by rfl, ?_⟩) ?_ ?_
                   rotate_left; (focus (intro w'; go_simp; with_reducible rfl)); rotate_left; (focus (simp only [pn_, sz_, ss_, i64_w, i32_w]; rfl))
                   refine take_ (i := 29) (N := some 85) (v := ?_) (a' := ?_) (bl 37 1073741823) rfl rfl (take_ofW HT_.out HW_.out (by kernel_rfl)) (fun _ _ _ h => h) (Or.inl ⟨by rfl, ?_⟩) hHeld ?_ ?_
                   rotate_left; (focus (rintro w' ⟨s0, s1, s2, s3, s4, s5, s6, s7, s8, s9⟩; go_simp; with_reducible rfl)); rotate_left; (focus (simp only [pn_, sz_, ss_, i64_w, i32_w]; rfl))
                   refine pure_ (i := 30) (N := some 86) (v := ?_) (a' := ?_) (bl 37 2147483647) rfl rfl (any_of HT_.out (by kernel_rfl)) (fun _ _ _ h => h) (Or.inl ⟨by rfl, ?_⟩) ?_ ?_
                   rotate_left; (focus (intro w'; go_simp; with_reducible rfl)); rotate_left; (focus (simp only [pn_, sz_, ss_, i64_w, i32_w]; rfl))
                   refine pure_ (i := 31) (N := some 87) (v := ?_) (a' := ?_) (bl 37 4294967295) rfl rfl (any_of HT_.out (by kernel_rfl)) (fun _ _ _ h => h) (Or.inl ⟨by rfl, ?_⟩) ?_ ?_
                   rotate_left; (focus (intro w'; go_simp; with_reducible rfl)); rotate_left; (focus (simp only [pn_, sz_, ss_, i64_w, i32_w]; rfl))
                   refine pure_ (i := 32) (N := some 88) (v := ?_) (a' := ?_) (bl 37 8589934591) rfl rfl (any_of HT_.out (by kernel_rfl)) (fun _ _ _ h => h) (Or.inl ⟨by rfl, ?_⟩) ?_ ?_
                   rotate_left; (focus (intro w'; go_simp; with_reducible rfl)); rotate_left; (focus (simp only [pn_, sz_, ss_, i64_w, i32_w]; rfl))
                   refine one_ (i := 33) (N := some 89) (bl 37 17179869183) rfl rfl (one_of HT_.out (by kernel_rfl)) (by decide) (fun K hK => ?_)
                   refine value_ (w1 := ?_) (v := ?_) (by rfl) rfl ?_ ?_
                   rotate_left 2
                   ·go_simp
                    constructor
                    ·rfl
                    ·rfl
                   refine hK.out _ _ ⟨(blk_cell (blk_alloc BK425.out _) 0).trans rfl, (blk_cell (blk_alloc BK425.out _) 1).trans rfl, (blk_cell (blk_alloc BK422.out _) 0).trans rfl, (blk_cell (blk_alloc BK422.out _) 1).trans rfl, (blk_cell (blk_alloc BK423.out _) 0).trans rfl, (blk_cell (blk_alloc BK423.out _) 1).trans rfl, (World.cell?_alloc_lt _ _ _ (World.block_lt_of_cell? _ _ (((HB.out.cell (World.block_lt_of_cell? w _ hw436_0)).trans hw436_0)))).trans (((HB.out.cell (World.block_lt_of_cell? w _ hw436_0)).trans hw436_0)), (World.cell?_alloc_lt _ _ _ (World.block_lt_of_cell? _ _ (((HB.out.cell (World.block_lt_of_cell? w _ hw437_0)).trans hw437_0)))).trans (((HB.out.cell (World.block_lt_of_cell? w _ hw437_0)).trans hw437_0)), (World.cell?_alloc_lt _ _ _ (World.block_lt_of_cell? _ _ (((HB.out.cell (World.block_lt_of_cell? w _ hw438_0)).trans hw438_0)))).trans (((HB.out.cell (World.block_lt_of_cell? w _ hw438_0)).trans hw438_0)), (World.cell?_alloc_lt _ _ _ (World.block_lt_of_cell? _ _ (((HB.out.cell (World.block_lt_of_cell? w _ hw439_0)).trans hw439_0)))).trans (((HB.out.cell (World.block_lt_of_cell? w _ hw439_0)).trans hw439_0))⟩ (fun hHeld => ?_)
                   clear hK K
                   refine norm_ (a' := ?_) ?_ ?_
                   rotate_left
                   ·show Act.put _ (some 89) _ = _
                    simp only [pn_, sz_, ss_, i64_w, i32_w]
                    rfl
                   refine one_ (i := 34) (N := some 90) (bl 37 34359738367) rfl rfl (one_of HT_.out (by kernel_rfl)) (by decide) (fun K hK => ?_)
                   refine Kd.R_append_step Kd.bool (w0 := w) w.heap.size (by rfl) (.tmp 57) (.tmp 89) 22 4 (.bool false) 1 rfl Try.underlying22 info4 rfl (by decide) (by omega) u426000 x426000_2 (!(true)) [.bool (!(true))] (fun _ => True) (fun _ => False) rfl rfl ?aP (fun _ hk => hk.elim) ?aF ?aO ?aB ?aS ?aL ?_
                   (case aP => exact rfl)
                   (case aB => exact (by repeat (first | (with_reducible first | exact HB.out | apply below_alloc | apply pw_below_drewN | apply below_drew1 | refine below_set ?_ GE422.out | refine below_set ?_ GE423.out | refine below_set ?_ GE424.out | refine below_set ?_ GE425.out) | exact HB.out)))
                   (case aF => exact (fun _ _ => trivial))
                   (case aO => exact (by (with_reducible repeat (first | apply Kd.R_alloc | apply Kd.R_drewN | apply Kd.R_drew)); exact HO_426000.out))
                   (case aS => exact (below_size (by repeat (first | (with_reducible first | exact HB.out | apply below_alloc | apply pw_below_drewN | apply below_drew1 | refine below_set ?_ GE422.out | refine below_set ?_ GE423.out | refine below_set ?_ GE424.out | refine below_set ?_ GE425.out) | exact HB.out))))
                   (case aL => have := LMc43.out; omega)
                   intro v441 w46 ho hb hg hat
                   rw [← Ny440.out] at ho
                   have n0_ := Aside0.mk (Kd.R_over' (by (with_reducible repeat (first | apply Kd.R_alloc | apply Kd.R_drewN | apply Kd.R_drew)); exact HO_11.out) (Kd.R_typed (by (with_reducible repeat (first | apply Kd.R_alloc | apply Kd.R_drewN | apply Kd.R_drew)); exact HO_426000.out)) (by decide) hg)
                   have n1_ := Aside0.mk (Kd.S_over' (by (with_reducible repeat (first | apply Kd.S_alloc | apply Kd.S_drewN | apply Kd.S_drew)); exact HO_426001.out) (Kd.R_typed (by (with_reducible repeat (first | apply Kd.R_alloc | apply Kd.R_drewN | apply Kd.R_drew)); exact HO_426000.out)) (by decide) hg)
                   have n2_ := Aside0.mk (blk_grown (g := gb422) (o := .cells #[.slice (some ad436) l0_0.length c0_0, .slice A0_1 l0_1.length c0_1] 28 (0, 0)) (by (with_reducible repeat (first | refine blk_drewN ?_ _ | refine blk_drew ?_ | refine blk_alloc ?_ _)); exact BK422.out) hg (Kd.R_ne HO_426000.out BK422.out (by decide)))
                   have n3_ := Aside0.mk (blk_grown (g := gb423) (o := .cells #[.slice (some ad437) l1_0.length c1_0, .slice A1_1 l1_1.length c1_1] 28 (0, 0)) (by (with_reducible repeat (first | refine blk_drewN ?_ _ | refine blk_drew ?_ | refine blk_alloc ?_ _)); exact BK423.out) hg (Kd.R_ne HO_426000.out BK423.out (by decide)))
                   have n4_ := Aside0.mk (blk_grown (g := gb424) (o := .cells #[.slice none 0 0, .slice none 0 0] 28 (0, 0)) (by (with_reducible repeat (first | refine blk_drewN ?_ _ | refine blk_drew ?_ | refine blk_alloc ?_ _)); exact BK424.out) hg (Kd.R_ne HO_426000.out BK424.out (by decide)))
                   have n5_ := Aside0.mk (blk_grown (g := gb425) (o := .cells #[u426000, u426001] 28 (0, 0)) (by (with_reducible repeat (first | refine blk_drewN ?_ _ | refine blk_drew ?_ | refine blk_alloc ?_ _)); exact BK425.out) hg (Kd.R_ne HO_426000.out BK425.out (by decide)))
                   have n6_ := Aside0.mk (hb)
                   have n7_ := Aside0.mk (ho)
                   clear HO_11 HO_426001 BK422 BK423 BK424 BK425 HB HO_426000
                   have HO_11 := n0_; have HO_426001 := n1_; have BK422 := n2_; have BK423 := n3_; have BK424 := n4_; have BK425 := n5_; have HB := n6_; have HO442 := n7_
                   clear n0_ n1_ n2_ n3_ n4_ n5_ n6_ n7_ ho hb hg hat
                   obtain ⟨Ao47, co47, eo47⟩ := Kd.R_slice HO442.out
                   (first | subst eo47 | (injection eo47 with f1_ f2_ f3_; have f4_ := f1_.symm; have f5_ := f3_.symm; clear f1_ f2_ f3_; subst f4_; subst f5_))
                   refine hK.out _ _ ⟨(blk_cell BK425.out 0).trans rfl, (blk_cell BK425.out 1).trans rfl, (blk_cell BK422.out 0).trans rfl, (blk_cell BK422.out 1).trans rfl, (blk_cell BK423.out 0).trans rfl, (blk_cell BK423.out 1).trans rfl, ((HB.out.cell (World.block_lt_of_cell? w _ hw436_0)).trans hw436_0), ((HB.out.cell (World.block_lt_of_cell? w _ hw437_0)).trans hw437_0), ((HB.out.cell (World.block_lt_of_cell? w _ hw438_0)).trans hw438_0), ((HB.out.cell (World.block_lt_of_cell? w _ hw439_0)).trans hw439_0)⟩ (fun hHeld => ?_)
                   clear hK K
                   refine norm_ (a' := ?_) ?_ ?_
                   rotate_left
                   ·show Act.put _ (some 90) _ = _
                    simp only [pn_, sz_, ss_, i64_w, i32_w]
                    rfl
                   refine pure_ (i := 35) (N := some 91) (v := ?_) (a' := ?_) (bl 37 68719476735) rfl rfl (any_of HT_.out (by kernel_rfl)) (fun _ _ _ h => h) (Or.inl ⟨by rfl, ?_⟩) ?_ ?_
                   rotate_left; (focus (intro w'; go_simp; with_reducible rfl)); rotate_left; (focus (simp only [pn_, sz_, ss_, i64_w, i32_w]; rfl))
                   refine last_ (i := 36) (N := none) (bl 37 137438953471) rfl rfl (one_of HT_.out (by kernel_rfl)) (by decide) (fun K hK => ?_)
                   have hs48 : w46.cell? ⟨gb425, 0, none⟩ = some (u426000) := (blk_cell BK425.out 0).trans rfl
                   have hfs48 := blk_frozen BK425.out 0
                   have hns48_0 := NB422_425.out
                   have hns48_1 := NB423_425.out
                   have hns48_2 := NB424_425.out
                   have hms48_0 := NB425_422.out
                   have hms48_1 := NB425_423.out
                   have hms48_2 := NB425_424.out
                   refine skip_ (w1 := ?_) (by rfl) rfl ?_ ?_
                   rotate_left
                   ·go_simp
                    rfl
                   refine hK.out _ _ ?_
                   clear hK K
                   refine done_ (done_of HT_.out (by kernel_rfl)) ?_
                   have n0_ : Aside0 (Kd.R (Kd.int .i64) 3 (w46.setCell ⟨gb425, 0, none⟩ (.slice Ao47 y440.length co47)) w.heap.size (fun _ => True) u11 x11_3) := ⟨by (with_reducible repeat (first | apply Kd.R_alloc | apply Kd.R_drewN | apply Kd.R_drew)); exact Kd.R_mono (Kd.R_far (p := ⟨gb425, 0, none⟩) (Kd.R_types HO_11.out BK425.out (by decide)) (fun _ hk => hk.2) (.slice Ao47 y440.length co47)) (fun _ hk => trivial)⟩
                   have n1_ : Aside0 (Kd.S (Kd.slice 3 (Kd.int .i64)) 54 (w46.setCell ⟨gb425, 0, none⟩ (.slice Ao47 y440.length co47)) w.heap.size (fun k_ => some k_ ≠ (u11 : Value).ownBlock) u426001 x426001_2) := ⟨by (with_reducible repeat (first | apply Kd.S_alloc | apply Kd.S_drewN | apply Kd.S_drew)); exact Kd.S_mono (Kd.S_far (p := ⟨gb425, 0, none⟩) (Kd.S_types HO_426001.out BK425.out (by decide)) (fun _ hk => hk.2) (.slice Ao47 y440.length co47)) (fun _ hk => hk.1)⟩
                   have n2_ : Aside0 (Kd.R Kd.bool 4 (w46.setCell ⟨gb425, 0, none⟩ (.slice Ao47 y440.length co47)) w.heap.size (fun _ => True) (.slice Ao47 y440.length co47) y440) := ⟨by (with_reducible repeat (first | apply Kd.R_alloc | apply Kd.R_drewN | apply Kd.R_drew)); exact Kd.R_mono (Kd.R_far (p := ⟨gb425, 0, none⟩) (Kd.R_types HO442.out BK425.out (by decide)) (fun _ hk => hk.2) (.slice Ao47 y440.length co47)) (fun _ hk => trivial)⟩
                   have n3_ : Aside0 ((w46.setCell ⟨gb425, 0, none⟩ (.slice Ao47 y440.length co47)).heap[gb422]? = some (.cells #[.slice (some ad436) l0_0.length c0_0, .slice A0_1 l0_1.length c0_1] 28 (0, 0))) := ⟨by (with_reducible repeat (first | refine blk_drewN ?_ _ | refine blk_drew ?_ | refine blk_alloc ?_ _)); refine blk_far ?_ NB422_425.out _; (with_reducible repeat (first | refine blk_drewN ?_ _ | refine blk_drew ?_ | refine blk_alloc ?_ _)); exact BK422.out⟩
                   have n4_ : Aside0 ((w46.setCell ⟨gb425, 0, none⟩ (.slice Ao47 y440.length co47)).heap[gb423]? = some (.cells #[.slice (some ad437) l1_0.length c1_0, .slice A1_1 l1_1.length c1_1] 28 (0, 0))) := ⟨by (with_reducible repeat (first | refine blk_drewN ?_ _ | refine blk_drew ?_ | refine blk_alloc ?_ _)); refine blk_far ?_ NB423_425.out _; (with_reducible repeat (first | refine blk_drewN ?_ _ | refine blk_drew ?_ | refine blk_alloc ?_ _)); exact BK423.out⟩
                   have n5_ : Aside0 ((w46.setCell ⟨gb425, 0, none⟩ (.slice Ao47 y440.length co47)).heap[gb424]? = some (.cells #[.slice none 0 0, .slice none 0 0] 28 (0, 0))) := ⟨by (with_reducible repeat (first | refine blk_drewN ?_ _ | refine blk_drew ?_ | refine blk_alloc ?_ _)); refine blk_far ?_ NB424_425.out _; (with_reducible repeat (first | refine blk_drewN ?_ _ | refine blk_drew ?_ | refine blk_alloc ?_ _)); exact BK424.out⟩
                   have n6_ : Aside0 ((w46.setCell ⟨gb425, 0, none⟩ (.slice Ao47 y440.length co47)).heap[gb425]? = some (.cells #[.slice Ao47 y440.length co47, u426001] 28 (0, 0))) := ⟨by (with_reducible repeat (first | refine blk_drewN ?_ _ | refine blk_drew ?_ | refine blk_alloc ?_ _)); refine blk_put (cs := #[u426000, u426001]) ?_ 0 _ rfl; (with_reducible repeat (first | refine blk_drewN ?_ _ | refine blk_drew ?_ | refine blk_alloc ?_ _)); exact BK425.out⟩
                   have n7_ : Aside0 (Below w.heap.size w (w46.setCell ⟨gb425, 0, none⟩ (.slice Ao47 y440.length co47))) := ⟨by repeat (first | (with_reducible first | exact HB.out | apply below_alloc | apply pw_below_drewN | apply below_drew1 | refine below_set ?_ GE422.out | refine below_set ?_ GE423.out | refine below_set ?_ GE424.out | refine below_set ?_ GE425.out) | exact HB.out)⟩
                   (try clear HO_11)
                   (try clear HO_426001)
                   (try clear HO442)
                   (try clear BK422)
                   (try clear BK423)
                   (try clear BK424)
                   (try clear BK425)
                   (try clear HB)
                   generalize (w46.setCell ⟨gb425, 0, none⟩ (.slice Ao47 y440.length co47)) = w49 at n0_ n1_ n2_ n3_ n4_ n5_ n6_ n7_ ⊢
                   have HO_11 := n0_; have HO_426001 := n1_; have HO442 := n2_; have BK422 := n3_; have BK423 := n4_; have BK424 := n5_; have BK425 := n6_; have HB := n7_
                   clear n0_ n1_ n2_ n3_ n4_ n5_ n6_ n7_
                   have hnb50 := NB425_422.out
                   have hnc50 := NB422_425.out
                   have hnb51 := NB425_423.out
                   have hnc51 := NB423_425.out
                   have hnb52 := NB425_424.out
                   have hnc52 := NB424_425.out
                   have hcz53_0 : w49.cell? ⟨gb425, 0, none⟩ = some (.slice Ao47 y440.length co47) := (blk_cell BK425.out 0).trans rfl
                   have hcz53_1 : w49.cell? ⟨gb425, 1, none⟩ = some (u426001) := (blk_cell BK425.out 1).trans rfl
                   have hfz53_0 := blk_frozen BK425.out 0
                   have hfz53_1 := blk_frozen BK425.out 1
                   obtain ⟨Ao55, co55, eo55⟩ := Kd.R_slice HO_11.out
                   subst eo55
                   try go_wp2_with (first | ((with_reducible refine gate_builtin (b := .append) (xs := #[.tmp 93, .tmp 95]) rfl ?_); at_builtin; refine Kd.S_append (Kd.slice 3 (Kd.int .i64)) (w0 := w) w.heap.size rfl (.tmp 93) (.tmp 95) 23 54 (.slice none 0 0) 24 rfl Try.underlying23 info54 rfl (by decide) (by omega) u426001 x426001_2 x11_3 [.slice Ao55 x11_3.length co55] (fun _ => True) (fun k_ => some k_ = (.slice Ao55 x11_3.length co55 : Value).ownBlock) rfl rfl ?aP (fun k_ hk_ => ((Kd.R_mono (ok' := fun k_ => ((fun _ => True)) k_ ∧ some k_ ≠ (u426001 : Value).ownBlock) (Kd.R_apart' (HO_11.out) (Kd.S_typed HO_426001.out) (by decide)) (fun k_ hk => ⟨trivial, hk.2⟩))).1 k_ hk_.symm) ?aF ?aO ?aB ?aS ?aL ?_; (case aP => exact Kd.M_row (Kd.R_mono (Kd.R_tight rfl (Kd.R_mono (ok' := fun k_ => ((fun _ => True)) k_ ∧ some k_ ≠ (u426001 : Value).ownBlock) (Kd.R_apart' (HO_11.out) (Kd.S_typed HO_426001.out) (by decide)) (fun k_ hk => ⟨trivial, hk.2⟩))) (fun _ h_ => h_))); (case aB => exact (by repeat (first | (with_reducible first | exact HB.out | apply below_alloc | apply pw_below_drewN | apply below_drew1 | refine below_set ?_ GE422.out | refine below_set ?_ GE423.out | refine below_set ?_ GE424.out | refine below_set ?_ GE425.out) | exact HB.out))); (case aF => exact (fun _ _ => trivial)); (case aO => exact (by (with_reducible repeat (first | apply Kd.S_alloc | apply Kd.S_drewN | apply Kd.S_drew)); exact Kd.S_mono HO_426001.out (fun k_ hk => ⟨trivial, fun e_ => hk e_⟩))); (case aS => exact (below_size (by repeat (first | (with_reducible first | exact HB.out | apply below_alloc | apply pw_below_drewN | apply below_drew1 | refine below_set ?_ GE422.out | refine below_set ?_ GE423.out | refine below_set ?_ GE424.out | refine below_set ?_ GE425.out) | exact HB.out)))); (case aL => have := LMc44.out; omega); intro v444 w54 ho hb hg hat; rw [← Ny443.out] at ho; have n0_ := Aside0.mk (blk_grown (g := gb422) (o := .cells #[.slice (some ad436) l0_0.length c0_0, .slice A0_1 l0_1.length c0_1] 28 (0, 0)) (by (with_reducible repeat (first | refine blk_drewN ?_ _ | refine blk_drew ?_ | refine blk_alloc ?_ _)); exact BK422.out) hg (Kd.S_ne HO_426001.out BK422.out (by decide))); have n1_ := Aside0.mk (blk_grown (g := gb423) (o := .cells #[.slice (some ad437) l1_0.length c1_0, .slice A1_1 l1_1.length c1_1] 28 (0, 0)) (by (with_reducible repeat (first | refine blk_drewN ?_ _ | refine blk_drew ?_ | refine blk_alloc ?_ _)); exact BK423.out) hg (Kd.S_ne HO_426001.out BK423.out (by decide))); have n2_ := Aside0.mk (blk_grown (g := gb424) (o := .cells #[.slice none 0 0, .slice none 0 0] 28 (0, 0)) (by (with_reducible repeat (first | refine blk_drewN ?_ _ | refine blk_drew ?_ | refine blk_alloc ?_ _)); exact BK424.out) hg (Kd.S_ne HO_426001.out BK424.out (by decide))); have n3_ := Aside0.mk (blk_grown (g := gb425) (o := .cells #[.slice Ao47 y440.length co47, u426001] 28 (0, 0)) (by (with_reducible repeat (first | refine blk_drewN ?_ _ | refine blk_drew ?_ | refine blk_alloc ?_ _)); exact BK425.out) hg (Kd.S_ne HO_426001.out BK425.out (by decide))); have n4_ := Aside0.mk (Kd.R_over' (by (with_reducible repeat (first | apply Kd.R_alloc | apply Kd.R_drewN | apply Kd.R_drew)); exact HO442.out) (Kd.S_typed (by (with_reducible repeat (first | apply Kd.S_alloc | apply Kd.S_drewN | apply Kd.S_drew)); exact HO_426001.out)) (by decide) hg); have n5_ := Aside0.mk (hb); have n6_ := Aside0.mk (ho); clear BK422; clear BK423; clear BK424; clear BK425; clear HO442; clear HB; clear HO_426001; clear HO_11; have BK422 := n0_; have BK423 := n1_; have BK424 := n2_; have BK425 := n3_; have HO442 := n4_; have HB := n5_; have HO445 := n6_; clear n0_ n1_ n2_ n3_ n4_ n5_ n6_; clear ho hb hg hat; obtain ⟨Ao56, co56, eo56⟩ := Kd.S_slice HO445.out; subst eo56; have hcz57_0 : w54.cell? ⟨gb425, 0, none⟩ = some (.slice Ao47 y440.length co47) := (blk_cell BK425.out 0).trans rfl; have hcz57_1 : w54.cell? ⟨gb425, 1, none⟩ = some (u426001) := (blk_cell BK425.out 1).trans rfl; have hfz57_0 := blk_frozen BK425.out 0; have hfz57_1 := blk_frozen BK425.out 1))
                   go_roundg k3
                   case measure => have := HK1.out; have := HK2.out; have := HK3.out; omega
                   case rel => exact ⟨(wrap64 (x10_2 + 1)), (y440), (y443), (.slice Ao47 y440.length co47), (.slice Ao56 y443.length co56), (by first | rfl | (simp; done) | (simp [*]; done)), H', ⟨by have := HK1.out; have := HK2.out; have := HK3.out; omega⟩, ⟨by (with_reducible repeat (first | apply Kd.R_alloc | apply Kd.R_drewN | apply Kd.R_drew)); exact Kd.R_mono (Kd.R_far (p := ⟨gb425, 1, none⟩) (Kd.R_types HO442.out BK425.out (by decide)) (fun _ hk => hk.2) (.slice Ao56 y443.length co56)) (fun _ hk => trivial)⟩, ⟨by (with_reducible repeat (first | apply Kd.S_alloc | apply Kd.S_drewN | apply Kd.S_drew)); exact Kd.S_mono (Kd.S_far (p := ⟨gb425, 1, none⟩) (Kd.S_types HO445.out BK425.out (by decide)) (fun _ hk => hk.2) (.slice Ao56 y443.length co56)) (fun _ hk => trivial)⟩, ⟨by (with_reducible repeat (first | refine blk_drewN ?_ _ | refine blk_drew ?_ | refine blk_alloc ?_ _)); refine blk_far ?_ NB422_425.out _; (with_reducible repeat (first | refine blk_drewN ?_ _ | refine blk_drew ?_ | refine blk_alloc ?_ _)); exact BK422.out⟩, ⟨by (with_reducible repeat (first | refine blk_drewN ?_ _ | refine blk_drew ?_ | refine blk_alloc ?_ _)); refine blk_far ?_ NB423_425.out _; (with_reducible repeat (first | refine blk_drewN ?_ _ | refine blk_drew ?_ | refine blk_alloc ?_ _)); exact BK423.out⟩, ⟨by (with_reducible repeat (first | refine blk_drewN ?_ _ | refine blk_drew ?_ | refine blk_alloc ?_ _)); refine blk_far ?_ NB424_425.out _; (with_reducible repeat (first | refine blk_drewN ?_ _ | refine blk_drew ?_ | refine blk_alloc ?_ _)); exact BK424.out⟩, ⟨by (with_reducible repeat (first | refine blk_drewN ?_ _ | refine blk_drew ?_ | refine blk_alloc ?_ _)); refine blk_put (cs := #[.slice Ao47 y440.length co47, u426001]) ?_ 1 _ rfl; (with_reducible repeat (first | refine blk_drewN ?_ _ | refine blk_drew ?_ | refine blk_alloc ?_ _)); exact BK425.out⟩, ⟨by repeat (first | (with_reducible first | exact HB.out | apply below_alloc | apply pw_below_drewN | apply below_drew1 | refine below_set ?_ GE422.out | refine below_set ?_ GE423.out | refine below_set ?_ GE424.out | refine below_set ?_ GE425.out) | exact HB.out)⟩⟩
                  ·rw [if_neg c44] at H
                   exact absurd H (by simp)
                 ·rw [if_neg c43] at H
                  exact absurd H (by simp)
                ·replace c42 := Bool.eq_false_iff.mpr c42
                 subst c42
                 have H1 : (if x426000_2.length < 140737488355328 then (if x426001_2.length < 5864062014805 then (spec_l7Pairs.l1 k3 false (l1_0.length : Int) x9_1 (wrap64 (x10_2 + 1)) l0_0 l0_1 l1_0 l1_1 (x426000_2 ++ [false]) (x426001_2 ++ [x11_3])) else (none)) else (none)) = some (r1, r2) := by rw [if_neg (show ¬ (false = true) by decide)] at H; exact H
                 clear H
                 have H := H1
                 clear H1
                 by_cases c58 : x426000_2.length < 140737488355328
                 ·rw [if_pos c58] at H
                  have LMc58 := Aside0.mk c58
                  clear c58
                  obtain ⟨y446, hy446⟩ : ∃ y_ : List Bool, y_ = (x426000_2 ++ [false]) := ⟨_, rfl⟩
                  replace H : (if x426001_2.length < 5864062014805 then (spec_l7Pairs.l1 k3 false (l1_0.length : Int) x9_1 (wrap64 (x10_2 + 1)) l0_0 l0_1 l1_0 l1_1 y446 (x426001_2 ++ [x11_3])) else (none)) = some (r1, r2) := by first | (rw [hy446]; with_reducible exact H) | (have H2_ := (Option.bind_some _ _).symm.trans H; rw [hy446]; with_reducible exact H2_) | (have H2_ := (Option.bind_some _ _).symm.trans H; with_reducible exact H2_) | with_reducible exact H | (rw [hy446]; exact H) | exact H
                  have Ny446 := Aside0.mk hy446
                  clear hy446
                  by_cases c59 : x426001_2.length < 5864062014805
                  ·rw [if_pos c59] at H
                   have LMc59 := Aside0.mk c59
                   clear c59
                   obtain ⟨y449, hy449⟩ : ∃ y_ : List (List Int), y_ = (x426001_2 ++ [x11_3]) := ⟨_, rfl⟩
                   replace H : (spec_l7Pairs.l1 k3 false (l1_0.length : Int) x9_1 (wrap64 (x10_2 + 1)) l0_0 l0_1 l1_0 l1_1 y446 y449) = some (r1, r2) := by first | (rw [hy449]; with_reducible exact H) | (have H2_ := (Option.bind_some _ _).symm.trans H; rw [hy449]; with_reducible exact H2_) | (have H2_ := (Option.bind_some _ _).symm.trans H; with_reducible exact H2_) | with_reducible exact H | (rw [hy449]; exact H) | exact H
                   have Ny449 := Aside0.mk hy449
                   clear hy449
                   have H' := Aside0.mk H
                   clear H
                   try go_wp2
                   have n0_ := Aside0.mk (Kd.R_drew HO_11.out)
                   have n1_ := Aside0.mk (Kd.R_drew HO_426000.out)
                   have n2_ := Aside0.mk (Kd.S_drew HO_426001.out)
                   have n3_ := Aside0.mk (blk_drew BK422.out)
                   have n4_ := Aside0.mk (blk_drew BK423.out)
                   have n5_ := Aside0.mk (blk_drew BK424.out)
                   have n6_ := Aside0.mk (blk_drew BK425.out)
                   have n7_ := Aside0.mk (below_drew1 HB.out)
                   clear HO_11 HO_426000 HO_426001 BK422 BK423 BK424 BK425 HB
                   have HO_11 := n0_; have HO_426000 := n1_; have HO_426001 := n2_; have BK422 := n3_; have BK423 := n4_; have BK424 := n5_; have BK425 := n6_; have HB := n7_
                   clear n0_ n1_ n2_ n3_ n4_ n5_ n6_ n7_
                   have p436 : 0 ≤ (x9_1 : Int) := of_decide_eq_true (by first | (with_reducible assumption) | assumption)
                   have q436 : x9_1 < (l0_0.length : Int) := of_decide_eq_true (by first | (with_reducible assumption) | assumption)
                   obtain ⟨ad436, e436, hx436_0⟩ := Kd.at_bool HR0_0.out x9_1 p436 q436
                   have hw436_0 := hx436_0
                   (try rw [← Nbq36.out] at hx436_0)
                   (try rw [← Nbq36.out] at hw436_0)
                   (try rw [← Nbq40.out] at hx436_0)
                   (try rw [← Nbq40.out] at hw436_0)
                   cases e436
                   replace hx436_0 := (HB.out.cell (World.block_lt_of_cell? w _ hx436_0)).trans hx436_0
                   replace p436 := eq_true p436
                   replace q436 := eq_true q436
                   have p437 : 0 ≤ (x10_2 : Int) := of_decide_eq_true (by first | (with_reducible assumption) | assumption)
                   have q437 : x10_2 < (l1_0.length : Int) := of_decide_eq_true (by first | (with_reducible assumption) | assumption)
                   obtain ⟨ad437, e437, hx437_0⟩ := Kd.at_bool HR1_0.out x10_2 p437 q437
                   have hw437_0 := hx437_0
                   (try rw [← Nbq36.out] at hx437_0)
                   (try rw [← Nbq36.out] at hw437_0)
                   (try rw [← Nbq40.out] at hx437_0)
                   (try rw [← Nbq40.out] at hw437_0)
                   cases e437
                   replace hx437_0 := (HB.out.cell (World.block_lt_of_cell? w _ hx437_0)).trans hx437_0
                   replace p437 := eq_true p437
                   replace q437 := eq_true q437
                   refine start_ (n := 37) (S := fun w' => w'.cell? ⟨gb425, 0, none⟩ = some (u426000) ∧ w'.cell? ⟨gb425, 1, none⟩ = some (u426001) ∧ w'.cell? ⟨gb422, 0, none⟩ = some (.slice (some ad436) l0_0.length c0_0) ∧ w'.cell? ⟨gb422, 1, none⟩ = some (.slice A0_1 l0_1.length c0_1) ∧ w'.cell? ⟨gb423, 0, none⟩ = some (.slice (some ad437) l1_0.length c1_0) ∧ w'.cell? ⟨gb423, 1, none⟩ = some (.slice A1_1 l1_1.length c1_1) ∧ w'.cell? (ad436.add (x9_1).toNat) = some (.bool true) ∧ w'.cell? (ad437.add (x10_2).toNat) = some (.bool true)) (ds := [36]) (bl 37 0) (by kernel_rfl) rfl rfl ⟨(blk_cell BK425.out 0).trans rfl, (blk_cell BK425.out 1).trans rfl, (blk_cell BK422.out 0).trans rfl, (blk_cell BK422.out 1).trans rfl, (blk_cell BK423.out 0).trans rfl, (blk_cell BK423.out 1).trans rfl, ((HB.out.cell (World.block_lt_of_cell? w _ hw436_0)).trans hw436_0), ((HB.out.cell (World.block_lt_of_cell? w _ hw437_0)).trans hw437_0)⟩ (fun hHeld => ?_); refine with_tabW spec_l7Pairs.tab14 spec_l7Pairs.bits14 (fun HT_ HW_ => ?_)
                   generalize wr.drew = w60 at HO_11 HO_426000 HO_426001 BK422 BK423 BK424 BK425 HB hx436_0 hx437_0 hHeld ⊢
                   refine pure_ (i := 0) (N := some 56) (v := ?_) (a' := ?_) (bl 37 1) rfl rfl (any_of HT_.out (by kernel_rfl)) (fun _ _ _ h => h) (Or.inl ⟨by rfl, ?_⟩) ?_ ?_
                   rotate_left; (focus (intro w'; go_simp; with_reducible rfl)); rotate_left; (focus (simp only [pn_, sz_, ss_, i64_w, i32_w]; rfl))
                   refine pure_ (i := 2) (N := some 58) (v := ?_) (a' := ?_) (bl 37 5) rfl rfl (any_of HT_.out (by kernel_rfl)) (fun _ _ _ h => h) (Or.inl ⟨by rfl, ?_⟩) ?_ ?_
                   rotate_left; (focus (intro w'; go_simp; with_reducible rfl)); rotate_left; (focus (simp only [pn_, sz_, ss_, i64_w, i32_w]; rfl))
                   refine pure_ (i := 4) (N := some 60) (v := ?_) (a' := ?_) (bl 37 21) rfl rfl (any_of HT_.out (by kernel_rfl)) (fun _ _ _ h => h) (Or.inl ⟨by rfl, ?_⟩) ?_ ?_
                   rotate_left; (focus (intro w'; go_simp; with_reducible rfl)); rotate_left; (focus (simp only [pn_, sz_, ss_, i64_w, i32_w]; rfl))
                   refine take_ (i := 1) (N := some 57) (v := ?_) (a' := ?_) (bl 37 23) rfl rfl (take_ofW HT_.out HW_.out (by kernel_rfl)) (fun _ _ _ h => h) (Or.inl ⟨by rfl, ?_⟩) hHeld ?_ ?_
                   rotate_left; (focus (rintro w' ⟨s0, s1, s2, s3, s4, s5, s6, s7⟩; go_simp; with_reducible rfl)); rotate_left; (focus (simp only [pn_, sz_, ss_, i64_w, i32_w]; rfl))
                   refine take_ (i := 3) (N := some 59) (v := ?_) (a' := ?_) (bl 37 31) rfl rfl (take_ofW HT_.out HW_.out (by kernel_rfl)) (fun _ _ _ h => h) (Or.inl ⟨by rfl, ?_⟩) hHeld ?_ ?_
                   rotate_left; (focus (rintro w' ⟨s0, s1, s2, s3, s4, s5, s6, s7⟩; go_simp; with_reducible rfl)); rotate_left; (focus (simp only [pn_, sz_, ss_, i64_w, i32_w]; rfl))
                   refine pure_ (i := 5) (N := some 61) (v := ?_) (a' := ?_) (bl 37 63) rfl rfl (any_of HT_.out (by kernel_rfl)) (fun _ _ _ h => h) (Or.inl ⟨by rfl, ?_⟩) ?_ ?_
                   rotate_left; (focus (intro w'; go_simp; with_reducible rfl)); rotate_left; (focus (simp only [pn_, sz_, ss_, i64_w, i32_w]; rfl))
                   refine take_ (i := 6) (N := some 62) (v := ?_) (a' := ?_) (bl 37 127) rfl rfl (take_ofW HT_.out HW_.out (by kernel_rfl)) (fun _ _ _ h => h) (Or.inl ⟨by rfl, ?_⟩) hHeld ?_ ?_
                   rotate_left; (focus (rintro w' ⟨s0, s1, s2, s3, s4, s5, s6, s7⟩; go_simp; with_reducible rfl)); rotate_left; (focus (simp only [pn_, sz_, ss_, i64_w, i32_w]; rfl))
                   refine pure_ (i := 7) (N := some 63) (v := ?_) (a' := ?_) (bl 37 255) rfl rfl (any_of HT_.out (by kernel_rfl)) (fun _ _ _ h => h) (Or.inl ⟨by rfl, ?_⟩) ?_ ?_
                   rotate_left; (focus (intro w'; go_simp; with_reducible rfl)); rotate_left; (focus (simp only [pn_, sz_, ss_, i64_w, i32_w]; rfl))
                   refine pure_ (i := 8) (N := some 64) (v := ?_) (a' := ?_) (bl 37 511) rfl rfl (any_of HT_.out (by kernel_rfl)) (fun _ _ _ h => h) (Or.inl ⟨by rfl, ?_⟩) ?_ ?_
                   rotate_left; (focus (intro w'; go_simp; with_reducible rfl)); rotate_left; (focus (simp only [pn_, sz_, ss_, i64_w, i32_w]; rfl))
                   refine pure_ (i := 10) (N := some 66) (v := ?_) (a' := ?_) (bl 37 1535) rfl rfl (any_of HT_.out (by kernel_rfl)) (fun _ _ _ h => h) (Or.inl ⟨by rfl, ?_⟩) ?_ ?_
                   rotate_left; (focus (intro w'; go_simp; with_reducible rfl)); rotate_left; (focus (simp only [pn_, sz_, ss_, i64_w, i32_w]; rfl))
                   refine take_ (i := 9) (N := some 65) (v := ?_) (a' := ?_) (bl 37 2047) rfl rfl (take_ofW HT_.out HW_.out (by kernel_rfl)) (fun _ _ _ h => h) (Or.inl ⟨by rfl, ?_⟩) hHeld ?_ ?_
                   rotate_left; (focus (rintro w' ⟨s0, s1, s2, s3, s4, s5, s6, s7⟩; go_simp; with_reducible rfl)); rotate_left; (focus (simp only [pn_, sz_, ss_, i64_w, i32_w]; rfl))
                   refine pure_ (i := 11) (N := some 67) (v := ?_) (a' := ?_) (bl 37 4095) rfl rfl (any_of HT_.out (by kernel_rfl)) (fun _ _ _ h => h) (Or.inl ⟨by rfl, ?_⟩) ?_ ?_
                   rotate_left; (focus (intro w'; go_simp; with_reducible rfl)); rotate_left; (focus (simp only [pn_, sz_, ss_, i64_w, i32_w]; rfl))
                   refine take_ (i := 12) (N := some 68) (v := ?_) (a' := ?_) (bl 37 8191) rfl rfl (take_ofW HT_.out HW_.out (by kernel_rfl)) (fun _ _ _ h => h) (Or.inl ⟨by rfl, ?_⟩) hHeld ?_ ?_
                   rotate_left; (focus (rintro w' ⟨s0, s1, s2, s3, s4, s5, s6, s7⟩; go_simp; with_reducible rfl)); rotate_left; (focus (simp only [pn_, sz_, ss_, i64_w, i32_w]; rfl))
                   refine pure_ (i := 13) (N := some 69) (v := ?_) (a' := ?_) (bl 37 16383) rfl rfl (any_of HT_.out (by kernel_rfl)) (fun _ _ _ h => h) (Or.inl ⟨by rfl, ?_⟩) ?_ ?_
                   rotate_left; (focus (intro w'; go_simp; with_reducible rfl)); rotate_left; (focus (simp only [pn_, sz_, ss_, i64_w, i32_w]; rfl))
                   refine pure_ (i := 14) (N := some 70) (v := ?_) (a' := ?_) (bl 37 32767) rfl rfl (any_of HT_.out (by kernel_rfl)) (fun _ _ _ h => h) (Or.inl ⟨by rfl, ?_⟩) ?_ ?_
                   rotate_left; (focus (intro w'; go_simp; with_reducible rfl)); rotate_left; (focus (simp only [pn_, sz_, ss_, i64_w, i32_w]; rfl))
                   refine pure_ (i := 15) (N := some 71) (v := ?_) (a' := ?_) (bl 37 65535) rfl rfl (any_of HT_.out (by kernel_rfl)) (fun _ _ _ h => h) (Or.inl ⟨by rfl, ?_⟩) ?_ ?_
                   rotate_left; (focus (intro w'; go_simp; with_reducible rfl)); rotate_left; (focus (simp only [pn_, sz_, ss_, i64_w, i32_w]; rfl))
                   refine pure_ (i := 16) (N := some 72) (v := ?_) (a' := ?_) (bl 37 131071) rfl rfl (any_of HT_.out (by kernel_rfl)) (fun _ _ _ h => h) (Or.inl ⟨by rfl, ?_⟩) ?_ ?_
                   rotate_left; (focus (intro w'; go_simp; with_reducible rfl)); rotate_left; (focus (simp only [pn_, sz_, ss_, i64_w, i32_w]; rfl))
                   refine pure_ (i := 17) (N := some 73) (v := ?_) (a' := ?_) (bl 37 262143) rfl rfl (any_of HT_.out (by kernel_rfl)) (fun _ _ _ h => h) (Or.inl ⟨by rfl, ?_⟩) ?_ ?_
                   rotate_left; (focus (intro w'; go_simp; with_reducible rfl)); rotate_left; (focus (simp only [pn_, sz_, ss_, i64_w, i32_w]; rfl))
                   refine pure_ (i := 18) (N := some 74) (v := undef) (a' := ?_) (bl 37 524287) rfl rfl (any_of HT_.out (by kernel_rfl)) (fun _ _ _ h => h) (Or.inr ⟨by rfl, rfl⟩) ?_ ?_
                   rotate_left
                   ·simp only [pn_, sz_, ss_, i64_w, i32_w]
                    rfl
                   refine pure_ (i := 19) (N := some 75) (v := undef) (a' := ?_) (bl 37 1048575) rfl rfl (any_of HT_.out (by kernel_rfl)) (fun _ _ _ h => h) (Or.inr ⟨by rfl, rfl⟩) ?_ ?_
                   rotate_left
                   ·simp only [pn_, sz_, ss_, i64_w, i32_w]
                    rfl
                   refine pure_ (i := 20) (N := some 76) (v := undef) (a' := ?_) (bl 37 2097151) rfl rfl (any_of HT_.out (by kernel_rfl)) (fun _ _ _ h => h) (Or.inr ⟨by rfl, rfl⟩) ?_ ?_
                   rotate_left
                   ·simp only [pn_, sz_, ss_, i64_w, i32_w]
                    rfl
                   refine pure_ (i := 21) (N := some 77) (v := undef) (a' := ?_) (bl 37 4194303) rfl rfl (any_of HT_.out (by kernel_rfl)) (fun _ _ _ h => h) (Or.inr ⟨by rfl, rfl⟩) ?_ ?_
                   rotate_left
                   ·simp only [pn_, sz_, ss_, i64_w, i32_w]
                    rfl
                   refine pure_ (i := 22) (N := some 78) (v := undef) (a' := ?_) (bl 37 8388607) rfl rfl (any_of HT_.out (by kernel_rfl)) (fun _ _ _ h => h) (Or.inr ⟨by rfl, rfl⟩) ?_ ?_
                   rotate_left
                   ·simp only [pn_, sz_, ss_, i64_w, i32_w]
                    rfl
                   refine pure_ (i := 23) (N := some 79) (v := ?_) (a' := ?_) (bl 37 16777215) rfl rfl (any_of HT_.out (by kernel_rfl)) (fun _ _ _ h => h) (Or.inl ⟨by rfl, ?_⟩) ?_ ?_
                   rotate_left; (focus (intro w'; go_simp; with_reducible rfl)); rotate_left; (focus (simp only [pn_, sz_, ss_, i64_w, i32_w]; rfl))
                   refine pure_ (i := 24) (N := some 80) (v := ?_) (a' := ?_) (bl 37 33554431) rfl rfl (any_of HT_.out (by kernel_rfl)) (fun _ _ _ h => h) (Or.inl ⟨by rfl, ?_⟩) ?_ ?_
                   rotate_left; (focus (intro w'; go_simp; with_reducible rfl)); rotate_left; (focus (simp only [pn_, sz_, ss_, i64_w, i32_w]; rfl))
                   refine pure_ (i := 25) (N := some 81) (v := undef) (a' := ?_) (bl 37 67108863) rfl rfl (any_of HT_.out (by kernel_rfl)) (fun _ _ _ h => h) (Or.inr ⟨by rfl, rfl⟩) ?_ ?_
                   rotate_left
                   ·simp only [pn_, sz_, ss_, i64_w, i32_w]
                    rfl
                   refine pure_ (i := 26) (N := some 82) (v := undef) (a' := ?_) (bl 37 134217727) rfl rfl (any_of HT_.out (by kernel_rfl)) (fun _ _ _ h => h) (Or.inr ⟨by rfl, rfl⟩) ?_ ?_
                   rotate_left
                   ·simp only [pn_, sz_, ss_, i64_w, i32_w]
                    rfl
                   refine pure_ (i := 27) (N := some 83) (v := undef) (a' := ?_) (bl 37 268435455) rfl rfl (any_of HT_.out (by kernel_rfl)) (fun _ _ _ h => h) (Or.inr ⟨by rfl, rfl⟩) ?_ ?_
                   rotate_left
                   ·simp only [pn_, sz_, ss_, i64_w, i32_w]
                    rfl
                   refine pure_ (i := 28) (N := some 84) (v := undef) (a' := ?_) (bl 37 536870911) rfl rfl (any_of HT_.out (by kernel_rfl)) (fun _ _ _ h => h) (Or.inr ⟨by rfl, rfl⟩) ?_ ?_
                   rotate_left
                   ·simp only [pn_, sz_, ss_, i64_w, i32_w]
                    rfl
                   refine pure_ (i := 29) (N := some 85) (v := undef) (a' := ?_) (bl 37 1073741823) rfl rfl (any_of HT_.out (by kernel_rfl)) (fun _ _ _ h => h) (Or.inr ⟨by rfl, rfl⟩) ?_ ?_
                   rotate_left
                   ·simp only [pn_, sz_, ss_, i64_w, i32_w]
                    rfl
                   refine pure_ (i := 30) (N := some 86) (v := undef) (a' := ?_) (bl 37 2147483647) rfl rfl (any_of HT_.out (by kernel_rfl)) (fun _ _ _ h => h) (Or.inr ⟨by rfl, rfl⟩) ?_ ?_
                   rotate_left
                   ·simp only [pn_, sz_, ss_, i64_w, i32_w]
                    rfl
                   refine pure_ (i := 31) (N := some 87) (v := ?_) (a' := ?_) (bl 37 4294967295) rfl rfl (any_of HT_.out (by kernel_rfl)) (fun _ _ _ h => h) (Or.inl ⟨by rfl, ?_⟩) ?_ ?_
                   rotate_left; (focus (intro w'; go_simp; with_reducible rfl)); rotate_left; (focus (simp only [pn_, sz_, ss_, i64_w, i32_w]; rfl))
                   refine pure_ (i := 32) (N := some 88) (v := ?_) (a' := ?_) (bl 37 8589934591) rfl rfl (any_of HT_.out (by kernel_rfl)) (fun _ _ _ h => h) (Or.inl ⟨by rfl, ?_⟩) ?_ ?_
                   rotate_left; (focus (intro w'; go_simp; with_reducible rfl)); rotate_left; (focus (simp only [pn_, sz_, ss_, i64_w, i32_w]; rfl))
                   refine one_ (i := 33) (N := some 89) (bl 37 17179869183) rfl rfl (one_of HT_.out (by kernel_rfl)) (by decide) (fun K hK => ?_)
                   refine value_ (w1 := ?_) (v := ?_) (by rfl) rfl ?_ ?_
                   rotate_left 2
                   ·go_simp
                    constructor
                    ·rfl
                    ·rfl
                   refine hK.out _ _ ⟨(blk_cell (blk_alloc BK425.out _) 0).trans rfl, (blk_cell (blk_alloc BK425.out _) 1).trans rfl, (blk_cell (blk_alloc BK422.out _) 0).trans rfl, (blk_cell (blk_alloc BK422.out _) 1).trans rfl, (blk_cell (blk_alloc BK423.out _) 0).trans rfl, (blk_cell (blk_alloc BK423.out _) 1).trans rfl, (World.cell?_alloc_lt _ _ _ (World.block_lt_of_cell? _ _ (((HB.out.cell (World.block_lt_of_cell? w _ hw436_0)).trans hw436_0)))).trans (((HB.out.cell (World.block_lt_of_cell? w _ hw436_0)).trans hw436_0)), (World.cell?_alloc_lt _ _ _ (World.block_lt_of_cell? _ _ (((HB.out.cell (World.block_lt_of_cell? w _ hw437_0)).trans hw437_0)))).trans (((HB.out.cell (World.block_lt_of_cell? w _ hw437_0)).trans hw437_0))⟩ (fun hHeld => ?_)
                   clear hK K
                   refine norm_ (a' := ?_) ?_ ?_
                   rotate_left
                   ·show Act.put _ (some 89) _ = _
                    simp only [pn_, sz_, ss_, i64_w, i32_w]
                    rfl
                   refine one_ (i := 34) (N := some 90) (bl 37 34359738367) rfl rfl (one_of HT_.out (by kernel_rfl)) (by decide) (fun K hK => ?_)
                   refine Kd.R_append_step Kd.bool (w0 := w) w.heap.size (by rfl) (.tmp 57) (.tmp 89) 22 4 (.bool false) 1 rfl Try.underlying22 info4 rfl (by decide) (by omega) u426000 x426000_2 false [.bool false] (fun _ => True) (fun _ => False) rfl rfl ?aP (fun _ hk => hk.elim) ?aF ?aO ?aB ?aS ?aL ?_
                   (case aP => exact rfl)
                   (case aB => exact (by repeat (first | (with_reducible first | exact HB.out | apply below_alloc | apply pw_below_drewN | apply below_drew1 | refine below_set ?_ GE422.out | refine below_set ?_ GE423.out | refine below_set ?_ GE424.out | refine below_set ?_ GE425.out) | exact HB.out)))
                   (case aF => exact (fun _ _ => trivial))
                   (case aO => exact (by (with_reducible repeat (first | apply Kd.R_alloc | apply Kd.R_drewN | apply Kd.R_drew)); exact HO_426000.out))
                   (case aS => exact (below_size (by repeat (first | (with_reducible first | exact HB.out | apply below_alloc | apply pw_below_drewN | apply below_drew1 | refine below_set ?_ GE422.out | refine below_set ?_ GE423.out | refine below_set ?_ GE424.out | refine below_set ?_ GE425.out) | exact HB.out))))
                   (case aL => have := LMc58.out; omega)
                   intro v447 w61 ho hb hg hat
                   rw [← Ny446.out] at ho
                   have n0_ := Aside0.mk (Kd.R_over' (by (with_reducible repeat (first | apply Kd.R_alloc | apply Kd.R_drewN | apply Kd.R_drew)); exact HO_11.out) (Kd.R_typed (by (with_reducible repeat (first | apply Kd.R_alloc | apply Kd.R_drewN | apply Kd.R_drew)); exact HO_426000.out)) (by decide) hg)
                   have n1_ := Aside0.mk (Kd.S_over' (by (with_reducible repeat (first | apply Kd.S_alloc | apply Kd.S_drewN | apply Kd.S_drew)); exact HO_426001.out) (Kd.R_typed (by (with_reducible repeat (first | apply Kd.R_alloc | apply Kd.R_drewN | apply Kd.R_drew)); exact HO_426000.out)) (by decide) hg)
                   have n2_ := Aside0.mk (blk_grown (g := gb422) (o := .cells #[.slice (some ad436) l0_0.length c0_0, .slice A0_1 l0_1.length c0_1] 28 (0, 0)) (by (with_reducible repeat (first | refine blk_drewN ?_ _ | refine blk_drew ?_ | refine blk_alloc ?_ _)); exact BK422.out) hg (Kd.R_ne HO_426000.out BK422.out (by decide)))
                   have n3_ := Aside0.mk (blk_grown (g := gb423) (o := .cells #[.slice (some ad437) l1_0.length c1_0, .slice A1_1 l1_1.length c1_1] 28 (0, 0)) (by (with_reducible repeat (first | refine blk_drewN ?_ _ | refine blk_drew ?_ | refine blk_alloc ?_ _)); exact BK423.out) hg (Kd.R_ne HO_426000.out BK423.out (by decide)))
                   have n4_ := Aside0.mk (blk_grown (g := gb424) (o := .cells #[.slice none 0 0, .slice none 0 0] 28 (0, 0)) (by (with_reducible repeat (first | refine blk_drewN ?_ _ | refine blk_drew ?_ | refine blk_alloc ?_ _)); exact BK424.out) hg (Kd.R_ne HO_426000.out BK424.out (by decide)))
                   have n5_ := Aside0.mk (blk_grown (g := gb425) (o := .cells #[u426000, u426001] 28 (0, 0)) (by (with_reducible repeat (first | refine blk_drewN ?_ _ | refine blk_drew ?_ | refine blk_alloc ?_ _)); exact BK425.out) hg (Kd.R_ne HO_426000.out BK425.out (by decide)))
                   have n6_ := Aside0.mk (hb)
                   have n7_ := Aside0.mk (ho)
                   clear HO_11 HO_426001 BK422 BK423 BK424 BK425 HB HO_426000
                   have HO_11 := n0_; have HO_426001 := n1_; have BK422 := n2_; have BK423 := n3_; have BK424 := n4_; have BK425 := n5_; have HB := n6_; have HO448 := n7_
                   clear n0_ n1_ n2_ n3_ n4_ n5_ n6_ n7_ ho hb hg hat
                   obtain ⟨Ao62, co62, eo62⟩ := Kd.R_slice HO448.out
                   (first | subst eo62 | (injection eo62 with f1_ f2_ f3_; have f4_ := f1_.symm; have f5_ := f3_.symm; clear f1_ f2_ f3_; subst f4_; subst f5_))
                   refine hK.out _ _ ⟨(blk_cell BK425.out 0).trans rfl, (blk_cell BK425.out 1).trans rfl, (blk_cell BK422.out 0).trans rfl, (blk_cell BK422.out 1).trans rfl, (blk_cell BK423.out 0).trans rfl, (blk_cell BK423.out 1).trans rfl, ((HB.out.cell (World.block_lt_of_cell? w _ hw436_0)).trans hw436_0), ((HB.out.cell (World.block_lt_of_cell? w _ hw437_0)).trans hw437_0)⟩ (fun hHeld => ?_)
                   clear hK K
                   refine norm_ (a' := ?_) ?_ ?_
                   rotate_left
                   ·show Act.put _ (some 90) _ = _
                    simp only [pn_, sz_, ss_, i64_w, i32_w]
                    rfl
                   refine pure_ (i := 35) (N := some 91) (v := ?_) (a' := ?_) (bl 37 68719476735) rfl rfl (any_of HT_.out (by kernel_rfl)) (fun _ _ _ h => h) (Or.inl ⟨by rfl, ?_⟩) ?_ ?_
                   rotate_left; (focus (intro w'; go_simp; with_reducible rfl)); rotate_left; (focus (simp only [pn_, sz_, ss_, i64_w, i32_w]; rfl))
                   refine last_ (i := 36) (N := none) (bl 37 137438953471) rfl rfl (one_of HT_.out (by kernel_rfl)) (by decide) (fun K hK => ?_)
                   have hs63 : w61.cell? ⟨gb425, 0, none⟩ = some (u426000) := (blk_cell BK425.out 0).trans rfl
                   have hfs63 := blk_frozen BK425.out 0
                   have hns63_0 := NB422_425.out
                   have hns63_1 := NB423_425.out
                   have hns63_2 := NB424_425.out
                   have hms63_0 := NB425_422.out
                   have hms63_1 := NB425_423.out
                   have hms63_2 := NB425_424.out
                   refine skip_ (w1 := ?_) (by rfl) rfl ?_ ?_
                   rotate_left
                   ·go_simp
                    rfl
                   refine hK.out _ _ ?_
                   clear hK K
                   refine done_ (done_of HT_.out (by kernel_rfl)) ?_
                   have n0_ : Aside0 (Kd.R (Kd.int .i64) 3 (w61.setCell ⟨gb425, 0, none⟩ (.slice Ao62 y446.length co62)) w.heap.size (fun _ => True) u11 x11_3) := ⟨by (with_reducible repeat (first | apply Kd.R_alloc | apply Kd.R_drewN | apply Kd.R_drew)); exact Kd.R_mono (Kd.R_far (p := ⟨gb425, 0, none⟩) (Kd.R_types HO_11.out BK425.out (by decide)) (fun _ hk => hk.2) (.slice Ao62 y446.length co62)) (fun _ hk => trivial)⟩
                   have n1_ : Aside0 (Kd.S (Kd.slice 3 (Kd.int .i64)) 54 (w61.setCell ⟨gb425, 0, none⟩ (.slice Ao62 y446.length co62)) w.heap.size (fun k_ => some k_ ≠ (u11 : Value).ownBlock) u426001 x426001_2) := ⟨by (with_reducible repeat (first | apply Kd.S_alloc | apply Kd.S_drewN | apply Kd.S_drew)); exact Kd.S_mono (Kd.S_far (p := ⟨gb425, 0, none⟩) (Kd.S_types HO_426001.out BK425.out (by decide)) (fun _ hk => hk.2) (.slice Ao62 y446.length co62)) (fun _ hk => hk.1)⟩
                   have n2_ : Aside0 (Kd.R Kd.bool 4 (w61.setCell ⟨gb425, 0, none⟩ (.slice Ao62 y446.length co62)) w.heap.size (fun _ => True) (.slice Ao62 y446.length co62) y446) := ⟨by (with_reducible repeat (first | apply Kd.R_alloc | apply Kd.R_drewN | apply Kd.R_drew)); exact Kd.R_mono (Kd.R_far (p := ⟨gb425, 0, none⟩) (Kd.R_types HO448.out BK425.out (by decide)) (fun _ hk => hk.2) (.slice Ao62 y446.length co62)) (fun _ hk => trivial)⟩
                   have n3_ : Aside0 ((w61.setCell ⟨gb425, 0, none⟩ (.slice Ao62 y446.length co62)).heap[gb422]? = some (.cells #[.slice (some ad436) l0_0.length c0_0, .slice A0_1 l0_1.length c0_1] 28 (0, 0))) := ⟨by (with_reducible repeat (first | refine blk_drewN ?_ _ | refine blk_drew ?_ | refine blk_alloc ?_ _)); refine blk_far ?_ NB422_425.out _; (with_reducible repeat (first | refine blk_drewN ?_ _ | refine blk_drew ?_ | refine blk_alloc ?_ _)); exact BK422.out⟩
                   have n4_ : Aside0 ((w61.setCell ⟨gb425, 0, none⟩ (.slice Ao62 y446.length co62)).heap[gb423]? = some (.cells #[.slice (some ad437) l1_0.length c1_0, .slice A1_1 l1_1.length c1_1] 28 (0, 0))) := ⟨by (with_reducible repeat (first | refine blk_drewN ?_ _ | refine blk_drew ?_ | refine blk_alloc ?_ _)); refine blk_far ?_ NB423_425.out _; (with_reducible repeat (first | refine blk_drewN ?_ _ | refine blk_drew ?_ | refine blk_alloc ?_ _)); exact BK423.out⟩
                   have n5_ : Aside0 ((w61.setCell ⟨gb425, 0, none⟩ (.slice Ao62 y446.length co62)).heap[gb424]? = some (.cells #[.slice none 0 0, .slice none 0 0] 28 (0, 0))) := ⟨by (with_reducible repeat (first | refine blk_drewN ?_ _ | refine blk_drew ?_ | refine blk_alloc ?_ _)); refine blk_far ?_ NB424_425.out _; (with_reducible repeat (first | refine blk_drewN ?_ _ | refine blk_drew ?_ | refine blk_alloc ?_ _)); exact BK424.out⟩
                   have n6_ : Aside0 ((w61.setCell ⟨gb425, 0, none⟩ (.slice Ao62 y446.length co62)).heap[gb425]? = some (.cells #[.slice Ao62 y446.length co62, u426001] 28 (0, 0))) := ⟨by (with_reducible repeat (first | refine blk_drewN ?_ _ | refine blk_drew ?_ | refine blk_alloc ?_ _)); refine blk_put (cs := #[u426000, u426001]) ?_ 0 _ rfl; (with_reducible repeat (first | refine blk_drewN ?_ _ | refine blk_drew ?_ | refine blk_alloc ?_ _)); exact BK425.out⟩
                   have n7_ : Aside0 (Below w.heap.size w (w61.setCell ⟨gb425, 0, none⟩ (.slice Ao62 y446.length co62))) := ⟨by repeat (first | (with_reducible first | exact HB.out | apply below_alloc | apply pw_below_drewN | apply below_drew1 | refine below_set ?_ GE422.out | refine below_set ?_ GE423.out | refine below_set ?_ GE424.out | refine below_set ?_ GE425.out) | exact HB.out)⟩
                   (try clear HO_11)
                   (try clear HO_426001)
                   (try clear HO448)
                   (try clear BK422)
                   (try clear BK423)
                   (try clear BK424)
                   (try clear BK425)
                   (try clear HB)
                   generalize (w61.setCell ⟨gb425, 0, none⟩ (.slice Ao62 y446.length co62)) = w64 at n0_ n1_ n2_ n3_ n4_ n5_ n6_ n7_ ⊢
                   have HO_11 := n0_; have HO_426001 := n1_; have HO448 := n2_; have BK422 := n3_; have BK423 := n4_; have BK424 := n5_; have BK425 := n6_; have HB := n7_
                   clear n0_ n1_ n2_ n3_ n4_ n5_ n6_ n7_
                   have hnb65 := NB425_422.out
                   have hnc65 := NB422_425.out
                   have hnb66 := NB425_423.out
                   have hnc66 := NB423_425.out
                   have hnb67 := NB425_424.out
                   have hnc67 := NB424_425.out
                   have hcz68_0 : w64.cell? ⟨gb425, 0, none⟩ = some (.slice Ao62 y446.length co62) := (blk_cell BK425.out 0).trans rfl
                   have hcz68_1 : w64.cell? ⟨gb425, 1, none⟩ = some (u426001) := (blk_cell BK425.out 1).trans rfl
                   have hfz68_0 := blk_frozen BK425.out 0
                   have hfz68_1 := blk_frozen BK425.out 1
                   obtain ⟨Ao70, co70, eo70⟩ := Kd.R_slice HO_11.out
                   subst eo70
                   try go_wp2_with (first | ((with_reducible refine gate_builtin (b := .append) (xs := #[.tmp 93, .tmp 95]) rfl ?_); at_builtin; refine Kd.S_append (Kd.slice 3 (Kd.int .i64)) (w0 := w) w.heap.size rfl (.tmp 93) (.tmp 95) 23 54 (.slice none 0 0) 24 rfl Try.underlying23 info54 rfl (by decide) (by omega) u426001 x426001_2 x11_3 [.slice Ao70 x11_3.length co70] (fun _ => True) (fun k_ => some k_ = (.slice Ao70 x11_3.length co70 : Value).ownBlock) rfl rfl ?aP (fun k_ hk_ => ((Kd.R_mono (ok' := fun k_ => ((fun _ => True)) k_ ∧ some k_ ≠ (u426001 : Value).ownBlock) (Kd.R_apart' (HO_11.out) (Kd.S_typed HO_426001.out) (by decide)) (fun k_ hk => ⟨trivial, hk.2⟩))).1 k_ hk_.symm) ?aF ?aO ?aB ?aS ?aL ?_; (case aP => exact Kd.M_row (Kd.R_mono (Kd.R_tight rfl (Kd.R_mono (ok' := fun k_ => ((fun _ => True)) k_ ∧ some k_ ≠ (u426001 : Value).ownBlock) (Kd.R_apart' (HO_11.out) (Kd.S_typed HO_426001.out) (by decide)) (fun k_ hk => ⟨trivial, hk.2⟩))) (fun _ h_ => h_))); (case aB => exact (by repeat (first | (with_reducible first | exact HB.out | apply below_alloc | apply pw_below_drewN | apply below_drew1 | refine below_set ?_ GE422.out | refine below_set ?_ GE423.out | refine below_set ?_ GE424.out | refine below_set ?_ GE425.out) | exact HB.out))); (case aF => exact (fun _ _ => trivial)); (case aO => exact (by (with_reducible repeat (first | apply Kd.S_alloc | apply Kd.S_drewN | apply Kd.S_drew)); exact Kd.S_mono HO_426001.out (fun k_ hk => ⟨trivial, fun e_ => hk e_⟩))); (case aS => exact (below_size (by repeat (first | (with_reducible first | exact HB.out | apply below_alloc | apply pw_below_drewN | apply below_drew1 | refine below_set ?_ GE422.out | refine below_set ?_ GE423.out | refine below_set ?_ GE424.out | refine below_set ?_ GE425.out) | exact HB.out)))); (case aL => have := LMc59.out; omega); intro v450 w69 ho hb hg hat; rw [← Ny449.out] at ho; have n0_ := Aside0.mk (blk_grown (g := gb422) (o := .cells #[.slice (some ad436) l0_0.length c0_0, .slice A0_1 l0_1.length c0_1] 28 (0, 0)) (by (with_reducible repeat (first | refine blk_drewN ?_ _ | refine blk_drew ?_ | refine blk_alloc ?_ _)); exact BK422.out) hg (Kd.S_ne HO_426001.out BK422.out (by decide))); have n1_ := Aside0.mk (blk_grown (g := gb423) (o := .cells #[.slice (some ad437) l1_0.length c1_0, .slice A1_1 l1_1.length c1_1] 28 (0, 0)) (by (with_reducible repeat (first | refine blk_drewN ?_ _ | refine blk_drew ?_ | refine blk_alloc ?_ _)); exact BK423.out) hg (Kd.S_ne HO_426001.out BK423.out (by decide))); have n2_ := Aside0.mk (blk_grown (g := gb424) (o := .cells #[.slice none 0 0, .slice none 0 0] 28 (0, 0)) (by (with_reducible repeat (first | refine blk_drewN ?_ _ | refine blk_drew ?_ | refine blk_alloc ?_ _)); exact BK424.out) hg (Kd.S_ne HO_426001.out BK424.out (by decide))); have n3_ := Aside0.mk (blk_grown (g := gb425) (o := .cells #[.slice Ao62 y446.length co62, u426001] 28 (0, 0)) (by (with_reducible repeat (first | refine blk_drewN ?_ _ | refine blk_drew ?_ | refine blk_alloc ?_ _)); exact BK425.out) hg (Kd.S_ne HO_426001.out BK425.out (by decide))); have n4_ := Aside0.mk (Kd.R_over' (by (with_reducible repeat (first | apply Kd.R_alloc | apply Kd.R_drewN | apply Kd.R_drew)); exact HO448.out) (Kd.S_typed (by (with_reducible repeat (first | apply Kd.S_alloc | apply Kd.S_drewN | apply Kd.S_drew)); exact HO_426001.out)) (by decide) hg); have n5_ := Aside0.mk (hb); have n6_ := Aside0.mk (ho); clear BK422; clear BK423; clear BK424; clear BK425; clear HO448; clear HB; clear HO_426001; clear HO_11; have BK422 := n0_; have BK423 := n1_; have BK424 := n2_; have BK425 := n3_; have HO448 := n4_; have HB := n5_; have HO451 := n6_; clear n0_ n1_ n2_ n3_ n4_ n5_ n6_; clear ho hb hg hat; obtain ⟨Ao71, co71, eo71⟩ := Kd.S_slice HO451.out; subst eo71; have hcz72_0 : w69.cell? ⟨gb425, 0, none⟩ = some (.slice Ao62 y446.length co62) := (blk_cell BK425.out 0).trans rfl; have hcz72_1 : w69.cell? ⟨gb425, 1, none⟩ = some (u426001) := (blk_cell BK425.out 1).trans rfl; have hfz72_0 := blk_frozen BK425.out 0; have hfz72_1 := blk_frozen BK425.out 1))
                   go_roundg k3
                   case measure => have := HK1.out; have := HK2.out; have := HK3.out; omega
                   case rel => exact ⟨(wrap64 (x10_2 + 1)), (y446), (y449), (.slice Ao62 y446.length co62), (.slice Ao71 y449.length co71), (by first | rfl | (simp; done) | (simp [*]; done)), H', ⟨by have := HK1.out; have := HK2.out; have := HK3.out; omega⟩, ⟨by (with_reducible repeat (first | apply Kd.R_alloc | apply Kd.R_drewN | apply Kd.R_drew)); exact Kd.R_mono (Kd.R_far (p := ⟨gb425, 1, none⟩) (Kd.R_types HO448.out BK425.out (by decide)) (fun _ hk => hk.2) (.slice Ao71 y449.length co71)) (fun _ hk => trivial)⟩, ⟨by (with_reducible repeat (first | apply Kd.S_alloc | apply Kd.S_drewN | apply Kd.S_drew)); exact Kd.S_mono (Kd.S_far (p := ⟨gb425, 1, none⟩) (Kd.S_types HO451.out BK425.out (by decide)) (fun _ hk => hk.2) (.slice Ao71 y449.length co71)) (fun _ hk => trivial)⟩, ⟨by (with_reducible repeat (first | refine blk_drewN ?_ _ | refine blk_drew ?_ | refine blk_alloc ?_ _)); refine blk_far ?_ NB422_425.out _; (with_reducible repeat (first | refine blk_drewN ?_ _ | refine blk_drew ?_ | refine blk_alloc ?_ _)); exact BK422.out⟩, ⟨by (with_reducible repeat (first | refine blk_drewN ?_ _ | refine blk_drew ?_ | refine blk_alloc ?_ _)); refine blk_far ?_ NB423_425.out _; (with_reducible repeat (first | refine blk_drewN ?_ _ | refine blk_drew ?_ | refine blk_alloc ?_ _)); exact BK423.out⟩, ⟨by (with_reducible repeat (first | refine blk_drewN ?_ _ | refine blk_drew ?_ | refine blk_alloc ?_ _)); refine blk_far ?_ NB424_425.out _; (with_reducible repeat (first | refine blk_drewN ?_ _ | refine blk_drew ?_ | refine blk_alloc ?_ _)); exact BK424.out⟩, ⟨by (with_reducible repeat (first | refine blk_drewN ?_ _ | refine blk_drew ?_ | refine blk_alloc ?_ _)); refine blk_put (cs := #[.slice Ao62 y446.length co62, u426001]) ?_ 1 _ rfl; (with_reducible repeat (first | refine blk_drewN ?_ _ | refine blk_drew ?_ | refine blk_alloc ?_ _)); exact BK425.out⟩, ⟨by repeat (first | (with_reducible first | exact HB.out | apply below_alloc | apply pw_below_drewN | apply below_drew1 | refine below_set ?_ GE422.out | refine below_set ?_ GE423.out | refine below_set ?_ GE424.out | refine below_set ?_ GE425.out) | exact HB.out)⟩⟩
                  ·rw [if_neg c59] at H
                   exact absurd H (by simp)
                 ·rw [if_neg c58] at H
                  exact absurd H (by simp)
               ·replace c41 := Bool.eq_false_iff.mpr c41
                subst c41
                have H1 : (if x426000_2.length < 140737488355328 then (if x426001_2.length < 5864062014805 then (spec_l7Pairs.l1 k3 a2 (l1_0.length : Int) x9_1 (wrap64 (x10_2 + 1)) l0_0 l0_1 l1_0 l1_1 (x426000_2 ++ [true]) (x426001_2 ++ [x11_3])) else (none)) else (none)) = some (r1, r2) := by rw [if_neg (show ¬ (false = true) by decide)] at H; exact H
                clear H
                have H := H1
                clear H1
                by_cases c73 : x426000_2.length < 140737488355328
                ·rw [if_pos c73] at H
                 have LMc73 := Aside0.mk c73
                 clear c73
                 obtain ⟨y452, hy452⟩ : ∃ y_ : List Bool, y_ = (x426000_2 ++ [true]) := ⟨_, rfl⟩
                 replace H : (if x426001_2.length < 5864062014805 then (spec_l7Pairs.l1 k3 a2 (l1_0.length : Int) x9_1 (wrap64 (x10_2 + 1)) l0_0 l0_1 l1_0 l1_1 y452 (x426001_2 ++ [x11_3])) else (none)) = some (r1, r2) := by first | (rw [hy452]; with_reducible exact H) | (have H2_ := (Option.bind_some _ _).symm.trans H; rw [hy452]; with_reducible exact H2_) | (have H2_ := (Option.bind_some _ _).symm.trans H; with_reducible exact H2_) | with_reducible exact H | (rw [hy452]; exact H) | exact H
                 have Ny452 := Aside0.mk hy452
                 clear hy452
                 by_cases c74 : x426001_2.length < 5864062014805
                 ·rw [if_pos c74] at H
                  have LMc74 := Aside0.mk c74
                  clear c74
                  obtain ⟨y455, hy455⟩ : ∃ y_ : List (List Int), y_ = (x426001_2 ++ [x11_3]) := ⟨_, rfl⟩
                  replace H : (spec_l7Pairs.l1 k3 a2 (l1_0.length : Int) x9_1 (wrap64 (x10_2 + 1)) l0_0 l0_1 l1_0 l1_1 y452 y455) = some (r1, r2) := by first | (rw [hy455]; with_reducible exact H) | (have H2_ := (Option.bind_some _ _).symm.trans H; rw [hy455]; with_reducible exact H2_) | (have H2_ := (Option.bind_some _ _).symm.trans H; with_reducible exact H2_) | with_reducible exact H | (rw [hy455]; exact H) | exact H
                  have Ny455 := Aside0.mk hy455
                  clear hy455
                  have H' := Aside0.mk H
                  clear H
                  try go_wp2
                  have n0_ := Aside0.mk (Kd.R_drew HO_11.out)
                  have n1_ := Aside0.mk (Kd.R_drew HO_426000.out)
                  have n2_ := Aside0.mk (Kd.S_drew HO_426001.out)
                  have n3_ := Aside0.mk (blk_drew BK422.out)
                  have n4_ := Aside0.mk (blk_drew BK423.out)
                  have n5_ := Aside0.mk (blk_drew BK424.out)
                  have n6_ := Aside0.mk (blk_drew BK425.out)
                  have n7_ := Aside0.mk (below_drew1 HB.out)
                  clear HO_11 HO_426000 HO_426001 BK422 BK423 BK424 BK425 HB
                  have HO_11 := n0_; have HO_426000 := n1_; have HO_426001 := n2_; have BK422 := n3_; have BK423 := n4_; have BK424 := n5_; have BK425 := n6_; have HB := n7_
                  clear n0_ n1_ n2_ n3_ n4_ n5_ n6_ n7_
                  have p436 : 0 ≤ (x9_1 : Int) := of_decide_eq_true (by first | (with_reducible assumption) | assumption)
                  have q436 : x9_1 < (l0_0.length : Int) := of_decide_eq_true (by first | (with_reducible assumption) | assumption)
                  obtain ⟨ad436, e436, hx436_0⟩ := Kd.at_bool HR0_0.out x9_1 p436 q436
                  have hw436_0 := hx436_0
                  (try rw [← Nbq36.out] at hx436_0)
                  (try rw [← Nbq36.out] at hw436_0)
                  (try rw [← Nbq40.out] at hx436_0)
                  (try rw [← Nbq40.out] at hw436_0)
                  cases e436
                  replace hx436_0 := (HB.out.cell (World.block_lt_of_cell? w _ hx436_0)).trans hx436_0
                  replace p436 := eq_true p436
                  replace q436 := eq_true q436
                  have p437 : 0 ≤ (x10_2 : Int) := of_decide_eq_true (by first | (with_reducible assumption) | assumption)
                  have q437 : x10_2 < (l1_0.length : Int) := of_decide_eq_true (by first | (with_reducible assumption) | assumption)
                  obtain ⟨ad437, e437, hx437_0⟩ := Kd.at_bool HR1_0.out x10_2 p437 q437
                  have hw437_0 := hx437_0
                  (try rw [← Nbq36.out] at hx437_0)
                  (try rw [← Nbq36.out] at hw437_0)
                  (try rw [← Nbq40.out] at hx437_0)
                  (try rw [← Nbq40.out] at hw437_0)
                  cases e437
                  replace hx437_0 := (HB.out.cell (World.block_lt_of_cell? w _ hx437_0)).trans hx437_0
                  replace p437 := eq_true p437
                  replace q437 := eq_true q437
                  refine start_ (n := 37) (S := fun w' => w'.cell? ⟨gb425, 0, none⟩ = some (u426000) ∧ w'.cell? ⟨gb425, 1, none⟩ = some (u426001) ∧ w'.cell? ⟨gb422, 0, none⟩ = some (.slice (some ad436) l0_0.length c0_0) ∧ w'.cell? ⟨gb422, 1, none⟩ = some (.slice A0_1 l0_1.length c0_1) ∧ w'.cell? ⟨gb423, 0, none⟩ = some (.slice (some ad437) l1_0.length c1_0) ∧ w'.cell? ⟨gb423, 1, none⟩ = some (.slice A1_1 l1_1.length c1_1) ∧ w'.cell? (ad436.add (x9_1).toNat) = some (.bool true) ∧ w'.cell? (ad437.add (x10_2).toNat) = some (.bool false)) (ds := [36]) (bl 37 0) (by kernel_rfl) rfl rfl ⟨(blk_cell BK425.out 0).trans rfl, (blk_cell BK425.out 1).trans rfl, (blk_cell BK422.out 0).trans rfl, (blk_cell BK422.out 1).trans rfl, (blk_cell BK423.out 0).trans rfl, (blk_cell BK423.out 1).trans rfl, ((HB.out.cell (World.block_lt_of_cell? w _ hw436_0)).trans hw436_0), ((HB.out.cell (World.block_lt_of_cell? w _ hw437_0)).trans hw437_0)⟩ (fun hHeld => ?_); refine with_tabW spec_l7Pairs.tab14 spec_l7Pairs.bits14 (fun HT_ HW_ => ?_)
                  generalize wr.drew = w75 at HO_11 HO_426000 HO_426001 BK422 BK423 BK424 BK425 HB hx436_0 hx437_0 hHeld ⊢
                  refine pure_ (i := 0) (N := some 56) (v := ?_) (a' := ?_) (bl 37 1) rfl rfl (any_of HT_.out (by kernel_rfl)) (fun _ _ _ h => h) (Or.inl ⟨by rfl, ?_⟩) ?_ ?_
                  rotate_left; (focus (intro w'; go_simp; with_reducible rfl)); rotate_left; (focus (simp only [pn_, sz_, ss_, i64_w, i32_w]; rfl))
                  refine pure_ (i := 2) (N := some 58) (v := ?_) (a' := ?_) (bl 37 5) rfl rfl (any_of HT_.out (by kernel_rfl)) (fun _ _ _ h => h) (Or.inl ⟨by rfl, ?_⟩) ?_ ?_
                  rotate_left; (focus (intro w'; go_simp; with_reducible rfl)); rotate_left; (focus (simp only [pn_, sz_, ss_, i64_w, i32_w]; rfl))
                  refine pure_ (i := 4) (N := some 60) (v := ?_) (a' := ?_) (bl 37 21) rfl rfl (any_of HT_.out (by kernel_rfl)) (fun _ _ _ h => h) (Or.inl ⟨by rfl, ?_⟩) ?_ ?_
                  rotate_left; (focus (intro w'; go_simp; with_reducible rfl)); rotate_left; (focus (simp only [pn_, sz_, ss_, i64_w, i32_w]; rfl))
                  refine take_ (i := 1) (N := some 57) (v := ?_) (a' := ?_) (bl 37 23) rfl rfl (take_ofW HT_.out HW_.out (by kernel_rfl)) (fun _ _ _ h => h) (Or.inl ⟨by rfl, ?_⟩) hHeld ?_ ?_
                  rotate_left; (focus (rintro w' ⟨s0, s1, s2, s3, s4, s5, s6, s7⟩; go_simp; with_reducible rfl)); rotate_left; (focus (simp only [pn_, sz_, ss_, i64_w, i32_w]; rfl))
                  refine take_ (i := 3) (N := some 59) (v := ?_) (a' := ?_) (bl 37 31) rfl rfl (take_ofW HT_.out HW_.out (by kernel_rfl)) (fun _ _ _ h => h) (Or.inl ⟨by rfl, ?_⟩) hHeld ?_ ?_
                  rotate_left; (focus (rintro w' ⟨s0, s1, s2, s3, s4, s5, s6, s7⟩; go_simp; with_reducible rfl)); rotate_left; (focus (simp only [pn_, sz_, ss_, i64_w, i32_w]; rfl))
                  refine pure_ (i := 5) (N := some 61) (v := ?_) (a' := ?_) (bl 37 63) rfl rfl (any_of HT_.out (by kernel_rfl)) (fun _ _ _ h => h) (Or.inl ⟨by rfl, ?_⟩) ?_ ?_
                  rotate_left; (focus (intro w'; go_simp; with_reducible rfl)); rotate_left; (focus (simp only [pn_, sz_, ss_, i64_w, i32_w]; rfl))
                  refine take_ (i := 6) (N := some 62) (v := ?_) (a' := ?_) (bl 37 127) rfl rfl (take_ofW HT_.out HW_.out (by kernel_rfl)) (fun _ _ _ h => h) (Or.inl ⟨by rfl, ?_⟩) hHeld ?_ ?_
                  rotate_left; (focus (rintro w' ⟨s0, s1, s2, s3, s4, s5, s6, s7⟩; go_simp; with_reducible rfl)); rotate_left; (focus (simp only [pn_, sz_, ss_, i64_w, i32_w]; rfl))
                  refine pure_ (i := 7) (N := some 63) (v := ?_) (a' := ?_) (bl 37 255) rfl rfl (any_of HT_.out (by kernel_rfl)) (fun _ _ _ h => h) (Or.inl ⟨by rfl, ?_⟩) ?_ ?_
                  rotate_left; (focus (intro w'; go_simp; with_reducible rfl)); rotate_left; (focus (simp only [pn_, sz_, ss_, i64_w, i32_w]; rfl))
                  refine pure_ (i := 8) (N := some 64) (v := ?_) (a' := ?_) (bl 37 511) rfl rfl (any_of HT_.out (by kernel_rfl)) (fun _ _ _ h => h) (Or.inl ⟨by rfl, ?_⟩) ?_ ?_
                  rotate_left; (focus (intro w'; go_simp; with_reducible rfl)); rotate_left; (focus (simp only [pn_, sz_, ss_, i64_w, i32_w]; rfl))
                  refine pure_ (i := 10) (N := some 66) (v := ?_) (a' := ?_) (bl 37 1535) rfl rfl (any_of HT_.out (by kernel_rfl)) (fun _ _ _ h => h) (Or.inl ⟨by rfl, ?_⟩) ?_ ?_
                  rotate_left; (focus (intro w'; go_simp; with_reducible rfl)); rotate_left; (focus (simp only [pn_, sz_, ss_, i64_w, i32_w]; rfl))
                  refine take_ (i := 9) (N := some 65) (v := ?_) (a' := ?_) (bl 37 2047) rfl rfl (take_ofW HT_.out HW_.out (by kernel_rfl)) (fun _ _ _ h => h) (Or.inl ⟨by rfl, ?_⟩) hHeld ?_ ?_
                  rotate_left; (focus (rintro w' ⟨s0, s1, s2, s3, s4, s5, s6, s7⟩; go_simp; with_reducible rfl)); rotate_left; (focus (simp only [pn_, sz_, ss_, i64_w, i32_w]; rfl))
                  refine pure_ (i := 11) (N := some 67) (v := ?_) (a' := ?_) (bl 37 4095) rfl rfl (any_of HT_.out (by kernel_rfl)) (fun _ _ _ h => h) (Or.inl ⟨by rfl, ?_⟩) ?_ ?_
                  rotate_left; (focus (intro w'; go_simp; with_reducible rfl)); rotate_left; (focus (simp only [pn_, sz_, ss_, i64_w, i32_w]; rfl))
                  refine take_ (i := 12) (N := some 68) (v := ?_) (a' := ?_) (bl 37 8191) rfl rfl (take_ofW HT_.out HW_.out (by kernel_rfl)) (fun _ _ _ h => h) (Or.inl ⟨by rfl, ?_⟩) hHeld ?_ ?_
                  rotate_left; (focus (rintro w' ⟨s0, s1, s2, s3, s4, s5, s6, s7⟩; go_simp; with_reducible rfl)); rotate_left; (focus (simp only [pn_, sz_, ss_, i64_w, i32_w]; rfl))
                  refine pure_ (i := 13) (N := some 69) (v := ?_) (a' := ?_) (bl 37 16383) rfl rfl (any_of HT_.out (by kernel_rfl)) (fun _ _ _ h => h) (Or.inl ⟨by rfl, ?_⟩) ?_ ?_
                  rotate_left; (focus (intro w'; go_simp; with_reducible rfl)); rotate_left; (focus (simp only [pn_, sz_, ss_, i64_w, i32_w]; rfl))
                  refine pure_ (i := 14) (N := some 70) (v := ?_) (a' := ?_) (bl 37 32767) rfl rfl (any_of HT_.out (by kernel_rfl)) (fun _ _ _ h => h) (Or.inl ⟨by rfl, ?_⟩) ?_ ?_
                  rotate_left; (focus (intro w'; go_simp; with_reducible rfl)); rotate_left; (focus (simp only [pn_, sz_, ss_, i64_w, i32_w]; rfl))
                  refine pure_ (i := 15) (N := some 71) (v := ?_) (a' := ?_) (bl 37 65535) rfl rfl (any_of HT_.out (by kernel_rfl)) (fun _ _ _ h => h) (Or.inl ⟨by rfl, ?_⟩) ?_ ?_
                  rotate_left; (focus (intro w'; go_simp; with_reducible rfl)); rotate_left; (focus (simp only [pn_, sz_, ss_, i64_w, i32_w]; rfl))
                  refine pure_ (i := 16) (N := some 72) (v := undef) (a' := ?_) (bl 37 131071) rfl rfl (any_of HT_.out (by kernel_rfl)) (fun _ _ _ h => h) (Or.inr ⟨by rfl, rfl⟩) ?_ ?_
                  rotate_left
                  ·simp only [pn_, sz_, ss_, i64_w, i32_w]
                   rfl
                  refine pure_ (i := 17) (N := some 73) (v := undef) (a' := ?_) (bl 37 262143) rfl rfl (any_of HT_.out (by kernel_rfl)) (fun _ _ _ h => h) (Or.inr ⟨by rfl, rfl⟩) ?_ ?_
                  rotate_left
                  ·simp only [pn_, sz_, ss_, i64_w, i32_w]
                   rfl
                  refine pure_ (i := 18) (N := some 74) (v := undef) (a' := ?_) (bl 37 524287) rfl rfl (any_of HT_.out (by kernel_rfl)) (fun _ _ _ h => h) (Or.inr ⟨by rfl, rfl⟩) ?_ ?_
                  rotate_left
                  ·simp only [pn_, sz_, ss_, i64_w, i32_w]
                   rfl
                  refine pure_ (i := 19) (N := some 75) (v := undef) (a' := ?_) (bl 37 1048575) rfl rfl (any_of HT_.out (by kernel_rfl)) (fun _ _ _ h => h) (Or.inr ⟨by rfl, rfl⟩) ?_ ?_
                  rotate_left
                  ·simp only [pn_, sz_, ss_, i64_w, i32_w]
                   rfl
                  refine pure_ (i := 20) (N := some 76) (v := undef) (a' := ?_) (bl 37 2097151) rfl rfl (any_of HT_.out (by kernel_rfl)) (fun _ _ _ h => h) (Or.inr ⟨by rfl, rfl⟩) ?_ ?_
                  rotate_left
                  ·simp only [pn_, sz_, ss_, i64_w, i32_w]
                   rfl
                  refine pure_ (i := 21) (N := some 77) (v := undef) (a' := ?_) (bl 37 4194303) rfl rfl (any_of HT_.out (by kernel_rfl)) (fun _ _ _ h => h) (Or.inr ⟨by rfl, rfl⟩) ?_ ?_
                  rotate_left
                  ·simp only [pn_, sz_, ss_, i64_w, i32_w]
                   rfl
                  refine pure_ (i := 22) (N := some 78) (v := undef) (a' := ?_) (bl 37 8388607) rfl rfl (any_of HT_.out (by kernel_rfl)) (fun _ _ _ h => h) (Or.inr ⟨by rfl, rfl⟩) ?_ ?_
                  rotate_left
                  ·simp only [pn_, sz_, ss_, i64_w, i32_w]
                   rfl
                  refine pure_ (i := 23) (N := some 79) (v := undef) (a' := ?_) (bl 37 16777215) rfl rfl (any_of HT_.out (by kernel_rfl)) (fun _ _ _ h => h) (Or.inr ⟨by rfl, rfl⟩) ?_ ?_
                  rotate_left
                  ·simp only [pn_, sz_, ss_, i64_w, i32_w]
                   rfl
                  refine pure_ (i := 24) (N := some 80) (v := undef) (a' := ?_) (bl 37 33554431) rfl rfl (any_of HT_.out (by kernel_rfl)) (fun _ _ _ h => h) (Or.inr ⟨by rfl, rfl⟩) ?_ ?_
                  rotate_left
                  ·simp only [pn_, sz_, ss_, i64_w, i32_w]
                   rfl
                  refine pure_ (i := 25) (N := some 81) (v := undef) (a' := ?_) (bl 37 67108863) rfl rfl (any_of HT_.out (by kernel_rfl)) (fun _ _ _ h => h) (Or.inr ⟨by rfl, rfl⟩) ?_ ?_
                  rotate_left
                  ·simp only [pn_, sz_, ss_, i64_w, i32_w]
                   rfl
                  refine pure_ (i := 26) (N := some 82) (v := undef) (a' := ?_) (bl 37 134217727) rfl rfl (any_of HT_.out (by kernel_rfl)) (fun _ _ _ h => h) (Or.inr ⟨by rfl, rfl⟩) ?_ ?_
                  rotate_left
                  ·simp only [pn_, sz_, ss_, i64_w, i32_w]
                   rfl
                  refine pure_ (i := 27) (N := some 83) (v := undef) (a' := ?_) (bl 37 268435455) rfl rfl (any_of HT_.out (by kernel_rfl)) (fun _ _ _ h => h) (Or.inr ⟨by rfl, rfl⟩) ?_ ?_
                  rotate_left
                  ·simp only [pn_, sz_, ss_, i64_w, i32_w]
                   rfl
                  refine pure_ (i := 28) (N := some 84) (v := undef) (a' := ?_) (bl 37 536870911) rfl rfl (any_of HT_.out (by kernel_rfl)) (fun _ _ _ h => h) (Or.inr ⟨by rfl, rfl⟩) ?_ ?_
                  rotate_left
                  ·simp only [pn_, sz_, ss_, i64_w, i32_w]
                   rfl
                  refine pure_ (i := 29) (N := some 85) (v := undef) (a' := ?_) (bl 37 1073741823) rfl rfl (any_of HT_.out (by kernel_rfl)) (fun _ _ _ h => h) (Or.inr ⟨by rfl, rfl⟩) ?_ ?_
                  rotate_left
                  ·simp only [pn_, sz_, ss_, i64_w, i32_w]
                   rfl
                  refine pure_ (i := 30) (N := some 86) (v := undef) (a' := ?_) (bl 37 2147483647) rfl rfl (any_of HT_.out (by kernel_rfl)) (fun _ _ _ h => h) (Or.inr ⟨by rfl, rfl⟩) ?_ ?_
                  rotate_left
                  ·simp only [pn_, sz_, ss_, i64_w, i32_w]
                   rfl
                  refine pure_ (i := 31) (N := some 87) (v := undef) (a' := ?_) (bl 37 4294967295) rfl rfl (any_of HT_.out (by kernel_rfl)) (fun _ _ _ h => h) (Or.inr ⟨by rfl, rfl⟩) ?_ ?_
                  rotate_left
                  ·simp only [pn_, sz_, ss_, i64_w, i32_w]
                   rfl
                  refine pure_ (i := 32) (N := some 88) (v := ?_) (a' := ?_) (bl 37 8589934591) rfl rfl (any_of HT_.out (by kernel_rfl)) (fun _ _ _ h => h) (Or.inl ⟨by rfl, ?_⟩) ?_ ?_
                  rotate_left; (focus (intro w'; go_simp; with_reducible rfl)); rotate_left; (focus (simp only [pn_, sz_, ss_, i64_w, i32_w]; rfl))
                  refine one_ (i := 33) (N := some 89) (bl 37 17179869183) rfl rfl (one_of HT_.out (by kernel_rfl)) (by decide) (fun K hK => ?_)
                  refine value_ (w1 := ?_) (v := ?_) (by rfl) rfl ?_ ?_
                  rotate_left 2
                  ·go_simp
                   constructor
                   ·rfl
                   ·rfl
                  refine hK.out _ _ ⟨(blk_cell (blk_alloc BK425.out _) 0).trans rfl, (blk_cell (blk_alloc BK425.out _) 1).trans rfl, (blk_cell (blk_alloc BK422.out _) 0).trans rfl, (blk_cell (blk_alloc BK422.out _) 1).trans rfl, (blk_cell (blk_alloc BK423.out _) 0).trans rfl, (blk_cell (blk_alloc BK423.out _) 1).trans rfl, (World.cell?_alloc_lt _ _ _ (World.block_lt_of_cell? _ _ (((HB.out.cell (World.block_lt_of_cell? w _ hw436_0)).trans hw436_0)))).trans (((HB.out.cell (World.block_lt_of_cell? w _ hw436_0)).trans hw436_0)), (World.cell?_alloc_lt _ _ _ (World.block_lt_of_cell? _ _ (((HB.out.cell (World.block_lt_of_cell? w _ hw437_0)).trans hw437_0)))).trans (((HB.out.cell (World.block_lt_of_cell? w _ hw437_0)).trans hw437_0))⟩ (fun hHeld => ?_)
                  clear hK K
                  refine norm_ (a' := ?_) ?_ ?_
                  rotate_left
                  ·show Act.put _ (some 89) _ = _
                   simp only [pn_, sz_, ss_, i64_w, i32_w]
                   rfl
                  refine one_ (i := 34) (N := some 90) (bl 37 34359738367) rfl rfl (one_of HT_.out (by kernel_rfl)) (by decide) (fun K hK => ?_)
                  refine Kd.R_append_step Kd.bool (w0 := w) w.heap.size (by rfl) (.tmp 57) (.tmp 89) 22 4 (.bool false) 1 rfl Try.underlying22 info4 rfl (by decide) (by omega) u426000 x426000_2 true [.bool true] (fun _ => True) (fun _ => False) rfl rfl ?aP (fun _ hk => hk.elim) ?aF ?aO ?aB ?aS ?aL ?_
                  (case aP => exact rfl)
                  (case aB => exact (by repeat (first | (with_reducible first | exact HB.out | apply below_alloc | apply pw_below_drewN | apply below_drew1 | refine below_set ?_ GE422.out | refine below_set ?_ GE423.out | refine below_set ?_ GE424.out | refine below_set ?_ GE425.out) | exact HB.out)))
                  (case aF => exact (fun _ _ => trivial))
                  (case aO => exact (by (with_reducible repeat (first | apply Kd.R_alloc | apply Kd.R_drewN | apply Kd.R_drew)); exact HO_426000.out))
                  (case aS => exact (below_size (by repeat (first | (with_reducible first | exact HB.out | apply below_alloc | apply pw_below_drewN | apply below_drew1 | refine below_set ?_ GE422.out | refine below_set ?_ GE423.out | refine below_set ?_ GE424.out | refine below_set ?_ GE425.out) | exact HB.out))))
                  (case aL => have := LMc73.out; omega)
                  intro v453 w76 ho hb hg hat
                  rw [← Ny452.out] at ho
                  have n0_ := Aside0.mk (Kd.R_over' (by (with_reducible repeat (first | apply Kd.R_alloc | apply Kd.R_drewN | apply Kd.R_drew)); exact HO_11.out) (Kd.R_typed (by (with_reducible repeat (first | apply Kd.R_alloc | apply Kd.R_drewN | apply Kd.R_drew)); exact HO_426000.out)) (by decide) hg)
                  have n1_ := Aside0.mk (Kd.S_over' (by (with_reducible repeat (first | apply Kd.S_alloc | apply Kd.S_drewN | apply Kd.S_drew)); exact HO_426001.out) (Kd.R_typed (by (with_reducible repeat (first | apply Kd.R_alloc | apply Kd.R_drewN | apply Kd.R_drew)); exact HO_426000.out)) (by decide) hg)
                  have n2_ := Aside0.mk (blk_grown (g := gb422) (o := .cells #[.slice (some ad436) l0_0.length c0_0, .slice A0_1 l0_1.length c0_1] 28 (0, 0)) (by (with_reducible repeat (first | refine blk_drewN ?_ _ | refine blk_drew ?_ | refine blk_alloc ?_ _)); exact BK422.out) hg (Kd.R_ne HO_426000.out BK422.out (by decide)))
                  have n3_ := Aside0.mk (blk_grown (g := gb423) (o := .cells #[.slice (some ad437) l1_0.length c1_0, .slice A1_1 l1_1.length c1_1] 28 (0, 0)) (by (with_reducible repeat (first | refine blk_drewN ?_ _ | refine blk_drew ?_ | refine blk_alloc ?_ _)); exact BK423.out) hg (Kd.R_ne HO_426000.out BK423.out (by decide)))
                  have n4_ := Aside0.mk (blk_grown (g := gb424) (o := .cells #[.slice none 0 0, .slice none 0 0] 28 (0, 0)) (by (with_reducible repeat (first | refine blk_drewN ?_ _ | refine blk_drew ?_ | refine blk_alloc ?_ _)); exact BK424.out) hg (Kd.R_ne HO_426000.out BK424.out (by decide)))
                  have n5_ := Aside0.mk (blk_grown (g := gb425) (o := .cells #[u426000, u426001] 28 (0, 0)) (by (with_reducible repeat (first | refine blk_drewN ?_ _ | refine blk_drew ?_ | refine blk_alloc ?_ _)); exact BK425.out) hg (Kd.R_ne HO_426000.out BK425.out (by decide)))
                  have n6_ := Aside0.mk (hb)
                  have n7_ := Aside0.mk (ho)
                  clear HO_11 HO_426001 BK422 BK423 BK424 BK425 HB HO_426000
                  have HO_11 := n0_; have HO_426001 := n1_; have BK422 := n2_; have BK423 := n3_; have BK424 := n4_; have BK425 := n5_; have HB := n6_; have HO454 := n7_
                  clear n0_ n1_ n2_ n3_ n4_ n5_ n6_ n7_ ho hb hg hat
                  obtain ⟨Ao77, co77, eo77⟩ := Kd.R_slice HO454.out
                  (first | subst eo77 | (injection eo77 with f1_ f2_ f3_; have f4_ := f1_.symm; have f5_ := f3_.symm; clear f1_ f2_ f3_; subst f4_; subst f5_))
                  refine hK.out _ _ ⟨(blk_cell BK425.out 0).trans rfl, (blk_cell BK425.out 1).trans rfl, (blk_cell BK422.out 0).trans rfl, (blk_cell BK422.out 1).trans rfl, (blk_cell BK423.out 0).trans rfl, (blk_cell BK423.out 1).trans rfl, ((HB.out.cell (World.block_lt_of_cell? w _ hw436_0)).trans hw436_0), ((HB.out.cell (World.block_lt_of_cell? w _ hw437_0)).trans hw437_0)⟩ (fun hHeld => ?_)
                  clear hK K
                  refine norm_ (a' := ?_) ?_ ?_
                  rotate_left
                  ·show Act.put _ (some 90) _ = _
                   simp only [pn_, sz_, ss_, i64_w, i32_w]
                   rfl
                  refine pure_ (i := 35) (N := some 91) (v := ?_) (a' := ?_) (bl 37 68719476735) rfl rfl (any_of HT_.out (by kernel_rfl)) (fun _ _ _ h => h) (Or.inl ⟨by rfl, ?_⟩) ?_ ?_
                  rotate_left; (focus (intro w'; go_simp; with_reducible rfl)); rotate_left; (focus (simp only [pn_, sz_, ss_, i64_w, i32_w]; rfl))
                  refine last_ (i := 36) (N := none) (bl 37 137438953471) rfl rfl (one_of HT_.out (by kernel_rfl)) (by decide) (fun K hK => ?_)
                  have hs78 : w76.cell? ⟨gb425, 0, none⟩ = some (u426000) := (blk_cell BK425.out 0).trans rfl
                  have hfs78 := blk_frozen BK425.out 0
                  have hns78_0 := NB422_425.out
                  have hns78_1 := NB423_425.out
                  have hns78_2 := NB424_425.out
                  have hms78_0 := NB425_422.out
                  have hms78_1 := NB425_423.out
                  have hms78_2 := NB425_424.out
                  refine skip_ (w1 := ?_) (by rfl) rfl ?_ ?_
                  rotate_left
                  ·go_simp
                   rfl
                  refine hK.out _ _ ?_
                  clear hK K
                  refine done_ (done_of HT_.out (by kernel_rfl)) ?_
                  have n0_ : Aside0 (Kd.R (Kd.int .i64) 3 (w76.setCell ⟨gb425, 0, none⟩ (.slice Ao77 y452.length co77)) w.heap.size (fun _ => True) u11 x11_3) := ⟨by (with_reducible repeat (first | apply Kd.R_alloc | apply Kd.R_drewN | apply Kd.R_drew)); exact Kd.R_mono (Kd.R_far (p := ⟨gb425, 0, none⟩) (Kd.R_types HO_11.out BK425.out (by decide)) (fun _ hk => hk.2) (.slice Ao77 y452.length co77)) (fun _ hk => trivial)⟩
                  have n1_ : Aside0 (Kd.S (Kd.slice 3 (Kd.int .i64)) 54 (w76.setCell ⟨gb425, 0, none⟩ (.slice Ao77 y452.length co77)) w.heap.size (fun k_ => some k_ ≠ (u11 : Value).ownBlock) u426001 x426001_2) := ⟨by (with_reducible repeat (first | apply Kd.S_alloc | apply Kd.S_drewN | apply Kd.S_drew)); exact Kd.S_mono (Kd.S_far (p := ⟨gb425, 0, none⟩) (Kd.S_types HO_426001.out BK425.out (by decide)) (fun _ hk => hk.2) (.slice Ao77 y452.length co77)) (fun _ hk => hk.1)⟩
                  have n2_ : Aside0 (Kd.R Kd.bool 4 (w76.setCell ⟨gb425, 0, none⟩ (.slice Ao77 y452.length co77)) w.heap.size (fun _ => True) (.slice Ao77 y452.length co77) y452) := ⟨by (with_reducible repeat (first | apply Kd.R_alloc | apply Kd.R_drewN | apply Kd.R_drew)); exact Kd.R_mono (Kd.R_far (p := ⟨gb425, 0, none⟩) (Kd.R_types HO454.out BK425.out (by decide)) (fun _ hk => hk.2) (.slice Ao77 y452.length co77)) (fun _ hk => trivial)⟩
                  have n3_ : Aside0 ((w76.setCell ⟨gb425, 0, none⟩ (.slice Ao77 y452.length co77)).heap[gb422]? = some (.cells #[.slice (some ad436) l0_0.length c0_0, .slice A0_1 l0_1.length c0_1] 28 (0, 0))) := ⟨by (with_reducible repeat (first | refine blk_drewN ?_ _ | refine blk_drew ?_ | refine blk_alloc ?_ _)); refine blk_far ?_ NB422_425.out _; (with_reducible repeat (first | refine blk_drewN ?_ _ | refine blk_drew ?_ | refine blk_alloc ?_ _)); exact BK422.out⟩
                  have n4_ : Aside0 ((w76.setCell ⟨gb425, 0, none⟩ (.slice Ao77 y452.length co77)).heap[gb423]? = some (.cells #[.slice (some ad437) l1_0.length c1_0, .slice A1_1 l1_1.length c1_1] 28 (0, 0))) := ⟨by (with_reducible repeat (first | refine blk_drewN ?_ _ | refine blk_drew ?_ | refine blk_alloc ?_ _)); refine blk_far ?_ NB423_425.out _; (with_reducible repeat (first | refine blk_drewN ?_ _ | refine blk_drew ?_ | refine blk_alloc ?_ _)); exact BK423.out⟩
                  have n5_ : Aside0 ((w76.setCell ⟨gb425, 0, none⟩ (.slice Ao77 y452.length co77)).heap[gb424]? = some (.cells #[.slice none 0 0, .slice none 0 0] 28 (0, 0))) := ⟨by (with_reducible repeat (first | refine blk_drewN ?_ _ | refine blk_drew ?_ | refine blk_alloc ?_ _)); refine blk_far ?_ NB424_425.out _; (with_reducible repeat (first | refine blk_drewN ?_ _ | refine blk_drew ?_ | refine blk_alloc ?_ _)); exact BK424.out⟩
                  have n6_ : Aside0 ((w76.setCell ⟨gb425, 0, none⟩ (.slice Ao77 y452.length co77)).heap[gb425]? = some (.cells #[.slice Ao77 y452.length co77, u426001] 28 (0, 0))) := ⟨by (with_reducible repeat (first | refine blk_drewN ?_ _ | refine blk_drew ?_ | refine blk_alloc ?_ _)); refine blk_put (cs := #[u426000, u426001]) ?_ 0 _ rfl; (with_reducible repeat (first | refine blk_drewN ?_ _ | refine blk_drew ?_ | refine blk_alloc ?_ _)); exact BK425.out⟩
                  have n7_ : Aside0 (Below w.heap.size w (w76.setCell ⟨gb425, 0, none⟩ (.slice Ao77 y452.length co77))) := ⟨by repeat (first | (with_reducible first | exact HB.out | apply below_alloc | apply pw_below_drewN | apply below_drew1 | refine below_set ?_ GE422.out | refine below_set ?_ GE423.out | refine below_set ?_ GE424.out | refine below_set ?_ GE425.out) | exact HB.out)⟩
                  (try clear HO_11)
                  (try clear HO_426001)
                  (try clear HO454)
                  (try clear BK422)
                  (try clear BK423)
                  (try clear BK424)
                  (try clear BK425)
                  (try clear HB)
                  generalize (w76.setCell ⟨gb425, 0, none⟩ (.slice Ao77 y452.length co77)) = w79 at n0_ n1_ n2_ n3_ n4_ n5_ n6_ n7_ ⊢
                  have HO_11 := n0_; have HO_426001 := n1_; have HO454 := n2_; have BK422 := n3_; have BK423 := n4_; have BK424 := n5_; have BK425 := n6_; have HB := n7_
                  clear n0_ n1_ n2_ n3_ n4_ n5_ n6_ n7_
                  have hnb80 := NB425_422.out
                  have hnc80 := NB422_425.out
                  have hnb81 := NB425_423.out
                  have hnc81 := NB423_425.out
                  have hnb82 := NB425_424.out
                  have hnc82 := NB424_425.out
                  have hcz83_0 : w79.cell? ⟨gb425, 0, none⟩ = some (.slice Ao77 y452.length co77) := (blk_cell BK425.out 0).trans rfl
                  have hcz83_1 : w79.cell? ⟨gb425, 1, none⟩ = some (u426001) := (blk_cell BK425.out 1).trans rfl
                  have hfz83_0 := blk_frozen BK425.out 0
                  have hfz83_1 := blk_frozen BK425.out 1
                  obtain ⟨Ao85, co85, eo85⟩ := Kd.R_slice HO_11.out
                  subst eo85
                  try go_wp2_with (first | ((with_reducible refine gate_builtin (b := .append) (xs := #[.tmp 93, .tmp 95]) rfl ?_); at_builtin; refine Kd.S_append (Kd.slice 3 (Kd.int .i64)) (w0 := w) w.heap.size rfl (.tmp 93) (.tmp 95) 23 54 (.slice none 0 0) 24 rfl Try.underlying23 info54 rfl (by decide) (by omega) u426001 x426001_2 x11_3 [.slice Ao85 x11_3.length co85] (fun _ => True) (fun k_ => some k_ = (.slice Ao85 x11_3.length co85 : Value).ownBlock) rfl rfl ?aP (fun k_ hk_ => ((Kd.R_mono (ok' := fun k_ => ((fun _ => True)) k_ ∧ some k_ ≠ (u426001 : Value).ownBlock) (Kd.R_apart' (HO_11.out) (Kd.S_typed HO_426001.out) (by decide)) (fun k_ hk => ⟨trivial, hk.2⟩))).1 k_ hk_.symm) ?aF ?aO ?aB ?aS ?aL ?_; (case aP => exact Kd.M_row (Kd.R_mono (Kd.R_tight rfl (Kd.R_mono (ok' := fun k_ => ((fun _ => True)) k_ ∧ some k_ ≠ (u426001 : Value).ownBlock) (Kd.R_apart' (HO_11.out) (Kd.S_typed HO_426001.out) (by decide)) (fun k_ hk => ⟨trivial, hk.2⟩))) (fun _ h_ => h_))); (case aB => exact (by repeat (first | (with_reducible first | exact HB.out | apply below_alloc | apply pw_below_drewN | apply below_drew1 | refine below_set ?_ GE422.out | refine below_set ?_ GE423.out | refine below_set ?_ GE424.out | refine below_set ?_ GE425.out) | exact HB.out))); (case aF => exact (fun _ _ => trivial)); (case aO => exact (by (with_reducible repeat (first | apply Kd.S_alloc | apply Kd.S_drewN | apply Kd.S_drew)); exact Kd.S_mono HO_426001.out (fun k_ hk => ⟨trivial, fun e_ => hk e_⟩))); (case aS => exact (below_size (by repeat (first | (with_reducible first | exact HB.out | apply below_alloc | apply pw_below_drewN | apply below_drew1 | refine below_set ?_ GE422.out | refine below_set ?_ GE423.out | refine below_set ?_ GE424.out | refine below_set ?_ GE425.out) | exact HB.out)))); (case aL => have := LMc74.out; omega); intro v456 w84 ho hb hg hat; rw [← Ny455.out] at ho; have n0_ := Aside0.mk (blk_grown (g := gb422) (o := .cells #[.slice (some ad436) l0_0.length c0_0, .slice A0_1 l0_1.length c0_1] 28 (0, 0)) (by (with_reducible repeat (first | refine blk_drewN ?_ _ | refine blk_drew ?_ | refine blk_alloc ?_ _)); exact BK422.out) hg (Kd.S_ne HO_426001.out BK422.out (by decide))); have n1_ := Aside0.mk (blk_grown (g := gb423) (o := .cells #[.slice (some ad437) l1_0.length c1_0, .slice A1_1 l1_1.length c1_1] 28 (0, 0)) (by (with_reducible repeat (first | refine blk_drewN ?_ _ | refine blk_drew ?_ | refine blk_alloc ?_ _)); exact BK423.out) hg (Kd.S_ne HO_426001.out BK423.out (by decide))); have n2_ := Aside0.mk (blk_grown (g := gb424) (o := .cells #[.slice none 0 0, .slice none 0 0] 28 (0, 0)) (by (with_reducible repeat (first | refine blk_drewN ?_ _ | refine blk_drew ?_ | refine blk_alloc ?_ _)); exact BK424.out) hg (Kd.S_ne HO_426001.out BK424.out (by decide))); have n3_ := Aside0.mk (blk_grown (g := gb425) (o := .cells #[.slice Ao77 y452.length co77, u426001] 28 (0, 0)) (by (with_reducible repeat (first | refine blk_drewN ?_ _ | refine blk_drew ?_ | refine blk_alloc ?_ _)); exact BK425.out) hg (Kd.S_ne HO_426001.out BK425.out (by decide))); have n4_ := Aside0.mk (Kd.R_over' (by (with_reducible repeat (first | apply Kd.R_alloc | apply Kd.R_drewN | apply Kd.R_drew)); exact HO454.out) (Kd.S_typed (by (with_reducible repeat (first | apply Kd.S_alloc | apply Kd.S_drewN | apply Kd.S_drew)); exact HO_426001.out)) (by decide) hg); have n5_ := Aside0.mk (hb); have n6_ := Aside0.mk (ho); clear BK422; clear BK423; clear BK424; clear BK425; clear HO454; clear HB; clear HO_426001; clear HO_11; have BK422 := n0_; have BK423 := n1_; have BK424 := n2_; have BK425 := n3_; have HO454 := n4_; have HB := n5_; have HO457 := n6_; clear n0_ n1_ n2_ n3_ n4_ n5_ n6_; clear ho hb hg hat; obtain ⟨Ao86, co86, eo86⟩ := Kd.S_slice HO457.out; subst eo86; have hcz87_0 : w84.cell? ⟨gb425, 0, none⟩ = some (.slice Ao77 y452.length co77) := (blk_cell BK425.out 0).trans rfl; have hcz87_1 : w84.cell? ⟨gb425, 1, none⟩ = some (u426001) := (blk_cell BK425.out 1).trans rfl; have hfz87_0 := blk_frozen BK425.out 0; have hfz87_1 := blk_frozen BK425.out 1))
                  go_roundg k3
                  case measure => have := HK1.out; have := HK2.out; have := HK3.out; omega
                  case rel => exact ⟨(wrap64 (x10_2 + 1)), (y452), (y455), (.slice Ao77 y452.length co77), (.slice Ao86 y455.length co86), (by first | rfl | (simp; done) | (simp [*]; done)), H', ⟨by have := HK1.out; have := HK2.out; have := HK3.out; omega⟩, ⟨by (with_reducible repeat (first | apply Kd.R_alloc | apply Kd.R_drewN | apply Kd.R_drew)); exact Kd.R_mono (Kd.R_far (p := ⟨gb425, 1, none⟩) (Kd.R_types HO454.out BK425.out (by decide)) (fun _ hk => hk.2) (.slice Ao86 y455.length co86)) (fun _ hk => trivial)⟩, ⟨by (with_reducible repeat (first | apply Kd.S_alloc | apply Kd.S_drewN | apply Kd.S_drew)); exact Kd.S_mono (Kd.S_far (p := ⟨gb425, 1, none⟩) (Kd.S_types HO457.out BK425.out (by decide)) (fun _ hk => hk.2) (.slice Ao86 y455.length co86)) (fun _ hk => trivial)⟩, ⟨by (with_reducible repeat (first | refine blk_drewN ?_ _ | refine blk_drew ?_ | refine blk_alloc ?_ _)); refine blk_far ?_ NB422_425.out _; (with_reducible repeat (first | refine blk_drewN ?_ _ | refine blk_drew ?_ | refine blk_alloc ?_ _)); exact BK422.out⟩, ⟨by (with_reducible repeat (first | refine blk_drewN ?_ _ | refine blk_drew ?_ | refine blk_alloc ?_ _)); refine blk_far ?_ NB423_425.out _; (with_reducible repeat (first | refine blk_drewN ?_ _ | refine blk_drew ?_ | refine blk_alloc ?_ _)); exact BK423.out⟩, ⟨by (with_reducible repeat (first | refine blk_drewN ?_ _ | refine blk_drew ?_ | refine blk_alloc ?_ _)); refine blk_far ?_ NB424_425.out _; (with_reducible repeat (first | refine blk_drewN ?_ _ | refine blk_drew ?_ | refine blk_alloc ?_ _)); exact BK424.out⟩, ⟨by (with_reducible repeat (first | refine blk_drewN ?_ _ | refine blk_drew ?_ | refine blk_alloc ?_ _)); refine blk_put (cs := #[.slice Ao77 y452.length co77, u426001]) ?_ 1 _ rfl; (with_reducible repeat (first | refine blk_drewN ?_ _ | refine blk_drew ?_ | refine blk_alloc ?_ _)); exact BK425.out⟩, ⟨by repeat (first | (with_reducible first | exact HB.out | apply below_alloc | apply pw_below_drewN | apply below_drew1 | refine below_set ?_ GE422.out | refine below_set ?_ GE423.out | refine below_set ?_ GE424.out | refine below_set ?_ GE425.out) | exact HB.out)⟩⟩
                 ·rw [if_neg c74] at H
                  exact absurd H (by simp)
                ·rw [if_neg c73] at H
                 exact absurd H (by simp)
              ·rw [if_neg c39] at H
               exact absurd H (by simp)
             ·rw [if_neg c38] at H
              exact absurd H (by simp)
            ·replace c37 := Bool.eq_false_iff.mpr c37
             subst c37
             have H1 : (if a2 = true then (if 0 ≤ x10_2 then (if x10_2 < (l1_0.length : Int) then (if rdOf false l1_0 x10_2 = true then (if x426000_2.length < 140737488355328 then (if x426001_2.length < 5864062014805 then (spec_l7Pairs.l1 k3 a2 (l1_0.length : Int) x9_1 (wrap64 (x10_2 + 1)) l0_0 l0_1 l1_0 l1_1 (x426000_2 ++ [!(false)]) (x426001_2 ++ [x11_3])) else (none)) else (none)) else (if x426000_2.length < 140737488355328 then (if x426001_2.length < 5864062014805 then (spec_l7Pairs.l1 k3 a2 (l1_0.length : Int) x9_1 (wrap64 (x10_2 + 1)) l0_0 l0_1 l1_0 l1_1 (x426000_2 ++ [false]) (x426001_2 ++ [x11_3])) else (none)) else (none))) else (none)) else (none)) else (if x426000_2.length < 140737488355328 then (if x426001_2.length < 5864062014805 then (spec_l7Pairs.l1 k3 a2 (l1_0.length : Int) x9_1 (wrap64 (x10_2 + 1)) l0_0 l0_1 l1_0 l1_1 (x426000_2 ++ [false]) (x426001_2 ++ [x11_3])) else (none)) else (none))) = some (r1, r2) := by rw [if_neg (show ¬ (false = true) by decide)] at H; exact H
             clear H
             have H := H1
             clear H1
             by_cases c88 : a2 = true
             ·subst c88
              have H1 : (if 0 ≤ x10_2 then (if x10_2 < (l1_0.length : Int) then (if rdOf false l1_0 x10_2 = true then (if x426000_2.length < 140737488355328 then (if x426001_2.length < 5864062014805 then (spec_l7Pairs.l1 k3 true (l1_0.length : Int) x9_1 (wrap64 (x10_2 + 1)) l0_0 l0_1 l1_0 l1_1 (x426000_2 ++ [!(false)]) (x426001_2 ++ [x11_3])) else (none)) else (none)) else (if x426000_2.length < 140737488355328 then (if x426001_2.length < 5864062014805 then (spec_l7Pairs.l1 k3 true (l1_0.length : Int) x9_1 (wrap64 (x10_2 + 1)) l0_0 l0_1 l1_0 l1_1 (x426000_2 ++ [false]) (x426001_2 ++ [x11_3])) else (none)) else (none))) else (none)) else (none)) = some (r1, r2) := by rw [if_pos rfl] at H; exact H
              clear H
              have H := H1
              clear H1
              by_cases c89 : 0 ≤ x10_2
              ·rw [if_pos c89] at H
               have c89b0 : decide (0 ≤ x10_2) = true := decide_eq_true c89
               clear c89
               by_cases c90 : x10_2 < (l1_0.length : Int)
               ·rw [if_pos c90] at H
                have c90b0 : decide (x10_2 < (l1_0.length : Int)) = true := decide_eq_true c90
                clear c90
                obtain ⟨bq91, hbq91⟩ : ∃ b_ : Bool, b_ = (rdOf false l1_0 x10_2) := ⟨_, rfl⟩
                replace H : (if bq91 = true then (if x426000_2.length < 140737488355328 then (if x426001_2.length < 5864062014805 then (spec_l7Pairs.l1 k3 true (l1_0.length : Int) x9_1 (wrap64 (x10_2 + 1)) l0_0 l0_1 l1_0 l1_1 (x426000_2 ++ [!(false)]) (x426001_2 ++ [x11_3])) else (none)) else (none)) else (if x426000_2.length < 140737488355328 then (if x426001_2.length < 5864062014805 then (spec_l7Pairs.l1 k3 true (l1_0.length : Int) x9_1 (wrap64 (x10_2 + 1)) l0_0 l0_1 l1_0 l1_1 (x426000_2 ++ [false]) (x426001_2 ++ [x11_3])) else (none)) else (none))) = some (r1, r2) := by rw [← hbq91] at H; exact H
                have Nbq91 := Aside0.mk hbq91
                clear hbq91
                by_cases c92 : bq91 = true
                ·subst c92
                 have H1 : (if x426000_2.length < 140737488355328 then (if x426001_2.length < 5864062014805 then (spec_l7Pairs.l1 k3 true (l1_0.length : Int) x9_1 (wrap64 (x10_2 + 1)) l0_0 l0_1 l1_0 l1_1 (x426000_2 ++ [!(false)]) (x426001_2 ++ [x11_3])) else (none)) else (none)) = some (r1, r2) := by rw [if_pos rfl] at H; exact H
                 clear H
                 have H := H1
                 clear H1
                 by_cases c93 : x426000_2.length < 140737488355328
                 ·rw [if_pos c93] at H
                  have LMc93 := Aside0.mk c93
                  clear c93
                  obtain ⟨y460, hy460⟩ : ∃ y_ : List Bool, y_ = (x426000_2 ++ [!(false)]) := ⟨_, rfl⟩
                  replace H : (if x426001_2.length < 5864062014805 then (spec_l7Pairs.l1 k3 true (l1_0.length : Int) x9_1 (wrap64 (x10_2 + 1)) l0_0 l0_1 l1_0 l1_1 y460 (x426001_2 ++ [x11_3])) else (none)) = some (r1, r2) := by first | (rw [hy460]; with_reducible exact H) | (have H2_ := (Option.bind_some _ _).symm.trans H; rw [hy460]; with_reducible exact H2_) | (have H2_ := (Option.bind_some _ _).symm.trans H; with_reducible exact H2_) | with_reducible exact H | (rw [hy460]; exact H) | exact H
                  have Ny460 := Aside0.mk hy460
                  clear hy460
                  by_cases c94 : x426001_2.length < 5864062014805
                  ·rw [if_pos c94] at H
                   have LMc94 := Aside0.mk c94
                   clear c94
                   obtain ⟨y463, hy463⟩ : ∃ y_ : List (List Int), y_ = (x426001_2 ++ [x11_3]) := ⟨_, rfl⟩
                   replace H : (spec_l7Pairs.l1 k3 true (l1_0.length : Int) x9_1 (wrap64 (x10_2 + 1)) l0_0 l0_1 l1_0 l1_1 y460 y463) = some (r1, r2) := by first | (rw [hy463]; with_reducible exact H) | (have H2_ := (Option.bind_some _ _).symm.trans H; rw [hy463]; with_reducible exact H2_) | (have H2_ := (Option.bind_some _ _).symm.trans H; with_reducible exact H2_) | with_reducible exact H | (rw [hy463]; exact H) | exact H
                   have Ny463 := Aside0.mk hy463
                   clear hy463
                   have H' := Aside0.mk H
                   clear H
                   try go_wp2
                   have n0_ := Aside0.mk (Kd.R_drew HO_11.out)
                   have n1_ := Aside0.mk (Kd.R_drew HO_426000.out)
                   have n2_ := Aside0.mk (Kd.S_drew HO_426001.out)
                   have n3_ := Aside0.mk (blk_drew BK422.out)
                   have n4_ := Aside0.mk (blk_drew BK423.out)
                   have n5_ := Aside0.mk (blk_drew BK424.out)
                   have n6_ := Aside0.mk (blk_drew BK425.out)
                   have n7_ := Aside0.mk (below_drew1 HB.out)
                   clear HO_11 HO_426000 HO_426001 BK422 BK423 BK424 BK425 HB
                   have HO_11 := n0_; have HO_426000 := n1_; have HO_426001 := n2_; have BK422 := n3_; have BK423 := n4_; have BK424 := n5_; have BK425 := n6_; have HB := n7_
                   clear n0_ n1_ n2_ n3_ n4_ n5_ n6_ n7_
                   have p436 : 0 ≤ (x9_1 : Int) := of_decide_eq_true (by first | (with_reducible assumption) | assumption)
                   have q436 : x9_1 < (l0_0.length : Int) := of_decide_eq_true (by first | (with_reducible assumption) | assumption)
                   obtain ⟨ad436, e436, hx436_0⟩ := Kd.at_bool HR0_0.out x9_1 p436 q436
                   have hw436_0 := hx436_0
                   (try rw [← Nbq36.out] at hx436_0)
                   (try rw [← Nbq36.out] at hw436_0)
                   (try rw [← Nbq91.out] at hx436_0)
                   (try rw [← Nbq91.out] at hw436_0)
                   cases e436
                   replace hx436_0 := (HB.out.cell (World.block_lt_of_cell? w _ hx436_0)).trans hx436_0
                   replace p436 := eq_true p436
                   replace q436 := eq_true q436
                   have p458 : 0 ≤ (x10_2 : Int) := of_decide_eq_true (by first | (with_reducible assumption) | assumption)
                   have q458 : x10_2 < (l1_0.length : Int) := of_decide_eq_true (by first | (with_reducible assumption) | assumption)
                   obtain ⟨ad458, e458, hx458_0⟩ := Kd.at_bool HR1_0.out x10_2 p458 q458
                   have hw458_0 := hx458_0
                   (try rw [← Nbq36.out] at hx458_0)
                   (try rw [← Nbq36.out] at hw458_0)
                   (try rw [← Nbq91.out] at hx458_0)
                   (try rw [← Nbq91.out] at hw458_0)
                   cases e458
                   replace hx458_0 := (HB.out.cell (World.block_lt_of_cell? w _ hx458_0)).trans hx458_0
                   replace p458 := eq_true p458
                   replace q458 := eq_true q458
                   have p459 : 0 ≤ (x9_1 : Int) := of_decide_eq_true (by first | (with_reducible assumption) | assumption)
                   have q459 : x9_1 < (l0_0.length : Int) := of_decide_eq_true (by first | (with_reducible assumption) | assumption)
                   obtain ⟨ad459, e459, hx459_0⟩ := Kd.at_bool HR0_0.out x9_1 p459 q459
                   have hw459_0 := hx459_0
                   (try rw [← Nbq36.out] at hx459_0)
                   (try rw [← Nbq36.out] at hw459_0)
                   (try rw [← Nbq91.out] at hx459_0)
                   (try rw [← Nbq91.out] at hw459_0)
                   obtain rfl : ad436 = ad459 := (by injection e459)
                   replace hx459_0 := (HB.out.cell (World.block_lt_of_cell? w _ hx459_0)).trans hx459_0
                   replace p459 := eq_true p459
                   replace q459 := eq_true q459
                   refine start_ (n := 37) (S := fun w' => w'.cell? ⟨gb425, 0, none⟩ = some (u426000) ∧ w'.cell? ⟨gb425, 1, none⟩ = some (u426001) ∧ w'.cell? ⟨gb422, 0, none⟩ = some (.slice (some ad436) l0_0.length c0_0) ∧ w'.cell? ⟨gb422, 1, none⟩ = some (.slice A0_1 l0_1.length c0_1) ∧ w'.cell? ⟨gb423, 0, none⟩ = some (.slice (some ad458) l1_0.length c1_0) ∧ w'.cell? ⟨gb423, 1, none⟩ = some (.slice A1_1 l1_1.length c1_1) ∧ w'.cell? (ad436.add (x9_1).toNat) = some (.bool false) ∧ w'.cell? (ad458.add (x10_2).toNat) = some (.bool true) ∧ w'.cell? (ad436.add (x9_1).toNat) = some (.bool (false))) (ds := [36]) (bl 37 0) (by kernel_rfl) rfl rfl ⟨(blk_cell BK425.out 0).trans rfl, (blk_cell BK425.out 1).trans rfl, (blk_cell BK422.out 0).trans rfl, (blk_cell BK422.out 1).trans rfl, (blk_cell BK423.out 0).trans rfl, (blk_cell BK423.out 1).trans rfl, ((HB.out.cell (World.block_lt_of_cell? w _ hw436_0)).trans hw436_0), ((HB.out.cell (World.block_lt_of_cell? w _ hw458_0)).trans hw458_0), ((HB.out.cell (World.block_lt_of_cell? w _ hw459_0)).trans hw459_0)⟩ (fun hHeld => ?_); refine with_tabW spec_l7Pairs.tab14 spec_l7Pairs.bits14 (fun HT_ HW_ => ?_)
                   generalize wr.drew = w95 at HO_11 HO_426000 HO_426001 BK422 BK423 BK424 BK425 HB hx436_0 hx458_0 hx459_0 hHeld ⊢
                   refine pure_ (i := 0) (N := some 56) (v := ?_) (a' := ?_) (bl 37 1) rfl rfl (any_of HT_.out (by kernel_rfl)) (fun _ _ _ h => h) (Or.inl ⟨by rfl, ?_⟩) ?_ ?_
                   rotate_left; (focus (intro w'; go_simp; with_reducible rfl)); rotate_left; (focus (simp only [pn_, sz_, ss_, i64_w, i32_w]; rfl))
                   refine pure_ (i := 2) (N := some 58) (v := ?_) (a' := ?_) (bl 37 5) rfl rfl (any_of HT_.out (by kernel_rfl)) (fun _ _ _ h => h) (Or.inl ⟨by rfl, ?_⟩) ?_ ?_
                   rotate_left; (focus (intro w'; go_simp; with_reducible rfl)); rotate_left; (focus (simp only [pn_, sz_, ss_, i64_w, i32_w]; rfl))
                   refine pure_ (i := 4) (N := some 60) (v := ?_) (a' := ?_) (bl 37 21) rfl rfl (any_of HT_.out (by kernel_rfl)) (fun _ _ _ h => h) (Or.inl ⟨by rfl, ?_⟩) ?_ ?_
                   rotate_left; (focus (intro w'; go_simp; with_reducible rfl)); rotate_left; (focus (simp only [pn_, sz_, ss_, i64_w, i32_w]; rfl))
                   refine take_ (i := 1) (N := some 57) (v := ?_) (a' := ?_) (bl 37 23) rfl rfl (take_ofW HT_.out HW_.out (by kernel_rfl)) (fun _ _ _ h => h) (Or.inl ⟨by rfl, ?_⟩) hHeld ?_ ?_
                   rotate_left; (focus (rintro w' ⟨s0, s1, s2, s3, s4, s5, s6, s7, s8⟩; go_simp; with_reducible rfl)); rotate_left; (focus (simp only [pn_, sz_, ss_, i64_w, i32_w]; rfl))
                   refine take_ (i := 3) (N := some 59) (v := ?_) (a' := ?_) (bl 37 31) rfl rfl (take_ofW HT_.out HW_.out (by kernel_rfl)) (fun _ _ _ h => h) (Or.inl ⟨by rfl, ?_⟩) hHeld ?_ ?_
                   rotate_left; (focus (rintro w' ⟨s0, s1, s2, s3, s4, s5, s6, s7, s8⟩; go_simp; with_reducible rfl)); rotate_left; (focus (simp only [pn_, sz_, ss_, i64_w, i32_w]; rfl))
                   refine pure_ (i := 5) (N := some 61) (v := ?_) (a' := ?_) (bl 37 63) rfl rfl (any_of HT_.out (by kernel_rfl)) (fun _ _ _ h => h) (Or.inl ⟨by rfl, ?_⟩) ?_ ?_
                   rotate_left; (focus (intro w'; go_simp; with_reducible rfl)); rotate_left; (focus (simp only [pn_, sz_, ss_, i64_w, i32_w]; rfl))
                   refine take_ (i := 6) (N := some 62) (v := ?_) (a' := ?_) (bl 37 127) rfl rfl (take_ofW HT_.out HW_.out (by kernel_rfl)) (fun _ _ _ h => h) (Or.inl ⟨by rfl, ?_⟩) hHeld ?_ ?_
                   rotate_left; (focus (rintro w' ⟨s0, s1, s2, s3, s4, s5, s6, s7, s8⟩; go_simp; with_reducible rfl)); rotate_left; (focus (simp only [pn_, sz_, ss_, i64_w, i32_w]; rfl))
                   refine pure_ (i := 7) (N := some 63) (v := ?_) (a' := ?_) (bl 37 255) rfl rfl (any_of HT_.out (by kernel_rfl)) (fun _ _ _ h => h) (Or.inl ⟨by rfl, ?_⟩) ?_ ?_
                   rotate_left; (focus (intro w'; go_simp; with_reducible rfl)); rotate_left; (focus (simp only [pn_, sz_, ss_, i64_w, i32_w]; rfl))
                   refine pure_ (i := 8) (N := some 64) (v := undef) (a' := ?_) (bl 37 511) rfl rfl (any_of HT_.out (by kernel_rfl)) (fun _ _ _ h => h) (Or.inr ⟨by rfl, rfl⟩) ?_ ?_
                   rotate_left
                   ·simp only [pn_, sz_, ss_, i64_w, i32_w]
                    rfl
                   refine pure_ (i := 9) (N := some 65) (v := undef) (a' := ?_) (bl 37 1023) rfl rfl (any_of HT_.out (by kernel_rfl)) (fun _ _ _ h => h) (Or.inr ⟨by rfl, rfl⟩) ?_ ?_
                   rotate_left
                   ·simp only [pn_, sz_, ss_, i64_w, i32_w]
                    rfl
                   refine pure_ (i := 10) (N := some 66) (v := undef) (a' := ?_) (bl 37 2047) rfl rfl (any_of HT_.out (by kernel_rfl)) (fun _ _ _ h => h) (Or.inr ⟨by rfl, rfl⟩) ?_ ?_
                   rotate_left
                   ·simp only [pn_, sz_, ss_, i64_w, i32_w]
                    rfl
                   refine pure_ (i := 11) (N := some 67) (v := undef) (a' := ?_) (bl 37 4095) rfl rfl (any_of HT_.out (by kernel_rfl)) (fun _ _ _ h => h) (Or.inr ⟨by rfl, rfl⟩) ?_ ?_
                   rotate_left
                   ·simp only [pn_, sz_, ss_, i64_w, i32_w]
                    rfl
                   refine pure_ (i := 12) (N := some 68) (v := undef) (a' := ?_) (bl 37 8191) rfl rfl (any_of HT_.out (by kernel_rfl)) (fun _ _ _ h => h) (Or.inr ⟨by rfl, rfl⟩) ?_ ?_
                   rotate_left
                   ·simp only [pn_, sz_, ss_, i64_w, i32_w]
                    rfl
                   refine pure_ (i := 13) (N := some 69) (v := undef) (a' := ?_) (bl 37 16383) rfl rfl (any_of HT_.out (by kernel_rfl)) (fun _ _ _ h => h) (Or.inr ⟨by rfl, rfl⟩) ?_ ?_
                   rotate_left
                   ·simp only [pn_, sz_, ss_, i64_w, i32_w]
                    rfl
                   refine pure_ (i := 14) (N := some 70) (v := ?_) (a' := ?_) (bl 37 32767) rfl rfl (any_of HT_.out (by kernel_rfl)) (fun _ _ _ h => h) (Or.inl ⟨by rfl, ?_⟩) ?_ ?_
                   rotate_left; (focus (intro w'; go_simp; with_reducible rfl)); rotate_left; (focus (simp only [pn_, sz_, ss_, i64_w, i32_w]; rfl))
                   refine pure_ (i := 15) (N := some 71) (v := ?_) (a' := ?_) (bl 37 65535) rfl rfl (any_of HT_.out (by kernel_rfl)) (fun _ _ _ h => h) (Or.inl ⟨by rfl, ?_⟩) ?_ ?_
                   rotate_left; (focus (intro w'; go_simp; with_reducible rfl)); rotate_left; (focus (simp only [pn_, sz_, ss_, i64_w, i32_w]; rfl))
                   refine pure_ (i := 16) (N := some 72) (v := ?_) (a' := ?_) (bl 37 131071) rfl rfl (any_of HT_.out (by kernel_rfl)) (fun _ _ _ h => h) (Or.inl ⟨by rfl, ?_⟩) ?_ ?_
                   rotate_left; (focus (intro w'; go_simp; with_reducible rfl)); rotate_left; (focus (simp only [pn_, sz_, ss_, i64_w, i32_w]; rfl))
                   refine pure_ (i := 17) (N := some 73) (v := ?_) (a' := ?_) (bl 37 262143) rfl rfl (any_of HT_.out (by kernel_rfl)) (fun _ _ _ h => h) (Or.inl ⟨by rfl, ?_⟩) ?_ ?_
                   rotate_left; (focus (intro w'; go_simp; with_reducible rfl)); rotate_left; (focus (simp only [pn_, sz_, ss_, i64_w, i32_w]; rfl))
                   refine pure_ (i := 18) (N := some 74) (v := ?_) (a' := ?_) (bl 37 524287) rfl rfl (any_of HT_.out (by kernel_rfl)) (fun _ _ _ h => h) (Or.inl ⟨by rfl, ?_⟩) ?_ ?_
                   rotate_left; (focus (intro w'; go_simp; with_reducible rfl)); rotate_left; (focus (simp only [pn_, sz_, ss_, i64_w, i32_w]; rfl))
                   refine pure_ (i := 20) (N := some 76) (v := ?_) (a' := ?_) (bl 37 1572863) rfl rfl (any_of HT_.out (by kernel_rfl)) (fun _ _ _ h => h) (Or.inl ⟨by rfl, ?_⟩) ?_ ?_
                   rotate_left; (focus (intro w'; go_simp; with_reducible rfl)); rotate_left; (focus (simp only [pn_, sz_, ss_, i64_w, i32_w]; rfl))
                   refine take_ (i := 19) (N := some 75) (v := ?_) (a' := ?_) (bl 37 2097151) rfl rfl (take_ofW HT_.out HW_.out (by kernel_rfl)) (fun _ _ _ h => h) (Or.inl ⟨by rfl, ?_⟩) hHeld ?_ ?_
                   rotate_left; (focus (rintro w' ⟨s0, s1, s2, s3, s4, s5, s6, s7, s8⟩; go_simp; with_reducible rfl)); rotate_left; (focus (simp only [pn_, sz_, ss_, i64_w, i32_w]; rfl))
                   refine pure_ (i := 21) (N := some 77) (v := ?_) (a' := ?_) (bl 37 4194303) rfl rfl (any_of HT_.out (by kernel_rfl)) (fun _ _ _ h => h) (Or.inl ⟨by rfl, ?_⟩) ?_ ?_
                   rotate_left; (focus (intro w'; go_simp; with_reducible rfl)); rotate_left; (focus (simp only [pn_, sz_, ss_, i64_w, i32_w]; rfl))
                   refine take_ (i := 22) (N := some 78) (v := ?_) (a' := ?_) (bl 37 8388607) rfl rfl (take_ofW HT_.out HW_.out (by kernel_rfl)) (fun _ _ _ h => h) (Or.inl ⟨by rfl, ?_⟩) hHeld ?_ ?_
                   rotate_left; (focus (rintro w' ⟨s0, s1, s2, s3, s4, s5, s6, s7, s8⟩; go_simp; with_reducible rfl)); rotate_left; (focus (simp only [pn_, sz_, ss_, i64_w, i32_w]; rfl))
                   refine pure_ (i := 23) (N := some 79) (v := ?_) (a' := ?_) (bl 37 16777215) rfl rfl (any_of HT_.out (by kernel_rfl)) (fun _ _ _ h => h) (Or.inl ⟨by rfl, ?_⟩) ?_ ?_
                   rotate_left; (focus (intro w'; go_simp; with_reducible rfl)); rotate_left; (focus (simp only [pn_, sz_, ss_, i64_w, i32_w]; rfl))
                   refine pure_ (i := 24) (N := some 80) (v := ?_) (a' := ?_) (bl 37 33554431) rfl rfl (any_of HT_.out (by kernel_rfl)) (fun _ _ _ h => h) (Or.inl ⟨by rfl, ?_⟩) ?_ ?_
                   rotate_left; (focus (intro w'; go_simp; with_reducible rfl)); rotate_left; (focus (simp only [pn_, sz_, ss_, i64_w, i32_w]; rfl))
                   refine pure_ (i := 25) (N := some 81) (v := ?_) (a' := ?_) (bl 37 67108863) rfl rfl (any_of HT_.out (by kernel_rfl)) (fun _ _ _ h => h) (Or.inl ⟨by rfl, ?_⟩) ?_ ?_
                   rotate_left; (focus (intro w'; go_simp; with_reducible rfl)); rotate_left; (focus (simp only [pn_, sz_, ss_, i64_w, i32_w]; rfl))
                   refine pure_ (i := 27) (N := some 83) (v := ?_) (a' := ?_) (bl 37 201326591) rfl rfl (any_of HT_.out (by kernel_rfl)) (fun _ _ _ h => h) (Or.inl ⟨by rfl, ?_⟩) ?_ ?_
                   rotate_left; (focus (intro w'; go_simp; with_reducible rfl)); rotate_left; (focus (simp only [pn_, sz_, ss_, i64_w, i32_w]; rfl))
                   refine take_ (i := 26) (N := some 82) (v := ?_) (a' := ?_) (bl 37 268435455) rfl rfl (take_ofW HT_.out HW_.out (by kernel_rfl)) (fun _ _ _ h => h) (Or.inl ⟨by rfl, ?_⟩) hHeld ?_ ?_
                   rotate_left; (focus (rintro w' ⟨s0, s1, s2, s3, s4, s5, s6, s7, s8⟩; go_simp; with_reducible rfl)); rotate_left; (focus (simp only [pn_, sz_, ss_, i64_w, i32_w]; rfl))
                   refine pure_ (i := 28) (N := some 84) (v := ?_) (a' := ?_) (bl 37 536870911) rfl rfl (any_of HT_.out (by kernel_rfl)) (fun _ _ _ h => h) (Or.inl ⟨by rfl, ?_⟩) ?_ ?_
                   rotate_left; (focus (intro w'; go_simp; with_reducible rfl)); rotate_left; (focus (simp only [pn_, sz_, ss_, i64_w, i32_w]; rfl))
                   refine take_ (i := 29) (N := some 85) (v := ?_) (a' := ?_) (bl 37 1073741823) rfl rfl (take_ofW HT_.out HW_.out (by kernel_rfl)) (fun _ _ _ h => h) (Or.inl ⟨by rfl, ?_⟩) hHeld ?_ ?_
                   rotate_left; (focus (rintro w' ⟨s0, s1, s2, s3, s4, s5, s6, s7, s8⟩; go_simp; with_reducible rfl)); rotate_left; (focus (simp only [pn_, sz_, ss_, i64_w, i32_w]; rfl))
                   refine pure_ (i := 30) (N := some 86) (v := ?_) (a' := ?_) (bl 37 2147483647) rfl rfl (any_of HT_.out (by kernel_rfl)) (fun _ _ _ h => h) (Or.inl ⟨by rfl, ?_⟩) ?_ ?_
                   rotate_left; (focus (intro w'; go_simp; with_reducible rfl)); rotate_left; (focus (simp only [pn_, sz_, ss_, i64_w, i32_w]; rfl))
                   refine pure_ (i := 31) (N := some 87) (v := ?_) (a' := ?_) (bl 37 4294967295) rfl rfl (any_of HT_.out (by kernel_rfl)) (fun _ _ _ h => h) (Or.inl ⟨by rfl, ?_⟩) ?_ ?_
                   rotate_left; (focus (intro w'; go_simp; with_reducible rfl)); rotate_left; (focus (simp only [pn_, sz_, ss_, i64_w, i32_w]; rfl))
                   refine pure_ (i := 32) (N := some 88) (v := ?_) (a' := ?_) (bl 37 8589934591) rfl rfl (any_of HT_.out (by kernel_rfl)) (fun _ _ _ h => h) (Or.inl ⟨by rfl, ?_⟩) ?_ ?_
                   rotate_left; (focus (intro w'; go_simp; with_reducible rfl)); rotate_left; (focus (simp only [pn_, sz_, ss_, i64_w, i32_w]; rfl))
                   refine one_ (i := 33) (N := some 89) (bl 37 17179869183) rfl rfl (one_of HT_.out (by kernel_rfl)) (by decide) (fun K hK => ?_)
                   refine value_ (w1 := ?_) (v := ?_) (by rfl) rfl ?_ ?_
                   rotate_left 2
                   ·go_simp
                    constructor
                    ·rfl
                    ·rfl
                   refine hK.out _ _ ⟨(blk_cell (blk_alloc BK425.out _) 0).trans rfl, (blk_cell (blk_alloc BK425.out _) 1).trans rfl, (blk_cell (blk_alloc BK422.out _) 0).trans rfl, (blk_cell (blk_alloc BK422.out _) 1).trans rfl, (blk_cell (blk_alloc BK423.out _) 0).trans rfl, (blk_cell (blk_alloc BK423.out _) 1).trans rfl, (World.cell?_alloc_lt _ _ _ (World.block_lt_of_cell? _ _ (((HB.out.cell (World.block_lt_of_cell? w _ hw436_0)).trans hw436_0)))).trans (((HB.out.cell (World.block_lt_of_cell? w _ hw436_0)).trans hw436_0)), (World.cell?_alloc_lt _ _ _ (World.block_lt_of_cell? _ _ (((HB.out.cell (World.block_lt_of_cell? w _ hw458_0)).trans hw458_0)))).trans (((HB.out.cell (World.block_lt_of_cell? w _ hw458_0)).trans hw458_0)), (World.cell?_alloc_lt _ _ _ (World.block_lt_of_cell? _ _ (((HB.out.cell (World.block_lt_of_cell? w _ hw459_0)).trans hw459_0)))).trans (((HB.out.cell (World.block_lt_of_cell? w _ hw459_0)).trans hw459_0))⟩ (fun hHeld => ?_)
                   clear hK K
                   refine norm_ (a' := ?_) ?_ ?_
                   rotate_left
                   ·show Act.put _ (some 89) _ = _
                    simp only [pn_, sz_, ss_, i64_w, i32_w]
                    rfl
                   refine one_ (i := 34) (N := some 90) (bl 37 34359738367) rfl rfl (one_of HT_.out (by kernel_rfl)) (by decide) (fun K hK => ?_)
                   refine Kd.R_append_step Kd.bool (w0 := w) w.heap.size (by rfl) (.tmp 57) (.tmp 89) 22 4 (.bool false) 1 rfl Try.underlying22 info4 rfl (by decide) (by omega) u426000 x426000_2 (!(false)) [.bool (!(false))] (fun _ => True) (fun _ => False) rfl rfl ?aP (fun _ hk => hk.elim) ?aF ?aO ?aB ?aS ?aL ?_
                   (case aP => exact rfl)
                   (case aB => exact (by repeat (first | (with_reducible first | exact HB.out | apply below_alloc | apply pw_below_drewN | apply below_drew1 | refine below_set ?_ GE422.out | refine below_set ?_ GE423.out | refine below_set ?_ GE424.out | refine below_set ?_ GE425.out) | exact HB.out)))
                   (case aF => exact (fun _ _ => trivial))
                   (case aO => exact (by (with_reducible repeat (first | apply Kd.R_alloc | apply Kd.R_drewN | apply Kd.R_drew)); exact HO_426000.out))
                   (case aS => exact (below_size (by repeat (first | (with_reducible first | exact HB.out | apply below_alloc | apply pw_below_drewN | apply below_drew1 | refine below_set ?_ GE422.out | refine below_set ?_ GE423.out | refine below_set ?_ GE424.out | refine below_set ?_ GE425.out) | exact HB.out))))
                   (case aL => have := LMc93.out; omega)
                   intro v461 w96 ho hb hg hat
                   rw [← Ny460.out] at ho
                   have n0_ := Aside0.mk (Kd.R_over' (by (with_reducible repeat (first | apply Kd.R_alloc | apply Kd.R_drewN | apply Kd.R_drew)); exact HO_11.out) (Kd.R_typed (by (with_reducible repeat (first | apply Kd.R_alloc | apply Kd.R_drewN | apply Kd.R_drew)); exact HO_426000.out)) (by decide) hg)
                   have n1_ := Aside0.mk (Kd.S_over' (by (with_reducible repeat (first | apply Kd.S_alloc | apply Kd.S_drewN | apply Kd.S_drew)); exact HO_426001.out) (Kd.R_typed (by (with_reducible repeat (first | apply Kd.R_alloc | apply Kd.R_drewN | apply Kd.R_drew)); exact HO_426000.out)) (by decide) hg)
                   have n2_ := Aside0.mk (blk_grown (g := gb422) (o := .cells #[.slice (some ad436) l0_0.length c0_0, .slice A0_1 l0_1.length c0_1] 28 (0, 0)) (by (with_reducible repeat (first | refine blk_drewN ?_ _ | refine blk_drew ?_ | refine blk_alloc ?_ _)); exact BK422.out) hg (Kd.R_ne HO_426000.out BK422.out (by decide)))
                   have n3_ := Aside0.mk (blk_grown (g := gb423) (o := .cells #[.slice (some ad458) l1_0.length c1_0, .slice A1_1 l1_1.length c1_1] 28 (0, 0)) (by (with_reducible repeat (first | refine blk_drewN ?_ _ | refine blk_drew ?_ | refine blk_alloc ?_ _)); exact BK423.out) hg (Kd.R_ne HO_426000.out BK423.out (by decide)))
                   have n4_ := Aside0.mk (blk_grown (g := gb424) (o := .cells #[.slice none 0 0, .slice none 0 0] 28 (0, 0)) (by (with_reducible repeat (first | refine blk_drewN ?_ _ | refine blk_drew ?_ | refine blk_alloc ?_ _)); exact BK424.out) hg (Kd.R_ne HO_426000.out BK424.out (by decide)))
                   have n5_ := Aside0.mk (blk_grown (g := gb425) (o := .cells #[u426000, u426001] 28 (0, 0)) (by (with_reducible repeat (first | refine blk_drewN ?_ _ | refine blk_drew ?_ | refine blk_alloc ?_ _)); exact BK425.out) hg (Kd.R_ne HO_426000.out BK425.out (by decide)))
                   have n6_ := Aside0.mk (hb)
                   have n7_ := Aside0.mk (ho)
                   clear HO_11 HO_426001 BK422 BK423 BK424 BK425 HB HO_426000
                   have HO_11 := n0_; have HO_426001 := n1_; have BK422 := n2_; have BK423 := n3_; have BK424 := n4_; have BK425 := n5_; have HB := n6_; have HO462 := n7_
                   clear n0_ n1_ n2_ n3_ n4_ n5_ n6_ n7_ ho hb hg hat
                   obtain ⟨Ao97, co97, eo97⟩ := Kd.R_slice HO462.out
                   (first | subst eo97 | (injection eo97 with f1_ f2_ f3_; have f4_ := f1_.symm; have f5_ := f3_.symm; clear f1_ f2_ f3_; subst f4_; subst f5_))
                   refine hK.out _ _ ⟨(blk_cell BK425.out 0).trans rfl, (blk_cell BK425.out 1).trans rfl, (blk_cell BK422.out 0).trans rfl, (blk_cell BK422.out 1).trans rfl, (blk_cell BK423.out 0).trans rfl, (blk_cell BK423.out 1).trans rfl, ((HB.out.cell (World.block_lt_of_cell? w _ hw436_0)).trans hw436_0), ((HB.out.cell (World.block_lt_of_cell? w _ hw458_0)).trans hw458_0), ((HB.out.cell (World.block_lt_of_cell? w _ hw459_0)).trans hw459_0)⟩ (fun hHeld => ?_)
                   clear hK K
                   refine norm_ (a' := ?_) ?_ ?_
                   rotate_left
                   ·show Act.put _ (some 90) _ = _
                    simp only [pn_, sz_, ss_, i64_w, i32_w]
                    rfl
                   refine pure_ (i := 35) (N := some 91) (v := ?_) (a' := ?_) (bl 37 68719476735) rfl rfl (any_of HT_.out (by kernel_rfl)) (fun _ _ _ h => h) (Or.inl ⟨by rfl, ?_⟩) ?_ ?_
                   rotate_left; (focus (intro w'; go_simp; with_reducible rfl)); rotate_left; (focus (simp only [pn_, sz_, ss_, i64_w, i32_w]; rfl))
                   refine last_ (i := 36) (N := none) (bl 37 137438953471) rfl rfl (one_of HT_.out (by kernel_rfl)) (by decide) (fun K hK => ?_)
                   have hs98 : w96.cell? ⟨gb425, 0, none⟩ = some (u426000) := (blk_cell BK425.out 0).trans rfl
                   have hfs98 := blk_frozen BK425.out 0
                   have hns98_0 := NB422_425.out
                   have hns98_1 := NB423_425.out
                   have hns98_2 := NB424_425.out
                   have hms98_0 := NB425_422.out
                   have hms98_1 := NB425_423.out
                   have hms98_2 := NB425_424.out
                   refine skip_ (w1 := ?_) (by rfl) rfl ?_ ?_
                   rotate_left
                   ·go_simp
                    rfl
                   refine hK.out _ _ ?_
                   clear hK K
                   refine done_ (done_of HT_.out (by kernel_rfl)) ?_
                   have n0_ : Aside0 (Kd.R (Kd.int .i64) 3 (w96.setCell ⟨gb425, 0, none⟩ (.slice Ao97 y460.length co97)) w.heap.size (fun _ => True) u11 x11_3) := ⟨by (with_reducible repeat (first | apply Kd.R_alloc | apply Kd.R_drewN | apply Kd.R_drew)); exact Kd.R_mono (Kd.R_far (p := ⟨gb425, 0, none⟩) (Kd.R_types HO_11.out BK425.out (by decide)) (fun _ hk => hk.2) (.slice Ao97 y460.length co97)) (fun _ hk => trivial)⟩
                   have n1_ : Aside0 (Kd.S (Kd.slice 3 (Kd.int .i64)) 54 (w96.setCell ⟨gb425, 0, none⟩ (.slice Ao97 y460.length co97)) w.heap.size (fun k_ => some k_ ≠ (u11 : Value).ownBlock) u426001 x426001_2) := ⟨by (with_reducible repeat (first | apply Kd.S_alloc | apply Kd.S_drewN | apply Kd.S_drew)); exact Kd.S_mono (Kd.S_far (p := ⟨gb425, 0, none⟩) (Kd.S_types HO_426001.out BK425.out (by decide)) (fun _ hk => hk.2) (.slice Ao97 y460.length co97)) (fun _ hk => hk.1)⟩
                   have n2_ : Aside0 (Kd.R Kd.bool 4 (w96.setCell ⟨gb425, 0, none⟩ (.slice Ao97 y460.length co97)) w.heap.size (fun _ => True) (.slice Ao97 y460.length co97) y460) := ⟨by (with_reducible repeat (first | apply Kd.R_alloc | apply Kd.R_drewN | apply Kd.R_drew)); exact Kd.R_mono (Kd.R_far (p := ⟨gb425, 0, none⟩) (Kd.R_types HO462.out BK425.out (by decide)) (fun _ hk => hk.2) (.slice Ao97 y460.length co97)) (fun _ hk => trivial)⟩
                   have n3_ : Aside0 ((w96.setCell ⟨gb425, 0, none⟩ (.slice Ao97 y460.length co97)).heap[gb422]? = some (.cells #[.slice (some ad436) l0_0.length c0_0, .slice A0_1 l0_1.length c0_1] 28 (0, 0))) := ⟨by (with_reducible repeat (first | refine blk_drewN ?_ _ | refine blk_drew ?_ | refine blk_alloc ?_ _)); refine blk_far ?_ NB422_425.out _; (with_reducible repeat (first | refine blk_drewN ?_ _ | refine blk_drew ?_ | refine blk_alloc ?_ _)); exact BK422.out⟩
                   have n4_ : Aside0 ((w96.setCell ⟨gb425, 0, none⟩ (.slice Ao97 y460.length co97)).heap[gb423]? = some (.cells #[.slice (some ad458) l1_0.length c1_0, .slice A1_1 l1_1.length c1_1] 28 (0, 0))) := ⟨by (with_reducible repeat (first | refine blk_drewN ?_ _ | refine blk_drew ?_ | refine blk_alloc ?_ _)); refine blk_far ?_ NB423_425.out _; (with_reducible repeat (first | refine blk_drewN ?_ _ | refine blk_drew ?_ | refine blk_alloc ?_ _)); exact BK423.out⟩
                   have n5_ : Aside0 ((w96.setCell ⟨gb425, 0, none⟩ (.slice Ao97 y460.length co97)).heap[gb424]? = some (.cells #[.slice none 0 0, .slice none 0 0] 28 (0, 0))) := ⟨by (with_reducible repeat (first | refine blk_drewN ?_ _ | refine blk_drew ?_ | refine blk_alloc ?_ _)); refine blk_far ?_ NB424_425.out _; (with_reducible repeat (first | refine blk_drewN ?_ _ | refine blk_drew ?_ | refine blk_alloc ?_ _)); exact BK424.out⟩
                   have n6_ : Aside0 ((w96.setCell ⟨gb425, 0, none⟩ (.slice Ao97 y460.length co97)).heap[gb425]? = some (.cells #[.slice Ao97 y460.length co97, u426001] 28 (0, 0))) := ⟨by (with_reducible repeat (first | refine blk_drewN ?_ _ | refine blk_drew ?_ | refine blk_alloc ?_ _)); refine blk_put (cs := #[u426000, u426001]) ?_ 0 _ rfl; (with_reducible repeat (first | refine blk_drewN ?_ _ | refine blk_drew ?_ | refine blk_alloc ?_ _)); exact BK425.out⟩
                   have n7_ : Aside0 (Below w.heap.size w (w96.setCell ⟨gb425, 0, none⟩ (.slice Ao97 y460.length co97))) := ⟨by repeat (first | (with_reducible first | exact HB.out | apply below_alloc | apply pw_below_drewN | apply below_drew1 | refine below_set ?_ GE422.out | refine below_set ?_ GE423.out | refine below_set ?_ GE424.out | refine below_set ?_ GE425.out) | exact HB.out)⟩
                   (try clear HO_11)
                   (try clear HO_426001)
                   (try clear HO462)
                   (try clear BK422)
                   (try clear BK423)
                   (try clear BK424)
                   (try clear BK425)
                   (try clear HB)
                   generalize (w96.setCell ⟨gb425, 0, none⟩ (.slice Ao97 y460.length co97)) = w99 at n0_ n1_ n2_ n3_ n4_ n5_ n6_ n7_ ⊢
                   have HO_11 := n0_; have HO_426001 := n1_; have HO462 := n2_; have BK422 := n3_; have BK423 := n4_; have BK424 := n5_; have BK425 := n6_; have HB := n7_
                   clear n0_ n1_ n2_ n3_ n4_ n5_ n6_ n7_
                   have hnb100 := NB425_422.out
                   have hnc100 := NB422_425.out
                   have hnb101 := NB425_423.out
                   have hnc101 := NB423_425.out
                   have hnb102 := NB425_424.out
                   have hnc102 := NB424_425.out
                   have hcz103_0 : w99.cell? ⟨gb425, 0, none⟩ = some (.slice Ao97 y460.length co97) := (blk_cell BK425.out 0).trans rfl
                   have hcz103_1 : w99.cell? ⟨gb425, 1, none⟩ = some (u426001) := (blk_cell BK425.out 1).trans rfl
                   have hfz103_0 := blk_frozen BK425.out 0
                   have hfz103_1 := blk_frozen BK425.out 1
                   obtain ⟨Ao105, co105, eo105⟩ := Kd.R_slice HO_11.out
                   subst eo105
                   try go_wp2_with (first | ((with_reducible refine gate_builtin (b := .append) (xs := #[.tmp 93, .tmp 95]) rfl ?_); at_builtin; refine Kd.S_append (Kd.slice 3 (Kd.int .i64)) (w0 := w) w.heap.size rfl (.tmp 93) (.tmp 95) 23 54 (.slice none 0 0) 24 rfl Try.underlying23 info54 rfl (by decide) (by omega) u426001 x426001_2 x11_3 [.slice Ao105 x11_3.length co105] (fun _ => True) (fun k_ => some k_ = (.slice Ao105 x11_3.length co105 : Value).ownBlock) rfl rfl ?aP (fun k_ hk_ => ((Kd.R_mono (ok' := fun k_ => ((fun _ => True)) k_ ∧ some k_ ≠ (u426001 : Value).ownBlock) (Kd.R_apart' (HO_11.out) (Kd.S_typed HO_426001.out) (by decide)) (fun k_ hk => ⟨trivial, hk.2⟩))).1 k_ hk_.symm) ?aF ?aO ?aB ?aS ?aL ?_; (case aP => exact Kd.M_row (Kd.R_mono (Kd.R_tight rfl (Kd.R_mono (ok' := fun k_ => ((fun _ => True)) k_ ∧ some k_ ≠ (u426001 : Value).ownBlock) (Kd.R_apart' (HO_11.out) (Kd.S_typed HO_426001.out) (by decide)) (fun k_ hk => ⟨trivial, hk.2⟩))) (fun _ h_ => h_))); (case aB => exact (by repeat (first | (with_reducible first | exact HB.out | apply below_alloc | apply pw_below_drewN | apply below_drew1 | refine below_set ?_ GE422.out | refine below_set ?_ GE423.out | refine below_set ?_ GE424.out | refine below_set ?_ GE425.out) | exact HB.out))); (case aF => exact (fun _ _ => trivial)); (case aO => exact (by (with_reducible repeat (first | apply Kd.S_alloc | apply Kd.S_drewN | apply Kd.S_drew)); exact Kd.S_mono HO_426001.out (fun k_ hk => ⟨trivial, fun e_ => hk e_⟩))); (case aS => exact (below_size (by repeat (first | (with_reducible first | exact HB.out | apply below_alloc | apply pw_below_drewN | apply below_drew1 | refine below_set ?_ GE422.out | refine below_set ?_ GE423.out | refine below_set ?_ GE424.out | refine below_set ?_ GE425.out) | exact HB.out)))); (case aL => have := LMc94.out; omega); intro v464 w104 ho hb hg hat; rw [← Ny463.out] at ho; have n0_ := Aside0.mk (blk_grown (g := gb422) (o := .cells #[.slice (some ad436) l0_0.length c0_0, .slice A0_1 l0_1.length c0_1] 28 (0, 0)) (by (with_reducible repeat (first | refine blk_drewN ?_ _ | refine blk_drew ?_ | refine blk_alloc ?_ _)); exact BK422.out) hg (Kd.S_ne HO_426001.out BK422.out (by decide))); have n1_ := Aside0.mk (blk_grown (g := gb423) (o := .cells #[.slice (some ad458) l1_0.length c1_0, .slice A1_1 l1_1.length c1_1] 28 (0, 0)) (by (with_reducible repeat (first | refine blk_drewN ?_ _ | refine blk_drew ?_ | refine blk_alloc ?_ _)); exact BK423.out) hg (Kd.S_ne HO_426001.out BK423.out (by decide))); have n2_ := Aside0.mk (blk_grown (g := gb424) (o := .cells #[.slice none 0 0, .slice none 0 0] 28 (0, 0)) (by (with_reducible repeat (first | refine blk_drewN ?_ _ | refine blk_drew ?_ | refine blk_alloc ?_ _)); exact BK424.out) hg (Kd.S_ne HO_426001.out BK424.out (by decide))); have n3_ := Aside0.mk (blk_grown (g := gb425) (o := .cells #[.slice Ao97 y460.length co97, u426001] 28 (0, 0)) (by (with_reducible repeat (first | refine blk_drewN ?_ _ | refine blk_drew ?_ | refine blk_alloc ?_ _)); exact BK425.out) hg (Kd.S_ne HO_426001.out BK425.out (by decide))); have n4_ := Aside0.mk (Kd.R_over' (by (with_reducible repeat (first | apply Kd.R_alloc | apply Kd.R_drewN | apply Kd.R_drew)); exact HO462.out) (Kd.S_typed (by (with_reducible repeat (first | apply Kd.S_alloc | apply Kd.S_drewN | apply Kd.S_drew)); exact HO_426001.out)) (by decide) hg); have n5_ := Aside0.mk (hb); have n6_ := Aside0.mk (ho); clear BK422; clear BK423; clear BK424; clear BK425; clear HO462; clear HB; clear HO_426001; clear HO_11; have BK422 := n0_; have BK423 := n1_; have BK424 := n2_; have BK425 := n3_; have HO462 := n4_; have HB := n5_; have HO465 := n6_; clear n0_ n1_ n2_ n3_ n4_ n5_ n6_; clear ho hb hg hat; obtain ⟨Ao106, co106, eo106⟩ := Kd.S_slice HO465.out; subst eo106; have hcz107_0 : w104.cell? ⟨gb425, 0, none⟩ = some (.slice Ao97 y460.length co97) := (blk_cell BK425.out 0).trans rfl; have hcz107_1 : w104.cell? ⟨gb425, 1, none⟩ = some (u426001) := (blk_cell BK425.out 1).trans rfl; have hfz107_0 := blk_frozen BK425.out 0; have hfz107_1 := blk_frozen BK425.out 1))
                   go_roundg k3
                   case measure => have := HK1.out; have := HK2.out; have := HK3.out; omega
                   case rel => exact ⟨(wrap64 (x10_2 + 1)), (y460), (y463), (.slice Ao97 y460.length co97), (.slice Ao106 y463.length co106), (by first | rfl | (simp; done) | (simp [*]; done)), H', ⟨by have := HK1.out; have := HK2.out; have := HK3.out; omega⟩, ⟨by (with_reducible repeat (first | apply Kd.R_alloc | apply Kd.R_drewN | apply Kd.R_drew)); exact Kd.R_mono (Kd.R_far (p := ⟨gb425, 1, none⟩) (Kd.R_types HO462.out BK425.out (by decide)) (fun _ hk => hk.2) (.slice Ao106 y463.length co106)) (fun _ hk => trivial)⟩, ⟨by (with_reducible repeat (first | apply Kd.S_alloc | apply Kd.S_drewN | apply Kd.S_drew)); exact Kd.S_mono (Kd.S_far (p := ⟨gb425, 1, none⟩) (Kd.S_types HO465.out BK425.out (by decide)) (fun _ hk => hk.2) (.slice Ao106 y463.length co106)) (fun _ hk => trivial)⟩, ⟨by (with_reducible repeat (first | refine blk_drewN ?_ _ | refine blk_drew ?_ | refine blk_alloc ?_ _)); refine blk_far ?_ NB422_425.out _; (with_reducible repeat (first | refine blk_drewN ?_ _ | refine blk_drew ?_ | refine blk_alloc ?_ _)); exact BK422.out⟩, ⟨by (with_reducible repeat (first | refine blk_drewN ?_ _ | refine blk_drew ?_ | refine blk_alloc ?_ _)); refine blk_far ?_ NB423_425.out _; (with_reducible repeat (first | refine blk_drewN ?_ _ | refine blk_drew ?_ | refine blk_alloc ?_ _)); exact BK423.out⟩, ⟨by (with_reducible repeat (first | refine blk_drewN ?_ _ | refine blk_drew ?_ | refine blk_alloc ?_ _)); refine blk_far ?_ NB424_425.out _; (with_reducible repeat (first | refine blk_drewN ?_ _ | refine blk_drew ?_ | refine blk_alloc ?_ _)); exact BK424.out⟩, ⟨by (with_reducible repeat (first | refine blk_drewN ?_ _ | refine blk_drew ?_ | refine blk_alloc ?_ _)); refine blk_put (cs := #[.slice Ao97 y460.length co97, u426001]) ?_ 1 _ rfl; (with_reducible repeat (first | refine blk_drewN ?_ _ | refine blk_drew ?_ | refine blk_alloc ?_ _)); exact BK425.out⟩, ⟨by repeat (first | (with_reducible first | exact HB.out | apply below_alloc | apply pw_below_drewN | apply below_drew1 | refine below_set ?_ GE422.out | refine below_set ?_ GE423.out | refine below_set ?_ GE424.out | refine below_set ?_ GE425.out) | exact HB.out)⟩⟩
                  ·rw [if_neg c94] at H
                   exact absurd H (by simp)
                 ·rw [if_neg c93] at H
                  exact absurd H (by simp)
                ·replace c92 := Bool.eq_false_iff.mpr c92
                 subst c92
                 have H1 : (if x426000_2.length < 140737488355328 then (if x426001_2.length < 5864062014805 then (spec_l7Pairs.l1 k3 true (l1_0.length : Int) x9_1 (wrap64 (x10_2 + 1)) l0_0 l0_1 l1_0 l1_1 (x426000_2 ++ [false]) (x426001_2 ++ [x11_3])) else (none)) else (none)) = some (r1, r2) := by rw [if_neg (show ¬ (false = true) by decide)] at H; exact H
                 clear H
                 have H := H1
                 clear H1
                 by_cases c108 : x426000_2.length < 140737488355328
                 ·rw [if_pos c108] at H
                  have LMc108 := Aside0.mk c108
                  clear c108
                  obtain ⟨y466, hy466⟩ : ∃ y_ : List Bool, y_ = (x426000_2 ++ [false]) := ⟨_, rfl⟩
                  replace H : (if x426001_2.length < 5864062014805 then (spec_l7Pairs.l1 k3 true (l1_0.length : Int) x9_1 (wrap64 (x10_2 + 1)) l0_0 l0_1 l1_0 l1_1 y466 (x426001_2 ++ [x11_3])) else (none)) = some (r1, r2) := by first | (rw [hy466]; with_reducible exact H) | (have H2_ := (Option.bind_some _ _).symm.trans H; rw [hy466]; with_reducible exact H2_) | (have H2_ := (Option.bind_some _ _).symm.trans H; with_reducible exact H2_) | with_reducible exact H | (rw [hy466]; exact H) | exact H
                  have Ny466 := Aside0.mk hy466
                  clear hy466
                  by_cases c109 : x426001_2.length < 5864062014805
                  ·rw [if_pos c109] at H
                   have LMc109 := Aside0.mk c109
                   clear c109
                   obtain ⟨y469, hy469⟩ : ∃ y_ : List (List Int), y_ = (x426001_2 ++ [x11_3]) := ⟨_, rfl⟩
                   replace H : (spec_l7Pairs.l1 k3 true (l1_0.length : Int) x9_1 (wrap64 (x10_2 + 1)) l0_0 l0_1 l1_0 l1_1 y466 y469) = some (r1, r2) := by first | (rw [hy469]; with_reducible exact H) | (have H2_ := (Option.bind_some _ _).symm.trans H; rw [hy469]; with_reducible exact H2_) | (have H2_ := (Option.bind_some _ _).symm.trans H; with_reducible exact H2_) | with_reducible exact H | (rw [hy469]; exact H) | exact H
                   have Ny469 := Aside0.mk hy469
                   clear hy469
                   have H' := Aside0.mk H
                   clear H
                   try go_wp2
                   have n0_ := Aside0.mk (Kd.R_drew HO_11.out)
                   have n1_ := Aside0.mk (Kd.R_drew HO_426000.out)
                   have n2_ := Aside0.mk (Kd.S_drew HO_426001.out)
                   have n3_ := Aside0.mk (blk_drew BK422.out)
                   have n4_ := Aside0.mk (blk_drew BK423.out)
                   have n5_ := Aside0.mk (blk_drew BK424.out)
                   have n6_ := Aside0.mk (blk_drew BK425.out)
                   have n7_ := Aside0.mk (below_drew1 HB.out)
                   clear HO_11 HO_426000 HO_426001 BK422 BK423 BK424 BK425 HB
                   have HO_11 := n0_; have HO_426000 := n1_; have HO_426001 := n2_; have BK422 := n3_; have BK423 := n4_; have BK424 := n5_; have BK425 := n6_; have HB := n7_
                   clear n0_ n1_ n2_ n3_ n4_ n5_ n6_ n7_
                   have p436 : 0 ≤ (x9_1 : Int) := of_decide_eq_true (by first | (with_reducible assumption) | assumption)
                   have q436 : x9_1 < (l0_0.length : Int) := of_decide_eq_true (by first | (with_reducible assumption) | assumption)
                   obtain ⟨ad436, e436, hx436_0⟩ := Kd.at_bool HR0_0.out x9_1 p436 q436
                   have hw436_0 := hx436_0
                   (try rw [← Nbq36.out] at hx436_0)
                   (try rw [← Nbq36.out] at hw436_0)
                   (try rw [← Nbq91.out] at hx436_0)
                   (try rw [← Nbq91.out] at hw436_0)
                   cases e436
                   replace hx436_0 := (HB.out.cell (World.block_lt_of_cell? w _ hx436_0)).trans hx436_0
                   replace p436 := eq_true p436
                   replace q436 := eq_true q436
                   have p458 : 0 ≤ (x10_2 : Int) := of_decide_eq_true (by first | (with_reducible assumption) | assumption)
                   have q458 : x10_2 < (l1_0.length : Int) := of_decide_eq_true (by first | (with_reducible assumption) | assumption)
                   obtain ⟨ad458, e458, hx458_0⟩ := Kd.at_bool HR1_0.out x10_2 p458 q458
                   have hw458_0 := hx458_0
                   (try rw [← Nbq36.out] at hx458_0)
                   (try rw [← Nbq36.out] at hw458_0)
                   (try rw [← Nbq91.out] at hx458_0)
                   (try rw [← Nbq91.out] at hw458_0)
                   cases e458
                   replace hx458_0 := (HB.out.cell (World.block_lt_of_cell? w _ hx458_0)).trans hx458_0
                   replace p458 := eq_true p458
                   replace q458 := eq_true q458
                   refine start_ (n := 37) (S := fun w' => w'.cell? ⟨gb425, 0, none⟩ = some (u426000) ∧ w'.cell? ⟨gb425, 1, none⟩ = some (u426001) ∧ w'.cell? ⟨gb422, 0, none⟩ = some (.slice (some ad436) l0_0.length c0_0) ∧ w'.cell? ⟨gb422, 1, none⟩ = some (.slice A0_1 l0_1.length c0_1) ∧ w'.cell? ⟨gb423, 0, none⟩ = some (.slice (some ad458) l1_0.length c1_0) ∧ w'.cell? ⟨gb423, 1, none⟩ = some (.slice A1_1 l1_1.length c1_1) ∧ w'.cell? (ad436.add (x9_1).toNat) = some (.bool false) ∧ w'.cell? (ad458.add (x10_2).toNat) = some (.bool false)) (ds := [36]) (bl 37 0) (by kernel_rfl) rfl rfl ⟨(blk_cell BK425.out 0).trans rfl, (blk_cell BK425.out 1).trans rfl, (blk_cell BK422.out 0).trans rfl, (blk_cell BK422.out 1).trans rfl, (blk_cell BK423.out 0).trans rfl, (blk_cell BK423.out 1).trans rfl, ((HB.out.cell (World.block_lt_of_cell? w _ hw436_0)).trans hw436_0), ((HB.out.cell (World.block_lt_of_cell? w _ hw458_0)).trans hw458_0)⟩ (fun hHeld => ?_); refine with_tabW spec_l7Pairs.tab14 spec_l7Pairs.bits14 (fun HT_ HW_ => ?_)
                   generalize wr.drew = w110 at HO_11 HO_426000 HO_426001 BK422 BK423 BK424 BK425 HB hx436_0 hx458_0 hHeld ⊢
                   refine pure_ (i := 0) (N := some 56) (v := ?_) (a' := ?_) (bl 37 1) rfl rfl (any_of HT_.out (by kernel_rfl)) (fun _ _ _ h => h) (Or.inl ⟨by rfl, ?_⟩) ?_ ?_
                   rotate_left; (focus (intro w'; go_simp; with_reducible rfl)); rotate_left; (focus (simp only [pn_, sz_, ss_, i64_w, i32_w]; rfl))
                   refine pure_ (i := 2) (N := some 58) (v := ?_) (a' := ?_) (bl 37 5) rfl rfl (any_of HT_.out (by kernel_rfl)) (fun _ _ _ h => h) (Or.inl ⟨by rfl, ?_⟩) ?_ ?_
                   rotate_left; (focus (intro w'; go_simp; with_reducible rfl)); rotate_left; (focus (simp only [pn_, sz_, ss_, i64_w, i32_w]; rfl))
                   refine pure_ (i := 4) (N := some 60) (v := ?_) (a' := ?_) (bl 37 21) rfl rfl (any_of HT_.out (by kernel_rfl)) (fun _ _ _ h => h) (Or.inl ⟨by rfl, ?_⟩) ?_ ?_
                   rotate_left; (focus (intro w'; go_simp; with_reducible rfl)); rotate_left; (focus (simp only [pn_, sz_, ss_, i64_w, i32_w]; rfl))
                   refine take_ (i := 1) (N := some 57) (v := ?_) (a' := ?_) (bl 37 23) rfl rfl (take_ofW HT_.out HW_.out (by kernel_rfl)) (fun _ _ _ h => h) (Or.inl ⟨by rfl, ?_⟩) hHeld ?_ ?_
                   rotate_left; (focus (rintro w' ⟨s0, s1, s2, s3, s4, s5, s6, s7⟩; go_simp; with_reducible rfl)); rotate_left; (focus (simp only [pn_, sz_, ss_, i64_w, i32_w]; rfl))
                   refine take_ (i := 3) (N := some 59) (v := ?_) (a' := ?_) (bl 37 31) rfl rfl (take_ofW HT_.out HW_.out (by kernel_rfl)) (fun _ _ _ h => h) (Or.inl ⟨by rfl, ?_⟩) hHeld ?_ ?_
                   rotate_left; (focus (rintro w' ⟨s0, s1, s2, s3, s4, s5, s6, s7⟩; go_simp; with_reducible rfl)); rotate_left; (focus (simp only [pn_, sz_, ss_, i64_w, i32_w]; rfl))
                   refine pure_ (i := 5) (N := some 61) (v := ?_) (a' := ?_) (bl 37 63) rfl rfl (any_of HT_.out (by kernel_rfl)) (fun _ _ _ h => h) (Or.inl ⟨by rfl, ?_⟩) ?_ ?_
                   rotate_left; (focus (intro w'; go_simp; with_reducible rfl)); rotate_left; (focus (simp only [pn_, sz_, ss_, i64_w, i32_w]; rfl))
                   refine take_ (i := 6) (N := some 62) (v := ?_) (a' := ?_) (bl 37 127) rfl rfl (take_ofW HT_.out HW_.out (by kernel_rfl)) (fun _ _ _ h => h) (Or.inl ⟨by rfl, ?_⟩) hHeld ?_ ?_
                   rotate_left; (focus (rintro w' ⟨s0, s1, s2, s3, s4, s5, s6, s7⟩; go_simp; with_reducible rfl)); rotate_left; (focus (simp only [pn_, sz_, ss_, i64_w, i32_w]; rfl))
                   refine pure_ (i := 7) (N := some 63) (v := ?_) (a' := ?_) (bl 37 255) rfl rfl (any_of HT_.out (by kernel_rfl)) (fun _ _ _ h => h) (Or.inl ⟨by rfl, ?_⟩) ?_ ?_
                   rotate_left; (focus (intro w'; go_simp; with_reducible rfl)); rotate_left; (focus (simp only [pn_, sz_, ss_, i64_w, i32_w]; rfl))
                   refine pure_ (i := 8) (N := some 64) (v := undef) (a' := ?_) (bl 37 511) rfl rfl (any_of HT_.out (by kernel_rfl)) (fun _ _ _ h => h) (Or.inr ⟨by rfl, rfl⟩) ?_ ?_
                   rotate_left
                   ·simp only [pn_, sz_, ss_, i64_w, i32_w]
                    rfl
                   refine pure_ (i := 9) (N := some 65) (v := undef) (a' := ?_) (bl 37 1023) rfl rfl (any_of HT_.out (by kernel_rfl)) (fun _ _ _ h => h) (Or.inr ⟨by rfl, rfl⟩) ?_ ?_
                   rotate_left
                   ·simp only [pn_, sz_, ss_, i64_w, i32_w]
                    rfl
                   refine pure_ (i := 10) (N := some 66) (v := undef) (a' := ?_) (bl 37 2047) rfl rfl (any_of HT_.out (by kernel_rfl)) (fun _ _ _ h => h) (Or.inr ⟨by rfl, rfl⟩) ?_ ?_
                   rotate_left
                   ·simp only [pn_, sz_, ss_, i64_w, i32_w]
                    rfl
                   refine pure_ (i := 11) (N := some 67) (v := undef) (a' := ?_) (bl 37 4095) rfl rfl (any_of HT_.out (by kernel_rfl)) (fun _ _ _ h => h) (Or.inr ⟨by rfl, rfl⟩) ?_ ?_
                   rotate_left
                   ·simp only [pn_, sz_, ss_, i64_w, i32_w]
                    rfl
                   refine pure_ (i := 12) (N := some 68) (v := undef) (a' := ?_) (bl 37 8191) rfl rfl (any_of HT_.out (by kernel_rfl)) (fun _ _ _ h => h) (Or.inr ⟨by rfl, rfl⟩) ?_ ?_
                   rotate_left
                   ·simp only [pn_, sz_, ss_, i64_w, i32_w]
                    rfl
                   refine pure_ (i := 13) (N := some 69) (v := undef) (a' := ?_) (bl 37 16383) rfl rfl (any_of HT_.out (by kernel_rfl)) (fun _ _ _ h => h) (Or.inr ⟨by rfl, rfl⟩) ?_ ?_
                   rotate_left
                   ·simp only [pn_, sz_, ss_, i64_w, i32_w]
                    rfl
                   refine pure_ (i := 14) (N := some 70) (v := ?_) (a' := ?_) (bl 37 32767) rfl rfl (any_of HT_.out (by kernel_rfl)) (fun _ _ _ h => h) (Or.inl ⟨by rfl, ?_⟩) ?_ ?_
                   rotate_left; (focus (intro w'; go_simp; with_reducible rfl)); rotate_left; (focus (simp only [pn_, sz_, ss_, i64_w, i32_w]; rfl))
                   refine pure_ (i := 15) (N := some 71) (v := ?_) (a' := ?_) (bl 37 65535) rfl rfl (any_of HT_.out (by kernel_rfl)) (fun _ _ _ h => h) (Or.inl ⟨by rfl, ?_⟩) ?_ ?_
                   rotate_left; (focus (intro w'; go_simp; with_reducible rfl)); rotate_left; (focus (simp only [pn_, sz_, ss_, i64_w, i32_w]; rfl))
                   refine pure_ (i := 16) (N := some 72) (v := ?_) (a' := ?_) (bl 37 131071) rfl rfl (any_of HT_.out (by kernel_rfl)) (fun _ _ _ h => h) (Or.inl ⟨by rfl, ?_⟩) ?_ ?_
                   rotate_left; (focus (intro w'; go_simp; with_reducible rfl)); rotate_left; (focus (simp only [pn_, sz_, ss_, i64_w, i32_w]; rfl))
                   refine pure_ (i := 17) (N := some 73) (v := ?_) (a' := ?_) (bl 37 262143) rfl rfl (any_of HT_.out (by kernel_rfl)) (fun _ _ _ h => h) (Or.inl ⟨by rfl, ?_⟩) ?_ ?_
                   rotate_left; (focus (intro w'; go_simp; with_reducible rfl)); rotate_left; (focus (simp only [pn_, sz_, ss_, i64_w, i32_w]; rfl))
                   refine pure_ (i := 18) (N := some 74) (v := ?_) (a' := ?_) (bl 37 524287) rfl rfl (any_of HT_.out (by kernel_rfl)) (fun _ _ _ h => h) (Or.inl ⟨by rfl, ?_⟩) ?_ ?_
                   rotate_left; (focus (intro w'; go_simp; with_reducible rfl)); rotate_left; (focus (simp only [pn_, sz_, ss_, i64_w, i32_w]; rfl))
                   refine pure_ (i := 20) (N := some 76) (v := ?_) (a' := ?_) (bl 37 1572863) rfl rfl (any_of HT_.out (by kernel_rfl)) (fun _ _ _ h => h) (Or.inl ⟨by rfl, ?_⟩) ?_ ?_
                   rotate_left; (focus (intro w'; go_simp; with_reducible rfl)); rotate_left; (focus (simp only [pn_, sz_, ss_, i64_w, i32_w]; rfl))
                   refine take_ (i := 19) (N := some 75) (v := ?_) (a' := ?_) (bl 37 2097151) rfl rfl (take_ofW HT_.out HW_.out (by kernel_rfl)) (fun _ _ _ h => h) (Or.inl ⟨by rfl, ?_⟩) hHeld ?_ ?_
                   rotate_left; (focus (rintro w' ⟨s0, s1, s2, s3, s4, s5, s6, s7⟩; go_simp; with_reducible rfl)); rotate_left; (focus (simp only [pn_, sz_, ss_, i64_w, i32_w]; rfl))
                   refine pure_ (i := 21) (N := some 77) (v := ?_) (a' := ?_) (bl 37 4194303) rfl rfl (any_of HT_.out (by kernel_rfl)) (fun _ _ _ h => h) (Or.inl ⟨by rfl, ?_⟩) ?_ ?_
                   rotate_left; (focus (intro w'; go_simp; with_reducible rfl)); rotate_left; (focus (simp only [pn_, sz_, ss_, i64_w, i32_w]; rfl))
                   refine take_ (i := 22) (N := some 78) (v := ?_) (a' := ?_) (bl 37 8388607) rfl rfl (take_ofW HT_.out HW_.out (by kernel_rfl)) (fun _ _ _ h => h) (Or.inl ⟨by rfl, ?_⟩) hHeld ?_ ?_
                   rotate_left; (focus (rintro w' ⟨s0, s1, s2, s3, s4, s5, s6, s7⟩; go_simp; with_reducible rfl)); rotate_left; (focus (simp only [pn_, sz_, ss_, i64_w, i32_w]; rfl))
                   refine pure_ (i := 23) (N := some 79) (v := ?_) (a' := ?_) (bl 37 16777215) rfl rfl (any_of HT_.out (by kernel_rfl)) (fun _ _ _ h => h) (Or.inl ⟨by rfl, ?_⟩) ?_ ?_
                   rotate_left; (focus (intro w'; go_simp; with_reducible rfl)); rotate_left; (focus (simp only [pn_, sz_, ss_, i64_w, i32_w]; rfl))
                   refine pure_ (i := 24) (N := some 80) (v := ?_) (a' := ?_) (bl 37 33554431) rfl rfl (any_of HT_.out (by kernel_rfl)) (fun _ _ _ h => h) (Or.inl ⟨by rfl, ?_⟩) ?_ ?_
                   rotate_left; (focus (intro w'; go_simp; with_reducible rfl)); rotate_left; (focus (simp only [pn_, sz_, ss_, i64_w, i32_w]; rfl))
                   refine pure_ (i := 25) (N := some 81) (v := undef) (a' := ?_) (bl 37 67108863) rfl rfl (any_of HT_.out (by kernel_rfl)) (fun _ _ _ h => h) (Or.inr ⟨by rfl, rfl⟩) ?_ ?_
                   rotate_left
                   ·simp only [pn_, sz_, ss_, i64_w, i32_w]
                    rfl
                   refine pure_ (i := 26) (N := some 82) (v := undef) (a' := ?_) (bl 37 134217727) rfl rfl (any_of HT_.out (by kernel_rfl)) (fun _ _ _ h => h) (Or.inr ⟨by rfl, rfl⟩) ?_ ?_
                   rotate_left
                   ·simp only [pn_, sz_, ss_, i64_w, i32_w]
                    rfl
                   refine pure_ (i := 27) (N := some 83) (v := undef) (a' := ?_) (bl 37 268435455) rfl rfl (any_of HT_.out (by kernel_rfl)) (fun _ _ _ h => h) (Or.inr ⟨by rfl, rfl⟩) ?_ ?_
                   rotate_left
                   ·simp only [pn_, sz_, ss_, i64_w, i32_w]
                    rfl
                   refine pure_ (i := 28) (N := some 84) (v := undef) (a' := ?_) (bl 37 536870911) rfl rfl (any_of HT_.out (by kernel_rfl)) (fun _ _ _ h => h) (Or.inr ⟨by rfl, rfl⟩) ?_ ?_
                   rotate_left
                   ·simp only [pn_, sz_, ss_, i64_w, i32_w]
                    rfl
                   refine pure_ (i := 29) (N := some 85) (v := undef) (a' := ?_) (bl 37 1073741823) rfl rfl (any_of HT_.out (by kernel_rfl)) (fun _ _ _ h => h) (Or.inr ⟨by rfl, rfl⟩) ?_ ?_
                   rotate_left
                   ·simp only [pn_, sz_, ss_, i64_w, i32_w]
                    rfl
                   refine pure_ (i := 30) (N := some 86) (v := undef) (a' := ?_) (bl 37 2147483647) rfl rfl (any_of HT_.out (by kernel_rfl)) (fun _ _ _ h => h) (Or.inr ⟨by rfl, rfl⟩) ?_ ?_
                   rotate_left
                   ·simp only [pn_, sz_, ss_, i64_w, i32_w]
                    rfl
                   refine pure_ (i := 31) (N := some 87) (v := ?_) (a' := ?_) (bl 37 4294967295) rfl rfl (any_of HT_.out (by kernel_rfl)) (fun _ _ _ h => h) (Or.inl ⟨by rfl, ?_⟩) ?_ ?_
                   rotate_left; (focus (intro w'; go_simp; with_reducible rfl)); rotate_left; (focus (simp only [pn_, sz_, ss_, i64_w, i32_w]; rfl))
                   refine pure_ (i := 32) (N := some 88) (v := ?_) (a' := ?_) (bl 37 8589934591) rfl rfl (any_of HT_.out (by kernel_rfl)) (fun _ _ _ h => h) (Or.inl ⟨by rfl, ?_⟩) ?_ ?_
                   rotate_left; (focus (intro w'; go_simp; with_reducible rfl)); rotate_left; (focus (simp only [pn_, sz_, ss_, i64_w, i32_w]; rfl))
                   refine one_ (i := 33) (N := some 89) (bl 37 17179869183) rfl rfl (one_of HT_.out (by kernel_rfl)) (by decide) (fun K hK => ?_)
                   refine value_ (w1 := ?_) (v := ?_) (by rfl) rfl ?_ ?_
                   rotate_left 2
                   ·go_simp
                    constructor
                    ·rfl
                    ·rfl
                   refine hK.out _ _ ⟨(blk_cell (blk_alloc BK425.out _) 0).trans rfl, (blk_cell (blk_alloc BK425.out _) 1).trans rfl, (blk_cell (blk_alloc BK422.out _) 0).trans rfl, (blk_cell (blk_alloc BK422.out _) 1).trans rfl, (blk_cell (blk_alloc BK423.out _) 0).trans rfl, (blk_cell (blk_alloc BK423.out _) 1).trans rfl, (World.cell?_alloc_lt _ _ _ (World.block_lt_of_cell? _ _ (((HB.out.cell (World.block_lt_of_cell? w _ hw436_0)).trans hw436_0)))).trans (((HB.out.cell (World.block_lt_of_cell? w _ hw436_0)).trans hw436_0)), (World.cell?_alloc_lt _ _ _ (World.block_lt_of_cell? _ _ (((HB.out.cell (World.block_lt_of_cell? w _ hw458_0)).trans hw458_0)))).trans (((HB.out.cell (World.block_lt_of_cell? w _ hw458_0)).trans hw458_0))⟩ (fun hHeld => ?_)
                   clear hK K
                   refine norm_ (a' := ?_) ?_ ?_
                   rotate_left
                   ·show Act.put _ (some 89) _ = _
                    simp only [pn_, sz_, ss_, i64_w, i32_w]
                    rfl
                   refine one_ (i := 34) (N := some 90) (bl 37 34359738367) rfl rfl (one_of HT_.out (by kernel_rfl)) (by decide) (fun K hK => ?_)
                   refine Kd.R_append_step Kd.bool (w0 := w) w.heap.size (by rfl) (.tmp 57) (.tmp 89) 22 4 (.bool false) 1 rfl Try.underlying22 info4 rfl (by decide) (by omega) u426000 x426000_2 false [.bool false] (fun _ => True) (fun _ => False) rfl rfl ?aP (fun _ hk => hk.elim) ?aF ?aO ?aB ?aS ?aL ?_
                   (case aP => exact rfl)
                   (case aB => exact (by repeat (first | (with_reducible first | exact HB.out | apply below_alloc | apply pw_below_drewN | apply below_drew1 | refine below_set ?_ GE422.out | refine below_set ?_ GE423.out | refine below_set ?_ GE424.out | refine below_set ?_ GE425.out) | exact HB.out)))
                   (case aF => exact (fun _ _ => trivial))
                   (case aO => exact (by (with_reducible repeat (first | apply Kd.R_alloc | apply Kd.R_drewN | apply Kd.R_drew)); exact HO_426000.out))
                   (case aS => exact (below_size (by repeat (first | (with_reducible first | exact HB.out | apply below_alloc | apply pw_below_drewN | apply below_drew1 | refine below_set ?_ GE422.out | refine below_set ?_ GE423.out | refine below_set ?_ GE424.out | refine below_set ?_ GE425.out) | exact HB.out))))
                   (case aL => have := LMc108.out; omega)
                   intro v467 w111 ho hb hg hat
                   rw [← Ny466.out] at ho
                   have n0_ := Aside0.mk (Kd.R_over' (by (with_reducible repeat (first | apply Kd.R_alloc | apply Kd.R_drewN | apply Kd.R_drew)); exact HO_11.out) (Kd.R_typed (by (with_reducible repeat (first | apply Kd.R_alloc | apply Kd.R_drewN | apply Kd.R_drew)); exact HO_426000.out)) (by decide) hg)
                   have n1_ := Aside0.mk (Kd.S_over' (by (with_reducible repeat (first | apply Kd.S_alloc | apply Kd.S_drewN | apply Kd.S_drew)); exact HO_426001.out) (Kd.R_typed (by (with_reducible repeat (first | apply Kd.R_alloc | apply Kd.R_drewN | apply Kd.R_drew)); exact HO_426000.out)) (by decide) hg)
                   have n2_ := Aside0.mk (blk_grown (g := gb422) (o := .cells #[.slice (some ad436) l0_0.length c0_0, .slice A0_1 l0_1.length c0_1] 28 (0, 0)) (by (with_reducible repeat (first | refine blk_drewN ?_ _ | refine blk_drew ?_ | refine blk_alloc ?_ _)); exact BK422.out) hg (Kd.R_ne HO_426000.out BK422.out (by decide)))
                   have n3_ := Aside0.mk (blk_grown (g := gb423) (o := .cells #[.slice (some ad458) l1_0.length c1_0, .slice A1_1 l1_1.length c1_1] 28 (0, 0)) (by (with_reducible repeat (first | refine blk_drewN ?_ _ | refine blk_drew ?_ | refine blk_alloc ?_ _)); exact BK423.out) hg (Kd.R_ne HO_426000.out BK423.out (by decide)))
                   have n4_ := Aside0.mk (blk_grown (g := gb424) (o := .cells #[.slice none 0 0, .slice none 0 0] 28 (0, 0)) (by (with_reducible repeat (first | refine blk_drewN ?_ _ | refine blk_drew ?_ | refine blk_alloc ?_ _)); exact BK424.out) hg (Kd.R_ne HO_426000.out BK424.out (by decide)))
                   have n5_ := Aside0.mk (blk_grown (g := gb425) (o := .cells #[u426000, u426001] 28 (0, 0)) (by (with_reducible repeat (first | refine blk_drewN ?_ _ | refine blk_drew ?_ | refine blk_alloc ?_ _)); exact BK425.out) hg (Kd.R_ne HO_426000.out BK425.out (by decide)))
                   have n6_ := Aside0.mk (hb)
                   have n7_ := Aside0.mk (ho)
                   clear HO_11 HO_426001 BK422 BK423 BK424 BK425 HB HO_426000
                   have HO_11 := n0_; have HO_426001 := n1_; have BK422 := n2_; have BK423 := n3_; have BK424 := n4_; have BK425 := n5_; have HB := n6_; have HO468 := n7_
                   clear n0_ n1_ n2_ n3_ n4_ n5_ n6_ n7_ ho hb hg hat
                   obtain ⟨Ao112, co112, eo112⟩ := Kd.R_slice HO468.out
                   (first | subst eo112 | (injection eo112 with f1_ f2_ f3_; have f4_ := f1_.symm; have f5_ := f3_.symm; clear f1_ f2_ f3_; subst f4_; subst f5_))
                   refine hK.out _ _ ⟨(blk_cell BK425.out 0).trans rfl, (blk_cell BK425.out 1).trans rfl, (blk_cell BK422.out 0).trans rfl, (blk_cell BK422.out 1).trans rfl, (blk_cell BK423.out 0).trans rfl, (blk_cell BK423.out 1).trans rfl, ((HB.out.cell (World.block_lt_of_cell? w _ hw436_0)).trans hw436_0), ((HB.out.cell (World.block_lt_of_cell? w _ hw458_0)).trans hw458_0)⟩ (fun hHeld => ?_)
                   clear hK K
                   refine norm_ (a' := ?_) ?_ ?_
                   rotate_left
                   ·show Act.put _ (some 90) _ = _
                    simp only [pn_, sz_, ss_, i64_w, i32_w]
                    rfl
                   refine pure_ (i := 35) (N := some 91) (v := ?_) (a' := ?_) (bl 37 68719476735) rfl rfl (any_of HT_.out (by kernel_rfl)) (fun _ _ _ h => h) (Or.inl ⟨by rfl, ?_⟩) ?_ ?_
                   rotate_left; (focus (intro w'; go_simp; with_reducible rfl)); rotate_left; (focus (simp only [pn_, sz_, ss_, i64_w, i32_w]; rfl))
                   refine last_ (i := 36) (N := none) (bl 37 137438953471) rfl rfl (one_of HT_.out (by kernel_rfl)) (by decide) (fun K hK => ?_)
                   have hs113 : w111.cell? ⟨gb425, 0, none⟩ = some (u426000) := (blk_cell BK425.out 0).trans rfl
                   have hfs113 := blk_frozen BK425.out 0
                   have hns113_0 := NB422_425.out
                   have hns113_1 := NB423_425.out
                   have hns113_2 := NB424_425.out
                   have hms113_0 := NB425_422.out
                   have hms113_1 := NB425_423.out
                   have hms113_2 := NB425_424.out
                   refine skip_ (w1 := ?_) (by rfl) rfl ?_ ?_
                   rotate_left
                   ·go_simp
                    rfl
                   refine hK.out _ _ ?_
                   clear hK K
                   refine done_ (done_of HT_.out (by kernel_rfl)) ?_
                   have n0_ : Aside0 (Kd.R (Kd.int .i64) 3 (w111.setCell ⟨gb425, 0, none⟩ (.slice Ao112 y466.length co112)) w.heap.size (fun _ => True) u11 x11_3) := ⟨by (with_reducible repeat (first | apply Kd.R_alloc | apply Kd.R_drewN | apply Kd.R_drew)); exact Kd.R_mono (Kd.R_far (p := ⟨gb425, 0, none⟩) (Kd.R_types HO_11.out BK425.out (by decide)) (fun _ hk => hk.2) (.slice Ao112 y466.length co112)) (fun _ hk => trivial)⟩
                   have n1_ : Aside0 (Kd.S (Kd.slice 3 (Kd.int .i64)) 54 (w111.setCell ⟨gb425, 0, none⟩ (.slice Ao112 y466.length co112)) w.heap.size (fun k_ => some k_ ≠ (u11 : Value).ownBlock) u426001 x426001_2) := ⟨by (with_reducible repeat (first | apply Kd.S_alloc | apply Kd.S_drewN | apply Kd.S_drew)); exact Kd.S_mono (Kd.S_far (p := ⟨gb425, 0, none⟩) (Kd.S_types HO_426001.out BK425.out (by decide)) (fun _ hk => hk.2) (.slice Ao112 y466.length co112)) (fun _ hk => hk.1)⟩
                   have n2_ : Aside0 (Kd.R Kd.bool 4 (w111.setCell ⟨gb425, 0, none⟩ (.slice Ao112 y466.length co112)) w.heap.size (fun _ => True) (.slice Ao112 y466.length co112) y466) := ⟨by (with_reducible repeat (first | apply Kd.R_alloc | apply Kd.R_drewN | apply Kd.R_drew)); exact Kd.R_mono (Kd.R_far (p := ⟨gb425, 0, none⟩) (Kd.R_types HO468.out BK425.out (by decide)) (fun _ hk => hk.2) (.slice Ao112 y466.length co112)) (fun _ hk => trivial)⟩
                   have n3_ : Aside0 ((w111.setCell ⟨gb425, 0, none⟩ (.slice Ao112 y466.length co112)).heap[gb422]? = some (.cells #[.slice (some ad436) l0_0.length c0_0, .slice A0_1 l0_1.length c0_1] 28 (0, 0))) := ⟨by (with_reducible repeat (first | refine blk_drewN ?_ _ | refine blk_drew ?_ | refine blk_alloc ?_ _)); refine blk_far ?_ NB422_425.out _; (with_reducible repeat (first | refine blk_drewN ?_ _ | refine blk_drew ?_ | refine blk_alloc ?_ _)); exact BK422.out⟩
                   have n4_ : Aside0 ((w111.setCell ⟨gb425, 0, none⟩ (.slice Ao112 y466.length co112)).heap[gb423]? = some (.cells #[.slice (some ad458) l1_0.length c1_0, .slice A1_1 l1_1.length c1_1] 28 (0, 0))) := ⟨by (with_reducible repeat (first | refine blk_drewN ?_ _ | refine blk_drew ?_ | refine blk_alloc ?_ _)); refine blk_far ?_ NB423_425.out _; (with_reducible repeat (first | refine blk_drewN ?_ _ | refine blk_drew ?_ | refine blk_alloc ?_ _)); exact BK423.out⟩
                   have n5_ : Aside0 ((w111.setCell ⟨gb425, 0, none⟩ (.slice Ao112 y466.length co112)).heap[gb424]? = some (.cells #[.slice none 0 0, .slice none 0 0] 28 (0, 0))) := ⟨by (with_reducible repeat (first | refine blk_drewN ?_ _ | refine blk_drew ?_ | refine blk_alloc ?_ _)); refine blk_far ?_ NB424_425.out _; (with_reducible repeat (first | refine blk_drewN ?_ _ | refine blk_drew ?_ | refine blk_alloc ?_ _)); exact BK424.out⟩
                   have n6_ : Aside0 ((w111.setCell ⟨gb425, 0, none⟩ (.slice Ao112 y466.length co112)).heap[gb425]? = some (.cells #[.slice Ao112 y466.length co112, u426001] 28 (0, 0))) := ⟨by (with_reducible repeat (first | refine blk_drewN ?_ _ | refine blk_drew ?_ | refine blk_alloc ?_ _)); refine blk_put (cs := #[u426000, u426001]) ?_ 0 _ rfl; (with_reducible repeat (first | refine blk_drewN ?_ _ | refine blk_drew ?_ | refine blk_alloc ?_ _)); exact BK425.out⟩
                   have n7_ : Aside0 (Below w.heap.size w (w111.setCell ⟨gb425, 0, none⟩ (.slice Ao112 y466.length co112))) := ⟨by repeat (first | (with_reducible first | exact HB.out | apply below_alloc | apply pw_below_drewN | apply below_drew1 | refine below_set ?_ GE422.out | refine below_set ?_ GE423.out | refine below_set ?_ GE424.out | refine below_set ?_ GE425.out) | exact HB.out)⟩
                   (try clear HO_11)
                   (try clear HO_426001)
                   (try clear HO468)
                   (try clear BK422)
                   (try clear BK423)
                   (try clear BK424)
                   (try clear BK425)
                   (try clear HB)
                   generalize (w111.setCell ⟨gb425, 0, none⟩ (.slice Ao112 y466.length co112)) = w114 at n0_ n1_ n2_ n3_ n4_ n5_ n6_ n7_ ⊢
                   have HO_11 := n0_; have HO_426001 := n1_; have HO468 := n2_; have BK422 := n3_; have BK423 := n4_; have BK424 := n5_; have BK425 := n6_; have HB := n7_
                   clear n0_ n1_ n2_ n3_ n4_ n5_ n6_ n7_
                   have hnb115 := NB425_422.out
                   have hnc115 := NB422_425.out
                   have hnb116 := NB425_423.out
                   have hnc116 := NB423_425.out
                   have hnb117 := NB425_424.out
                   have hnc117 := NB424_425.out
                   have hcz118_0 : w114.cell? ⟨gb425, 0, none⟩ = some (.slice Ao112 y466.length co112) := (blk_cell BK425.out 0).trans rfl
                   have hcz118_1 : w114.cell? ⟨gb425, 1, none⟩ = some (u426001) := (blk_cell BK425.out 1).trans rfl
                   have hfz118_0 := blk_frozen BK425.out 0
                   have hfz118_1 := blk_frozen BK425.out 1
                   obtain ⟨Ao120, co120, eo120⟩ := Kd.R_slice HO_11.out
                   subst eo120
                   try go_wp2_with (first | ((with_reducible refine gate_builtin (b := .append) (xs := #[.tmp 93, .tmp 95]) rfl ?_); at_builtin; refine Kd.S_append (Kd.slice 3 (Kd.int .i64)) (w0 := w) w.heap.size rfl (.tmp 93) (.tmp 95) 23 54 (.slice none 0 0) 24 rfl Try.underlying23 info54 rfl (by decide) (by omega) u426001 x426001_2 x11_3 [.slice Ao120 x11_3.length co120] (fun _ => True) (fun k_ => some k_ = (.slice Ao120 x11_3.length co120 : Value).ownBlock) rfl rfl ?aP (fun k_ hk_ => ((Kd.R_mono (ok' := fun k_ => ((fun _ => True)) k_ ∧ some k_ ≠ (u426001 : Value).ownBlock) (Kd.R_apart' (HO_11.out) (Kd.S_typed HO_426001.out) (by decide)) (fun k_ hk => ⟨trivial, hk.2⟩))).1 k_ hk_.symm) ?aF ?aO ?aB ?aS ?aL ?_; (case aP => exact Kd.M_row (Kd.R_mono (Kd.R_tight rfl (Kd.R_mono (ok' := fun k_ => ((fun _ => True)) k_ ∧ some k_ ≠ (u426001 : Value).ownBlock) (Kd.R_apart' (HO_11.out) (Kd.S_typed HO_426001.out) (by decide)) (fun k_ hk => ⟨trivial, hk.2⟩))) (fun _ h_ => h_))); (case aB => exact (by repeat (first | (with_reducible first | exact HB.out | apply below_alloc | apply pw_below_drewN | apply below_drew1 | refine below_set ?_ GE422.out | refine below_set ?_ GE423.out | refine below_set ?_ GE424.out | refine below_set ?_ GE425.out) | exact HB.out))); (case aF => exact (fun _ _ => trivial)); (case aO => exact (by (with_reducible repeat (first | apply Kd.S_alloc | apply Kd.S_drewN | apply Kd.S_drew)); exact Kd.S_mono HO_426001.out (fun k_ hk => ⟨trivial, fun e_ => hk e_⟩))); (case aS => exact (below_size (by repeat (first | (with_reducible first | exact HB.out | apply below_alloc | apply pw_below_drewN | apply below_drew1 | refine below_set ?_ GE422.out | refine below_set ?_ GE423.out | refine below_set ?_ GE424.out | refine below_set ?_ GE425.out) | exact HB.out)))); (case aL => have := LMc109.out; omega); intro v470 w119 ho hb hg hat; rw [← Ny469.out] at ho; have n0_ := Aside0.mk (blk_grown (g := gb422) (o := .cells #[.slice (some ad436) l0_0.length c0_0, .slice A0_1 l0_1.length c0_1] 28 (0, 0)) (by (with_reducible repeat (first | refine blk_drewN ?_ _ | refine blk_drew ?_ | refine blk_alloc ?_ _)); exact BK422.out) hg (Kd.S_ne HO_426001.out BK422.out (by decide))); have n1_ := Aside0.mk (blk_grown (g := gb423) (o := .cells #[.slice (some ad458) l1_0.length c1_0, .slice A1_1 l1_1.length c1_1] 28 (0, 0)) (by (with_reducible repeat (first | refine blk_drewN ?_ _ | refine blk_drew ?_ | refine blk_alloc ?_ _)); exact BK423.out) hg (Kd.S_ne HO_426001.out BK423.out (by decide))); have n2_ := Aside0.mk (blk_grown (g := gb424) (o := .cells #[.slice none 0 0, .slice none 0 0] 28 (0, 0)) (by (with_reducible repeat (first | refine blk_drewN ?_ _ | refine blk_drew ?_ | refine blk_alloc ?_ _)); exact BK424.out) hg (Kd.S_ne HO_426001.out BK424.out (by decide))); have n3_ := Aside0.mk (blk_grown (g := gb425) (o := .cells #[.slice Ao112 y466.length co112, u426001] 28 (0, 0)) (by (with_reducible repeat (first | refine blk_drewN ?_ _ | refine blk_drew ?_ | refine blk_alloc ?_ _)); exact BK425.out) hg (Kd.S_ne HO_426001.out BK425.out (by decide))); have n4_ := Aside0.mk (Kd.R_over' (by (with_reducible repeat (first | apply Kd.R_alloc | apply Kd.R_drewN | apply Kd.R_drew)); exact HO468.out) (Kd.S_typed (by (with_reducible repeat (first | apply Kd.S_alloc | apply Kd.S_drewN | apply Kd.S_drew)); exact HO_426001.out)) (by decide) hg); have n5_ := Aside0.mk (hb); have n6_ := Aside0.mk (ho); clear BK422; clear BK423; clear BK424; clear BK425; clear HO468; clear HB; clear HO_426001; clear HO_11; have BK422 := n0_; have BK423 := n1_; have BK424 := n2_; have BK425 := n3_; have HO468 := n4_; have HB := n5_; have HO471 := n6_; clear n0_ n1_ n2_ n3_ n4_ n5_ n6_; clear ho hb hg hat; obtain ⟨Ao121, co121, eo121⟩ := Kd.S_slice HO471.out; subst eo121; have hcz122_0 : w119.cell? ⟨gb425, 0, none⟩ = some (.slice Ao112 y466.length co112) := (blk_cell BK425.out 0).trans rfl; have hcz122_1 : w119.cell? ⟨gb425, 1, none⟩ = some (u426001) := (blk_cell BK425.out 1).trans rfl; have hfz122_0 := blk_frozen BK425.out 0; have hfz122_1 := blk_frozen BK425.out 1))
                   go_roundg k3
                   case measure => have := HK1.out; have := HK2.out; have := HK3.out; omega
                   case rel => exact ⟨(wrap64 (x10_2 + 1)), (y466), (y469), (.slice Ao112 y466.length co112), (.slice Ao121 y469.length co121), (by first | rfl | (simp; done) | (simp [*]; done)), H', ⟨by have := HK1.out; have := HK2.out; have := HK3.out; omega⟩, ⟨by (with_reducible repeat (first | apply Kd.R_alloc | apply Kd.R_drewN | apply Kd.R_drew)); exact Kd.R_mono (Kd.R_far (p := ⟨gb425, 1, none⟩) (Kd.R_types HO468.out BK425.out (by decide)) (fun _ hk => hk.2) (.slice Ao121 y469.length co121)) (fun _ hk => trivial)⟩, ⟨by (with_reducible repeat (first | apply Kd.S_alloc | apply Kd.S_drewN | apply Kd.S_drew)); exact Kd.S_mono (Kd.S_far (p := ⟨gb425, 1, none⟩) (Kd.S_types HO471.out BK425.out (by decide)) (fun _ hk => hk.2) (.slice Ao121 y469.length co121)) (fun _ hk => trivial)⟩, ⟨by (with_reducible repeat (first | refine blk_drewN ?_ _ | refine blk_drew ?_ | refine blk_alloc ?_ _)); refine blk_far ?_ NB422_425.out _; (with_reducible repeat (first | refine blk_drewN ?_ _ | refine blk_drew ?_ | refine blk_alloc ?_ _)); exact BK422.out⟩, ⟨by (with_reducible repeat (first | refine blk_drewN ?_ _ | refine blk_drew ?_ | refine blk_alloc ?_ _)); refine blk_far ?_ NB423_425.out _; (with_reducible repeat (first | refine blk_drewN ?_ _ | refine blk_drew ?_ | refine blk_alloc ?_ _)); exact BK423.out⟩, ⟨by (with_reducible repeat (first | refine blk_drewN ?_ _ | refine blk_drew ?_ | refine blk_alloc ?_ _)); refine blk_far ?_ NB424_425.out _; (with_reducible repeat (first | refine blk_drewN ?_ _ | refine blk_drew ?_ | refine blk_alloc ?_ _)); exact BK424.out⟩, ⟨by (with_reducible repeat (first | refine blk_drewN ?_ _ | refine blk_drew ?_ | refine blk_alloc ?_ _)); refine blk_put (cs := #[.slice Ao112 y466.length co112, u426001]) ?_ 1 _ rfl; (with_reducible repeat (first | refine blk_drewN ?_ _ | refine blk_drew ?_ | refine blk_alloc ?_ _)); exact BK425.out⟩, ⟨by repeat (first | (with_reducible first | exact HB.out | apply below_alloc | apply pw_below_drewN | apply below_drew1 | refine below_set ?_ GE422.out | refine below_set ?_ GE423.out | refine below_set ?_ GE424.out | refine below_set ?_ GE425.out) | exact HB.out)⟩⟩
                  ·rw [if_neg c109] at H
                   exact absurd H (by simp)
                 ·rw [if_neg c108] at H
                  exact absurd H (by simp)
               ·rw [if_neg c90] at H
                exact absurd H (by simp)
              ·rw [if_neg c89] at H
               exact absurd H (by simp)
             ·replace c88 := Bool.eq_false_iff.mpr c88
              subst c88
              have H1 : (if x426000_2.length < 140737488355328 then (if x426001_2.length < 5864062014805 then (spec_l7Pairs.l1 k3 false (l1_0.length : Int) x9_1 (wrap64 (x10_2 + 1)) l0_0 l0_1 l1_0 l1_1 (x426000_2 ++ [false]) (x426001_2 ++ [x11_3])) else (none)) else (none)) = some (r1, r2) := by rw [if_neg (show ¬ (false = true) by decide)] at H; exact H
              clear H
              have H := H1
              clear H1
              by_cases c123 : x426000_2.length < 140737488355328
              ·rw [if_pos c123] at H
               have LMc123 := Aside0.mk c123
               clear c123
               obtain ⟨y472, hy472⟩ : ∃ y_ : List Bool, y_ = (x426000_2 ++ [false]) := ⟨_, rfl⟩
               replace H : (if x426001_2.length < 5864062014805 then (spec_l7Pairs.l1 k3 false (l1_0.length : Int) x9_1 (wrap64 (x10_2 + 1)) l0_0 l0_1 l1_0 l1_1 y472 (x426001_2 ++ [x11_3])) else (none)) = some (r1, r2) := by first | (rw [hy472]; with_reducible exact H) | (have H2_ := (Option.bind_some _ _).symm.trans H; rw [hy472]; with_reducible exact H2_) | (have H2_ := (Option.bind_some _ _).symm.trans H; with_reducible exact H2_) | with_reducible exact H | (rw [hy472]; exact H) | exact H
               have Ny472 := Aside0.mk hy472
               clear hy472
               by_cases c124 : x426001_2.length < 5864062014805
               ·rw [if_pos c124] at H
                have LMc124 := Aside0.mk c124
                clear c124
                obtain ⟨y475, hy475⟩ : ∃ y_ : List (List Int), y_ = (x426001_2 ++ [x11_3]) := ⟨_, rfl⟩
                replace H : (spec_l7Pairs.l1 k3 false (l1_0.length : Int) x9_1 (wrap64 (x10_2 + 1)) l0_0 l0_1 l1_0 l1_1 y472 y475) = some (r1, r2) := by first | (rw [hy475]; with_reducible exact H) | (have H2_ := (Option.bind_some _ _).symm.trans H; rw [hy475]; with_reducible exact H2_) | (have H2_ := (Option.bind_some _ _).symm.trans H; with_reducible exact H2_) | with_reducible exact H | (rw [hy475]; exact H) | exact H
                have Ny475 := Aside0.mk hy475
                clear hy475
                have H' := Aside0.mk H
                clear H
                try go_wp2
                have n0_ := Aside0.mk (Kd.R_drew HO_11.out)
                have n1_ := Aside0.mk (Kd.R_drew HO_426000.out)
                have n2_ := Aside0.mk (Kd.S_drew HO_426001.out)
                have n3_ := Aside0.mk (blk_drew BK422.out)
                have n4_ := Aside0.mk (blk_drew BK423.out)
                have n5_ := Aside0.mk (blk_drew BK424.out)
                have n6_ := Aside0.mk (blk_drew BK425.out)
                have n7_ := Aside0.mk (below_drew1 HB.out)
                clear HO_11 HO_426000 HO_426001 BK422 BK423 BK424 BK425 HB
                have HO_11 := n0_; have HO_426000 := n1_; have HO_426001 := n2_; have BK422 := n3_; have BK423 := n4_; have BK424 := n5_; have BK425 := n6_; have HB := n7_
                clear n0_ n1_ n2_ n3_ n4_ n5_ n6_ n7_
                have p436 : 0 ≤ (x9_1 : Int) := of_decide_eq_true (by first | (with_reducible assumption) | assumption)
                have q436 : x9_1 < (l0_0.length : Int) := of_decide_eq_true (by first | (with_reducible assumption) | assumption)
                obtain ⟨ad436, e436, hx436_0⟩ := Kd.at_bool HR0_0.out x9_1 p436 q436
                have hw436_0 := hx436_0
                (try rw [← Nbq36.out] at hx436_0)
                (try rw [← Nbq36.out] at hw436_0)
                cases e436
                replace hx436_0 := (HB.out.cell (World.block_lt_of_cell? w _ hx436_0)).trans hx436_0
                replace p436 := eq_true p436
                replace q436 := eq_true q436
                refine start_ (n := 37) (S := fun w' => w'.cell? ⟨gb425, 0, none⟩ = some (u426000) ∧ w'.cell? ⟨gb425, 1, none⟩ = some (u426001) ∧ w'.cell? ⟨gb422, 0, none⟩ = some (.slice (some ad436) l0_0.length c0_0) ∧ w'.cell? ⟨gb422, 1, none⟩ = some (.slice A0_1 l0_1.length c0_1) ∧ w'.cell? (ad436.add (x9_1).toNat) = some (.bool false)) (ds := [36]) (bl 37 0) (by kernel_rfl) rfl rfl ⟨(blk_cell BK425.out 0).trans rfl, (blk_cell BK425.out 1).trans rfl, (blk_cell BK422.out 0).trans rfl, (blk_cell BK422.out 1).trans rfl, ((HB.out.cell (World.block_lt_of_cell? w _ hw436_0)).trans hw436_0)⟩ (fun hHeld => ?_); refine with_tabW spec_l7Pairs.tab14 spec_l7Pairs.bits14 (fun HT_ HW_ => ?_)
                generalize wr.drew = w125 at HO_11 HO_426000 HO_426001 BK422 BK423 BK424 BK425 HB hx436_0 hHeld ⊢
                refine pure_ (i := 0) (N := some 56) (v := ?_) (a' := ?_) (bl 37 1) rfl rfl (any_of HT_.out (by kernel_rfl)) (fun _ _ _ h => h) (Or.inl ⟨by rfl, ?_⟩) ?_ ?_
                rotate_left; (focus (intro w'; go_simp; with_reducible rfl)); rotate_left; (focus (simp only [pn_, sz_, ss_, i64_w, i32_w]; rfl))
                refine pure_ (i := 2) (N := some 58) (v := ?_) (a' := ?_) (bl 37 5) rfl rfl (any_of HT_.out (by kernel_rfl)) (fun _ _ _ h => h) (Or.inl ⟨by rfl, ?_⟩) ?_ ?_
                rotate_left; (focus (intro w'; go_simp; with_reducible rfl)); rotate_left; (focus (simp only [pn_, sz_, ss_, i64_w, i32_w]; rfl))
                refine pure_ (i := 4) (N := some 60) (v := ?_) (a' := ?_) (bl 37 21) rfl rfl (any_of HT_.out (by kernel_rfl)) (fun _ _ _ h => h) (Or.inl ⟨by rfl, ?_⟩) ?_ ?_
                rotate_left; (focus (intro w'; go_simp; with_reducible rfl)); rotate_left; (focus (simp only [pn_, sz_, ss_, i64_w, i32_w]; rfl))
                refine take_ (i := 1) (N := some 57) (v := ?_) (a' := ?_) (bl 37 23) rfl rfl (take_ofW HT_.out HW_.out (by kernel_rfl)) (fun _ _ _ h => h) (Or.inl ⟨by rfl, ?_⟩) hHeld ?_ ?_
                rotate_left; (focus (rintro w' ⟨s0, s1, s2, s3, s4⟩; go_simp; with_reducible rfl)); rotate_left; (focus (simp only [pn_, sz_, ss_, i64_w, i32_w]; rfl))
                refine take_ (i := 3) (N := some 59) (v := ?_) (a' := ?_) (bl 37 31) rfl rfl (take_ofW HT_.out HW_.out (by kernel_rfl)) (fun _ _ _ h => h) (Or.inl ⟨by rfl, ?_⟩) hHeld ?_ ?_
                rotate_left; (focus (rintro w' ⟨s0, s1, s2, s3, s4⟩; go_simp; with_reducible rfl)); rotate_left; (focus (simp only [pn_, sz_, ss_, i64_w, i32_w]; rfl))
                refine pure_ (i := 5) (N := some 61) (v := ?_) (a' := ?_) (bl 37 63) rfl rfl (any_of HT_.out (by kernel_rfl)) (fun _ _ _ h => h) (Or.inl ⟨by rfl, ?_⟩) ?_ ?_
                rotate_left; (focus (intro w'; go_simp; with_reducible rfl)); rotate_left; (focus (simp only [pn_, sz_, ss_, i64_w, i32_w]; rfl))
                refine take_ (i := 6) (N := some 62) (v := ?_) (a' := ?_) (bl 37 127) rfl rfl (take_ofW HT_.out HW_.out (by kernel_rfl)) (fun _ _ _ h => h) (Or.inl ⟨by rfl, ?_⟩) hHeld ?_ ?_
                rotate_left; (focus (rintro w' ⟨s0, s1, s2, s3, s4⟩; go_simp; with_reducible rfl)); rotate_left; (focus (simp only [pn_, sz_, ss_, i64_w, i32_w]; rfl))
                refine pure_ (i := 7) (N := some 63) (v := ?_) (a' := ?_) (bl 37 255) rfl rfl (any_of HT_.out (by kernel_rfl)) (fun _ _ _ h => h) (Or.inl ⟨by rfl, ?_⟩) ?_ ?_
                rotate_left; (focus (intro w'; go_simp; with_reducible rfl)); rotate_left; (focus (simp only [pn_, sz_, ss_, i64_w, i32_w]; rfl))
                refine pure_ (i := 8) (N := some 64) (v := undef) (a' := ?_) (bl 37 511) rfl rfl (any_of HT_.out (by kernel_rfl)) (fun _ _ _ h => h) (Or.inr ⟨by rfl, rfl⟩) ?_ ?_
                rotate_left
                ·simp only [pn_, sz_, ss_, i64_w, i32_w]
                 rfl
                refine pure_ (i := 9) (N := some 65) (v := undef) (a' := ?_) (bl 37 1023) rfl rfl (any_of HT_.out (by kernel_rfl)) (fun _ _ _ h => h) (Or.inr ⟨by rfl, rfl⟩) ?_ ?_
                rotate_left
                ·simp only [pn_, sz_, ss_, i64_w, i32_w]
                 rfl
                refine pure_ (i := 10) (N := some 66) (v := undef) (a' := ?_) (bl 37 2047) rfl rfl (any_of HT_.out (by kernel_rfl)) (fun _ _ _ h => h) (Or.inr ⟨by rfl, rfl⟩) ?_ ?_
                rotate_left
                ·simp only [pn_, sz_, ss_, i64_w, i32_w]
                 rfl
                refine pure_ (i := 11) (N := some 67) (v := undef) (a' := ?_) (bl 37 4095) rfl rfl (any_of HT_.out (by kernel_rfl)) (fun _ _ _ h => h) (Or.inr ⟨by rfl, rfl⟩) ?_ ?_
                rotate_left
                ·simp only [pn_, sz_, ss_, i64_w, i32_w]
                 rfl
                refine pure_ (i := 12) (N := some 68) (v := undef) (a' := ?_) (bl 37 8191) rfl rfl (any_of HT_.out (by kernel_rfl)) (fun _ _ _ h => h) (Or.inr ⟨by rfl, rfl⟩) ?_ ?_
                rotate_left
                ·simp only [pn_, sz_, ss_, i64_w, i32_w]
                 rfl
                refine pure_ (i := 13) (N := some 69) (v := undef) (a' := ?_) (bl 37 16383) rfl rfl (any_of HT_.out (by kernel_rfl)) (fun _ _ _ h => h) (Or.inr ⟨by rfl, rfl⟩) ?_ ?_
                rotate_left
                ·simp only [pn_, sz_, ss_, i64_w, i32_w]
                 rfl
                refine pure_ (i := 14) (N := some 70) (v := ?_) (a' := ?_) (bl 37 32767) rfl rfl (any_of HT_.out (by kernel_rfl)) (fun _ _ _ h => h) (Or.inl ⟨by rfl, ?_⟩) ?_ ?_
                rotate_left; (focus (intro w'; go_simp; with_reducible rfl)); rotate_left; (focus (simp only [pn_, sz_, ss_, i64_w, i32_w]; rfl))
                refine pure_ (i := 15) (N := some 71) (v := ?_) (a' := ?_) (bl 37 65535) rfl rfl (any_of HT_.out (by kernel_rfl)) (fun _ _ _ h => h) (Or.inl ⟨by rfl, ?_⟩) ?_ ?_
                rotate_left; (focus (intro w'; go_simp; with_reducible rfl)); rotate_left; (focus (simp only [pn_, sz_, ss_, i64_w, i32_w]; rfl))
                refine pure_ (i := 16) (N := some 72) (v := ?_) (a' := ?_) (bl 37 131071) rfl rfl (any_of HT_.out (by kernel_rfl)) (fun _ _ _ h => h) (Or.inl ⟨by rfl, ?_⟩) ?_ ?_
                rotate_left; (focus (intro w'; go_simp; with_reducible rfl)); rotate_left; (focus (simp only [pn_, sz_, ss_, i64_w, i32_w]; rfl))
                refine pure_ (i := 17) (N := some 73) (v := ?_) (a' := ?_) (bl 37 262143) rfl rfl (any_of HT_.out (by kernel_rfl)) (fun _ _ _ h => h) (Or.inl ⟨by rfl, ?_⟩) ?_ ?_
                rotate_left; (focus (intro w'; go_simp; with_reducible rfl)); rotate_left; (focus (simp only [pn_, sz_, ss_, i64_w, i32_w]; rfl))
                refine pure_ (i := 18) (N := some 74) (v := undef) (a' := ?_) (bl 37 524287) rfl rfl (any_of HT_.out (by kernel_rfl)) (fun _ _ _ h => h) (Or.inr ⟨by rfl, rfl⟩) ?_ ?_
                rotate_left
                ·simp only [pn_, sz_, ss_, i64_w, i32_w]
                 rfl
                refine pure_ (i := 19) (N := some 75) (v := undef) (a' := ?_) (bl 37 1048575) rfl rfl (any_of HT_.out (by kernel_rfl)) (fun _ _ _ h => h) (Or.inr ⟨by rfl, rfl⟩) ?_ ?_
                rotate_left
                ·simp only [pn_, sz_, ss_, i64_w, i32_w]
                 rfl
                refine pure_ (i := 20) (N := some 76) (v := undef) (a' := ?_) (bl 37 2097151) rfl rfl (any_of HT_.out (by kernel_rfl)) (fun _ _ _ h => h) (Or.inr ⟨by rfl, rfl⟩) ?_ ?_
                rotate_left
                ·simp only [pn_, sz_, ss_, i64_w, i32_w]
                 rfl
                refine pure_ (i := 21) (N := some 77) (v := undef) (a' := ?_) (bl 37 4194303) rfl rfl (any_of HT_.out (by kernel_rfl)) (fun _ _ _ h => h) (Or.inr ⟨by rfl, rfl⟩) ?_ ?_
                rotate_left
                ·simp only [pn_, sz_, ss_, i64_w, i32_w]
                 rfl
                refine pure_ (i := 22) (N := some 78) (v := undef) (a' := ?_) (bl 37 8388607) rfl rfl (any_of HT_.out (by kernel_rfl)) (fun _ _ _ h => h) (Or.inr ⟨by rfl, rfl⟩) ?_ ?_
                rotate_left
                ·simp only [pn_, sz_, ss_, i64_w, i32_w]
                 rfl
                refine pure_ (i := 23) (N := some 79) (v := ?_) (a' := ?_) (bl 37 16777215) rfl rfl (any_of HT_.out (by kernel_rfl)) (fun _ _ _ h => h) (Or.inl ⟨by rfl, ?_⟩) ?_ ?_
                rotate_left; (focus (intro w'; go_simp; with_reducible rfl)); rotate_left; (focus (simp only [pn_, sz_, ss_, i64_w, i32_w]; rfl))
                refine pure_ (i := 24) (N := some 80) (v := ?_) (a' := ?_) (bl 37 33554431) rfl rfl (any_of HT_.out (by kernel_rfl)) (fun _ _ _ h => h) (Or.inl ⟨by rfl, ?_⟩) ?_ ?_
                rotate_left; (focus (intro w'; go_simp; with_reducible rfl)); rotate_left; (focus (simp only [pn_, sz_, ss_, i64_w, i32_w]; rfl))
                refine pure_ (i := 25) (N := some 81) (v := undef) (a' := ?_) (bl 37 67108863) rfl rfl (any_of HT_.out (by kernel_rfl)) (fun _ _ _ h => h) (Or.inr ⟨by rfl, rfl⟩) ?_ ?_
                rotate_left
                ·simp only [pn_, sz_, ss_, i64_w, i32_w]
                 rfl
                refine pure_ (i := 26) (N := some 82) (v := undef) (a' := ?_) (bl 37 134217727) rfl rfl (any_of HT_.out (by kernel_rfl)) (fun _ _ _ h => h) (Or.inr ⟨by rfl, rfl⟩) ?_ ?_
                rotate_left
                ·simp only [pn_, sz_, ss_, i64_w, i32_w]
                 rfl
                refine pure_ (i := 27) (N := some 83) (v := undef) (a' := ?_) (bl 37 268435455) rfl rfl (any_of HT_.out (by kernel_rfl)) (fun _ _ _ h => h) (Or.inr ⟨by rfl, rfl⟩) ?_ ?_
                rotate_left
                ·simp only [pn_, sz_, ss_, i64_w, i32_w]
                 rfl
                refine pure_ (i := 28) (N := some 84) (v := undef) (a' := ?_) (bl 37 536870911) rfl rfl (any_of HT_.out (by kernel_rfl)) (fun _ _ _ h => h) (Or.inr ⟨by rfl, rfl⟩) ?_ ?_
                rotate_left
                ·simp only [pn_, sz_, ss_, i64_w, i32_w]
                 rfl
                refine pure_ (i := 29) (N := some 85) (v := undef) (a' := ?_) (bl 37 1073741823) rfl rfl (any_of HT_.out (by kernel_rfl)) (fun _ _ _ h => h) (Or.inr ⟨by rfl, rfl⟩) ?_ ?_
                rotate_left
                ·simp only [pn_, sz_, ss_, i64_w, i32_w]
                 rfl
                refine pure_ (i := 30) (N := some 86) (v := undef) (a' := ?_) (bl 37 2147483647) rfl rfl (any_of HT_.out (by kernel_rfl)) (fun _ _ _ h => h) (Or.inr ⟨by rfl, rfl⟩) ?_ ?_
                rotate_left
                ·simp only [pn_, sz_, ss_, i64_w, i32_w]
                 rfl
                refine pure_ (i := 31) (N := some 87) (v := ?_) (a' := ?_) (bl 37 4294967295) rfl rfl (any_of HT_.out (by kernel_rfl)) (fun _ _ _ h => h) (Or.inl ⟨by rfl, ?_⟩) ?_ ?_
                rotate_left; (focus (intro w'; go_simp; with_reducible rfl)); rotate_left; (focus (simp only [pn_, sz_, ss_, i64_w, i32_w]; rfl))
                refine pure_ (i := 32) (N := some 88) (v := ?_) (a' := ?_) (bl 37 8589934591) rfl rfl (any_of HT_.out (by kernel_rfl)) (fun _ _ _ h => h) (Or.inl ⟨by rfl, ?_⟩) ?_ ?_
                rotate_left; (focus (intro w'; go_simp; with_reducible rfl)); rotate_left; (focus (simp only [pn_, sz_, ss_, i64_w, i32_w]; rfl))
                refine one_ (i := 33) (N := some 89) (bl 37 17179869183) rfl rfl (one_of HT_.out (by kernel_rfl)) (by decide) (fun K hK => ?_)
                refine value_ (w1 := ?_) (v := ?_) (by rfl) rfl ?_ ?_
                rotate_left 2
                ·go_simp
                 constructor
                 ·rfl
                 ·rfl
                refine hK.out _ _ ⟨(blk_cell (blk_alloc BK425.out _) 0).trans rfl, (blk_cell (blk_alloc BK425.out _) 1).trans rfl, (blk_cell (blk_alloc BK422.out _) 0).trans rfl, (blk_cell (blk_alloc BK422.out _) 1).trans rfl, (World.cell?_alloc_lt _ _ _ (World.block_lt_of_cell? _ _ (((HB.out.cell (World.block_lt_of_cell? w _ hw436_0)).trans hw436_0)))).trans (((HB.out.cell (World.block_lt_of_cell? w _ hw436_0)).trans hw436_0))⟩ (fun hHeld => ?_)
                clear hK K
                refine norm_ (a' := ?_) ?_ ?_
                rotate_left
                ·show Act.put _ (some 89) _ = _
                 simp only [pn_, sz_, ss_, i64_w, i32_w]
                 rfl
                refine one_ (i := 34) (N := some 90) (bl 37 34359738367) rfl rfl (one_of HT_.out (by kernel_rfl)) (by decide) (fun K hK => ?_)
                refine Kd.R_append_step Kd.bool (w0 := w) w.heap.size (by rfl) (.tmp 57) (.tmp 89) 22 4 (.bool false) 1 rfl Try.underlying22 info4 rfl (by decide) (by omega) u426000 x426000_2 false [.bool false] (fun _ => True) (fun _ => False) rfl rfl ?aP (fun _ hk => hk.elim) ?aF ?aO ?aB ?aS ?aL ?_
                (case aP => exact rfl)
                (case aB => exact (by repeat (first | (with_reducible first | exact HB.out | apply below_alloc | apply pw_below_drewN | apply below_drew1 | refine below_set ?_ GE422.out | refine below_set ?_ GE423.out | refine below_set ?_ GE424.out | refine below_set ?_ GE425.out) | exact HB.out)))
                (case aF => exact (fun _ _ => trivial))
                (case aO => exact (by (with_reducible repeat (first | apply Kd.R_alloc | apply Kd.R_drewN | apply Kd.R_drew)); exact HO_426000.out))
                (case aS => exact (below_size (by repeat (first | (with_reducible first | exact HB.out | apply below_alloc | apply pw_below_drewN | apply below_drew1 | refine below_set ?_ GE422.out | refine below_set ?_ GE423.out | refine below_set ?_ GE424.out | refine below_set ?_ GE425.out) | exact HB.out))))
                (case aL => have := LMc123.out; omega)
                intro v473 w126 ho hb hg hat
                rw [← Ny472.out] at ho
                have n0_ := Aside0.mk (Kd.R_over' (by (with_reducible repeat (first | apply Kd.R_alloc | apply Kd.R_drewN | apply Kd.R_drew)); exact HO_11.out) (Kd.R_typed (by (with_reducible repeat (first | apply Kd.R_alloc | apply Kd.R_drewN | apply Kd.R_drew)); exact HO_426000.out)) (by decide) hg)
                have n1_ := Aside0.mk (Kd.S_over' (by (with_reducible repeat (first | apply Kd.S_alloc | apply Kd.S_drewN | apply Kd.S_drew)); exact HO_426001.out) (Kd.R_typed (by (with_reducible repeat (first | apply Kd.R_alloc | apply Kd.R_drewN | apply Kd.R_drew)); exact HO_426000.out)) (by decide) hg)
                have n2_ := Aside0.mk (blk_grown (g := gb422) (o := .cells #[.slice (some ad436) l0_0.length c0_0, .slice A0_1 l0_1.length c0_1] 28 (0, 0)) (by (with_reducible repeat (first | refine blk_drewN ?_ _ | refine blk_drew ?_ | refine blk_alloc ?_ _)); exact BK422.out) hg (Kd.R_ne HO_426000.out BK422.out (by decide)))
                have n3_ := Aside0.mk (blk_grown (g := gb423) (o := .cells #[.slice A1_0 l1_0.length c1_0, .slice A1_1 l1_1.length c1_1] 28 (0, 0)) (by (with_reducible repeat (first | refine blk_drewN ?_ _ | refine blk_drew ?_ | refine blk_alloc ?_ _)); exact BK423.out) hg (Kd.R_ne HO_426000.out BK423.out (by decide)))
                have n4_ := Aside0.mk (blk_grown (g := gb424) (o := .cells #[.slice none 0 0, .slice none 0 0] 28 (0, 0)) (by (with_reducible repeat (first | refine blk_drewN ?_ _ | refine blk_drew ?_ | refine blk_alloc ?_ _)); exact BK424.out) hg (Kd.R_ne HO_426000.out BK424.out (by decide)))
                have n5_ := Aside0.mk (blk_grown (g := gb425) (o := .cells #[u426000, u426001] 28 (0, 0)) (by (with_reducible repeat (first | refine blk_drewN ?_ _ | refine blk_drew ?_ | refine blk_alloc ?_ _)); exact BK425.out) hg (Kd.R_ne HO_426000.out BK425.out (by decide)))
                have n6_ := Aside0.mk (hb)
                have n7_ := Aside0.mk (ho)
                clear HO_11 HO_426001 BK422 BK423 BK424 BK425 HB HO_426000
                have HO_11 := n0_; have HO_426001 := n1_; have BK422 := n2_; have BK423 := n3_; have BK424 := n4_; have BK425 := n5_; have HB := n6_; have HO474 := n7_
                clear n0_ n1_ n2_ n3_ n4_ n5_ n6_ n7_ ho hb hg hat
                obtain ⟨Ao127, co127, eo127⟩ := Kd.R_slice HO474.out
                (first | subst eo127 | (injection eo127 with f1_ f2_ f3_; have f4_ := f1_.symm; have f5_ := f3_.symm; clear f1_ f2_ f3_; subst f4_; subst f5_))
                refine hK.out _ _ ⟨(blk_cell BK425.out 0).trans rfl, (blk_cell BK425.out 1).trans rfl, (blk_cell BK422.out 0).trans rfl, (blk_cell BK422.out 1).trans rfl, ((HB.out.cell (World.block_lt_of_cell? w _ hw436_0)).trans hw436_0)⟩ (fun hHeld => ?_)
                clear hK K
                refine norm_ (a' := ?_) ?_ ?_
                rotate_left
                ·show Act.put _ (some 90) _ = _
                 simp only [pn_, sz_, ss_, i64_w, i32_w]
                 rfl
                refine pure_ (i := 35) (N := some 91) (v := ?_) (a' := ?_) (bl 37 68719476735) rfl rfl (any_of HT_.out (by kernel_rfl)) (fun _ _ _ h => h) (Or.inl ⟨by rfl, ?_⟩) ?_ ?_
                rotate_left; (focus (intro w'; go_simp; with_reducible rfl)); rotate_left; (focus (simp only [pn_, sz_, ss_, i64_w, i32_w]; rfl))
                refine last_ (i := 36) (N := none) (bl 37 137438953471) rfl rfl (one_of HT_.out (by kernel_rfl)) (by decide) (fun K hK => ?_)
                have hs128 : w126.cell? ⟨gb425, 0, none⟩ = some (u426000) := (blk_cell BK425.out 0).trans rfl
                have hfs128 := blk_frozen BK425.out 0
                have hns128_0 := NB422_425.out
                have hns128_1 := NB423_425.out
                have hns128_2 := NB424_425.out
                have hms128_0 := NB425_422.out
                have hms128_1 := NB425_423.out
                have hms128_2 := NB425_424.out
                refine skip_ (w1 := ?_) (by rfl) rfl ?_ ?_
                rotate_left
                ·go_simp
                 rfl
                refine hK.out _ _ ?_
                clear hK K
                refine done_ (done_of HT_.out (by kernel_rfl)) ?_
                have n0_ : Aside0 (Kd.R (Kd.int .i64) 3 (w126.setCell ⟨gb425, 0, none⟩ (.slice Ao127 y472.length co127)) w.heap.size (fun _ => True) u11 x11_3) := ⟨by (with_reducible repeat (first | apply Kd.R_alloc | apply Kd.R_drewN | apply Kd.R_drew)); exact Kd.R_mono (Kd.R_far (p := ⟨gb425, 0, none⟩) (Kd.R_types HO_11.out BK425.out (by decide)) (fun _ hk => hk.2) (.slice Ao127 y472.length co127)) (fun _ hk => trivial)⟩
                have n1_ : Aside0 (Kd.S (Kd.slice 3 (Kd.int .i64)) 54 (w126.setCell ⟨gb425, 0, none⟩ (.slice Ao127 y472.length co127)) w.heap.size (fun k_ => some k_ ≠ (u11 : Value).ownBlock) u426001 x426001_2) := ⟨by (with_reducible repeat (first | apply Kd.S_alloc | apply Kd.S_drewN | apply Kd.S_drew)); exact Kd.S_mono (Kd.S_far (p := ⟨gb425, 0, none⟩) (Kd.S_types HO_426001.out BK425.out (by decide)) (fun _ hk => hk.2) (.slice Ao127 y472.length co127)) (fun _ hk => hk.1)⟩
                have n2_ : Aside0 (Kd.R Kd.bool 4 (w126.setCell ⟨gb425, 0, none⟩ (.slice Ao127 y472.length co127)) w.heap.size (fun _ => True) (.slice Ao127 y472.length co127) y472) := ⟨by (with_reducible repeat (first | apply Kd.R_alloc | apply Kd.R_drewN | apply Kd.R_drew)); exact Kd.R_mono (Kd.R_far (p := ⟨gb425, 0, none⟩) (Kd.R_types HO474.out BK425.out (by decide)) (fun _ hk => hk.2) (.slice Ao127 y472.length co127)) (fun _ hk => trivial)⟩
                have n3_ : Aside0 ((w126.setCell ⟨gb425, 0, none⟩ (.slice Ao127 y472.length co127)).heap[gb422]? = some (.cells #[.slice (some ad436) l0_0.length c0_0, .slice A0_1 l0_1.length c0_1] 28 (0, 0))) := ⟨by (with_reducible repeat (first | refine blk_drewN ?_ _ | refine blk_drew ?_ | refine blk_alloc ?_ _)); refine blk_far ?_ NB422_425.out _; (with_reducible repeat (first | refine blk_drewN ?_ _ | refine blk_drew ?_ | refine blk_alloc ?_ _)); exact BK422.out⟩
                have n4_ : Aside0 ((w126.setCell ⟨gb425, 0, none⟩ (.slice Ao127 y472.length co127)).heap[gb423]? = some (.cells #[.slice A1_0 l1_0.length c1_0, .slice A1_1 l1_1.length c1_1] 28 (0, 0))) := ⟨by (with_reducible repeat (first | refine blk_drewN ?_ _ | refine blk_drew ?_ | refine blk_alloc ?_ _)); refine blk_far ?_ NB423_425.out _; (with_reducible repeat (first | refine blk_drewN ?_ _ | refine blk_drew ?_ | refine blk_alloc ?_ _)); exact BK423.out⟩
                have n5_ : Aside0 ((w126.setCell ⟨gb425, 0, none⟩ (.slice Ao127 y472.length co127)).heap[gb424]? = some (.cells #[.slice none 0 0, .slice none 0 0] 28 (0, 0))) := ⟨by (with_reducible repeat (first | refine blk_drewN ?_ _ | refine blk_drew ?_ | refine blk_alloc ?_ _)); refine blk_far ?_ NB424_425.out _; (with_reducible repeat (first | refine blk_drewN ?_ _ | refine blk_drew ?_ | refine blk_alloc ?_ _)); exact BK424.out⟩
                have n6_ : Aside0 ((w126.setCell ⟨gb425, 0, none⟩ (.slice Ao127 y472.length co127)).heap[gb425]? = some (.cells #[.slice Ao127 y472.length co127, u426001] 28 (0, 0))) := ⟨by (with_reducible repeat (first | refine blk_drewN ?_ _ | refine blk_drew ?_ | refine blk_alloc ?_ _)); refine blk_put (cs := #[u426000, u426001]) ?_ 0 _ rfl; (with_reducible repeat (first | refine blk_drewN ?_ _ | refine blk_drew ?_ | refine blk_alloc ?_ _)); exact BK425.out⟩
                have n7_ : Aside0 (Below w.heap.size w (w126.setCell ⟨gb425, 0, none⟩ (.slice Ao127 y472.length co127))) := ⟨by repeat (first | (with_reducible first | exact HB.out | apply below_alloc | apply pw_below_drewN | apply below_drew1 | refine below_set ?_ GE422.out | refine below_set ?_ GE423.out | refine below_set ?_ GE424.out | refine below_set ?_ GE425.out) | exact HB.out)⟩
                (try clear HO_11)
                (try clear HO_426001)
                (try clear HO474)
                (try clear BK422)
                (try clear BK423)
                (try clear BK424)
                (try clear BK425)
                (try clear HB)
                generalize (w126.setCell ⟨gb425, 0, none⟩ (.slice Ao127 y472.length co127)) = w129 at n0_ n1_ n2_ n3_ n4_ n5_ n6_ n7_ ⊢
                have HO_11 := n0_; have HO_426001 := n1_; have HO474 := n2_; have BK422 := n3_; have BK423 := n4_; have BK424 := n5_; have BK425 := n6_; have HB := n7_
                clear n0_ n1_ n2_ n3_ n4_ n5_ n6_ n7_
                have hnb130 := NB425_422.out
                have hnc130 := NB422_425.out
                have hnb131 := NB425_423.out
                have hnc131 := NB423_425.out
                have hnb132 := NB425_424.out
                have hnc132 := NB424_425.out
                have hcz133_0 : w129.cell? ⟨gb425, 0, none⟩ = some (.slice Ao127 y472.length co127) := (blk_cell BK425.out 0).trans rfl
                have hcz133_1 : w129.cell? ⟨gb425, 1, none⟩ = some (u426001) := (blk_cell BK425.out 1).trans rfl
                have hfz133_0 := blk_frozen BK425.out 0
                have hfz133_1 := blk_frozen BK425.out 1
                obtain ⟨Ao135, co135, eo135⟩ := Kd.R_slice HO_11.out
                subst eo135
                try go_wp2_with (first | ((with_reducible refine gate_builtin (b := .append) (xs := #[.tmp 93, .tmp 95]) rfl ?_); at_builtin; refine Kd.S_append (Kd.slice 3 (Kd.int .i64)) (w0 := w) w.heap.size rfl (.tmp 93) (.tmp 95) 23 54 (.slice none 0 0) 24 rfl Try.underlying23 info54 rfl (by decide) (by omega) u426001 x426001_2 x11_3 [.slice Ao135 x11_3.length co135] (fun _ => True) (fun k_ => some k_ = (.slice Ao135 x11_3.length co135 : Value).ownBlock) rfl rfl ?aP (fun k_ hk_ => ((Kd.R_mono (ok' := fun k_ => ((fun _ => True)) k_ ∧ some k_ ≠ (u426001 : Value).ownBlock) (Kd.R_apart' (HO_11.out) (Kd.S_typed HO_426001.out) (by decide)) (fun k_ hk => ⟨trivial, hk.2⟩))).1 k_ hk_.symm) ?aF ?aO ?aB ?aS ?aL ?_; (case aP => exact Kd.M_row (Kd.R_mono (Kd.R_tight rfl (Kd.R_mono (ok' := fun k_ => ((fun _ => True)) k_ ∧ some k_ ≠ (u426001 : Value).ownBlock) (Kd.R_apart' (HO_11.out) (Kd.S_typed HO_426001.out) (by decide)) (fun k_ hk => ⟨trivial, hk.2⟩))) (fun _ h_ => h_))); (case aB => exact (by repeat (first | (with_reducible first | exact HB.out | apply below_alloc | apply pw_below_drewN | apply below_drew1 | refine below_set ?_ GE422.out | refine below_set ?_ GE423.out | refine below_set ?_ GE424.out | refine below_set ?_ GE425.out) | exact HB.out))); (case aF => exact (fun _ _ => trivial)); (case aO => exact (by (with_reducible repeat (first | apply Kd.S_alloc | apply Kd.S_drewN | apply Kd.S_drew)); exact Kd.S_mono HO_426001.out (fun k_ hk => ⟨trivial, fun e_ => hk e_⟩))); (case aS => exact (below_size (by repeat (first | (with_reducible first | exact HB.out | apply below_alloc | apply pw_below_drewN | apply below_drew1 | refine below_set ?_ GE422.out | refine below_set ?_ GE423.out | refine below_set ?_ GE424.out | refine below_set ?_ GE425.out) | exact HB.out)))); (case aL => have := LMc124.out; omega); intro v476 w134 ho hb hg hat; rw [← Ny475.out] at ho; have n0_ := Aside0.mk (blk_grown (g := gb422) (o := .cells #[.slice (some ad436) l0_0.length c0_0, .slice A0_1 l0_1.length c0_1] 28 (0, 0)) (by (with_reducible repeat (first | refine blk_drewN ?_ _ | refine blk_drew ?_ | refine blk_alloc ?_ _)); exact BK422.out) hg (Kd.S_ne HO_426001.out BK422.out (by decide))); have n1_ := Aside0.mk (blk_grown (g := gb423) (o := .cells #[.slice A1_0 l1_0.length c1_0, .slice A1_1 l1_1.length c1_1] 28 (0, 0)) (by (with_reducible repeat (first | refine blk_drewN ?_ _ | refine blk_drew ?_ | refine blk_alloc ?_ _)); exact BK423.out) hg (Kd.S_ne HO_426001.out BK423.out (by decide))); have n2_ := Aside0.mk (blk_grown (g := gb424) (o := .cells #[.slice none 0 0, .slice none 0 0] 28 (0, 0)) (by (with_reducible repeat (first | refine blk_drewN ?_ _ | refine blk_drew ?_ | refine blk_alloc ?_ _)); exact BK424.out) hg (Kd.S_ne HO_426001.out BK424.out (by decide))); have n3_ := Aside0.mk (blk_grown (g := gb425) (o := .cells #[.slice Ao127 y472.length co127, u426001] 28 (0, 0)) (by (with_reducible repeat (first | refine blk_drewN ?_ _ | refine blk_drew ?_ | refine blk_alloc ?_ _)); exact BK425.out) hg (Kd.S_ne HO_426001.out BK425.out (by decide))); have n4_ := Aside0.mk (Kd.R_over' (by (with_reducible repeat (first | apply Kd.R_alloc | apply Kd.R_drewN | apply Kd.R_drew)); exact HO474.out) (Kd.S_typed (by (with_reducible repeat (first | apply Kd.S_alloc | apply Kd.S_drewN | apply Kd.S_drew)); exact HO_426001.out)) (by decide) hg); have n5_ := Aside0.mk (hb); have n6_ := Aside0.mk (ho); clear BK422; clear BK423; clear BK424; clear BK425; clear HO474; clear HB; clear HO_426001; clear HO_11; have BK422 := n0_; have BK423 := n1_; have BK424 := n2_; have BK425 := n3_; have HO474 := n4_; have HB := n5_; have HO477 := n6_; clear n0_ n1_ n2_ n3_ n4_ n5_ n6_; clear ho hb hg hat; obtain ⟨Ao136, co136, eo136⟩ := Kd.S_slice HO477.out; subst eo136; have hcz137_0 : w134.cell? ⟨gb425, 0, none⟩ = some (.slice Ao127 y472.length co127) := (blk_cell BK425.out 0).trans rfl; have hcz137_1 : w134.cell? ⟨gb425, 1, none⟩ = some (u426001) := (blk_cell BK425.out 1).trans rfl; have hfz137_0 := blk_frozen BK425.out 0; have hfz137_1 := blk_frozen BK425.out 1))
                go_roundg k3
                case measure => have := HK1.out; have := HK2.out; have := HK3.out; omega
                case rel => exact ⟨(wrap64 (x10_2 + 1)), (y472), (y475), (.slice Ao127 y472.length co127), (.slice Ao136 y475.length co136), (by first | rfl | (simp; done) | (simp [*]; done)), H', ⟨by have := HK1.out; have := HK2.out; have := HK3.out; omega⟩, ⟨by (with_reducible repeat (first | apply Kd.R_alloc | apply Kd.R_drewN | apply Kd.R_drew)); exact Kd.R_mono (Kd.R_far (p := ⟨gb425, 1, none⟩) (Kd.R_types HO474.out BK425.out (by decide)) (fun _ hk => hk.2) (.slice Ao136 y475.length co136)) (fun _ hk => trivial)⟩, ⟨by (with_reducible repeat (first | apply Kd.S_alloc | apply Kd.S_drewN | apply Kd.S_drew)); exact Kd.S_mono (Kd.S_far (p := ⟨gb425, 1, none⟩) (Kd.S_types HO477.out BK425.out (by decide)) (fun _ hk => hk.2) (.slice Ao136 y475.length co136)) (fun _ hk => trivial)⟩, ⟨by (with_reducible repeat (first | refine blk_drewN ?_ _ | refine blk_drew ?_ | refine blk_alloc ?_ _)); refine blk_far ?_ NB422_425.out _; (with_reducible repeat (first | refine blk_drewN ?_ _ | refine blk_drew ?_ | refine blk_alloc ?_ _)); exact BK422.out⟩, ⟨by (with_reducible repeat (first | refine blk_drewN ?_ _ | refine blk_drew ?_ | refine blk_alloc ?_ _)); refine blk_far ?_ NB423_425.out _; (with_reducible repeat (first | refine blk_drewN ?_ _ | refine blk_drew ?_ | refine blk_alloc ?_ _)); exact BK423.out⟩, ⟨by (with_reducible repeat (first | refine blk_drewN ?_ _ | refine blk_drew ?_ | refine blk_alloc ?_ _)); refine blk_far ?_ NB424_425.out _; (with_reducible repeat (first | refine blk_drewN ?_ _ | refine blk_drew ?_ | refine blk_alloc ?_ _)); exact BK424.out⟩, ⟨by (with_reducible repeat (first | refine blk_drewN ?_ _ | refine blk_drew ?_ | refine blk_alloc ?_ _)); refine blk_put (cs := #[.slice Ao127 y472.length co127, u426001]) ?_ 1 _ rfl; (with_reducible repeat (first | refine blk_drewN ?_ _ | refine blk_drew ?_ | refine blk_alloc ?_ _)); exact BK425.out⟩, ⟨by repeat (first | (with_reducible first | exact HB.out | apply below_alloc | apply pw_below_drewN | apply below_drew1 | refine below_set ?_ GE422.out | refine below_set ?_ GE423.out | refine below_set ?_ GE424.out | refine below_set ?_ GE425.out) | exact HB.out)⟩⟩
               ·rw [if_neg c124] at H
                exact absurd H (by simp)
              ·rw [if_neg c123] at H
               exact absurd H (by simp)
           ·rw [if_neg c35] at H
            exact absurd H (by simp)
          ·rw [if_neg c34] at H
           exact absurd H (by simp)
      ·rw [if_neg c20] at H
       have c20b0 : decide (x10_2 < (l1_0.length : Int)) = false := decide_eq_false c20
       clear c20
       have H' := Aside0.mk H
       clear H
       go_wp2
       go_roundg k2
       case measure => have := HK1.out; have := HK2.out; omega
       case rel => exact ⟨(wrap64 (x9_1 + 1)), (x426000_2), (x426001_2), (u426000), (u426001), (by first | rfl | (simp; done) | (simp [*]; done)), H', ⟨by have := HK1.out; have := HK2.out; omega⟩, ⟨by (with_reducible repeat (first | apply Kd.R_alloc | apply Kd.R_drewN | apply Kd.R_drew)); exact HO_426000.out⟩, ⟨by (with_reducible repeat (first | apply Kd.S_alloc | apply Kd.S_drewN | apply Kd.S_drew)); exact HO_426001.out⟩, ⟨by (with_reducible repeat (first | refine blk_drewN ?_ _ | refine blk_drew ?_ | refine blk_alloc ?_ _)); exact BK422.out⟩, ⟨by (with_reducible repeat (first | refine blk_drewN ?_ _ | refine blk_drew ?_ | refine blk_alloc ?_ _)); exact BK423.out⟩, ⟨by (with_reducible repeat (first | refine blk_drewN ?_ _ | refine blk_drew ?_ | refine blk_alloc ?_ _)); exact BK424.out⟩, ⟨by (with_reducible repeat (first | refine blk_drewN ?_ _ | refine blk_drew ?_ | refine blk_alloc ?_ _)); exact BK425.out⟩, ⟨by repeat (first | (with_reducible first | exact HB.out | apply below_alloc | apply pw_below_drewN | apply below_drew1 | refine below_set ?_ GE422.out | refine below_set ?_ GE423.out | refine below_set ?_ GE424.out | refine below_set ?_ GE425.out) | exact HB.out)⟩⟩
   ·rw [if_neg c15] at H
    have c15b0 : decide (x9_1 < (l0_0.length : Int)) = false := decide_eq_false c15
    clear c15
    simp only [Option.some.injEq, Prod.mk.injEq] at H
    obtain ⟨rfl, rfl⟩ := H
    have hnb138 := NB422_423.out
    have hnc138 := NB423_422.out
    have hnb139 := NB422_424.out
    have hnc139 := NB424_422.out
    have hnb140 := NB422_425.out
    have hnc140 := NB425_422.out
    have hcz141_0 : wr.cell? ⟨gb422, 0, none⟩ = some (.slice A0_0 l0_0.length c0_0) := (blk_cell BK422.out 0).trans rfl
    have hcz141_1 : wr.cell? ⟨gb422, 1, none⟩ = some (.slice A0_1 l0_1.length c0_1) := (blk_cell BK422.out 1).trans rfl
    have hfz141_0 := blk_frozen BK422.out 0
    have hfz141_1 := blk_frozen BK422.out 1
    have hnb142 := NB425_423.out
    have hnc142 := NB423_425.out
    have hnb143 := NB425_424.out
    have hnc143 := NB424_425.out
    have hcz144_0 : wr.cell? ⟨gb425, 0, none⟩ = some (u426000) := (blk_cell BK425.out 0).trans rfl
    have hcz144_1 : wr.cell? ⟨gb425, 1, none⟩ = some (u426001) := (blk_cell BK425.out 1).trans rfl
    have hfz144_0 := blk_frozen BK425.out 0
    have hfz144_1 := blk_frozen BK425.out 1
    obtain ⟨Ao145, co145, eo145⟩ := Kd.R_slice HO_426000.out
    subst eo145
    have hnb146 := NB424_423.out
    have hnc146 := NB423_424.out
    have hcz147_0 : wr.cell? ⟨gb424, 0, none⟩ = some (.slice none 0 0) := (blk_cell BK424.out 0).trans rfl
    have hcz147_1 : wr.cell? ⟨gb424, 1, none⟩ = some (.slice none 0 0) := (blk_cell BK424.out 1).trans rfl
    have hfz147_0 := blk_frozen BK424.out 0
    have hfz147_1 := blk_frozen BK424.out 1
    obtain ⟨Ao148, co148, eo148⟩ := Kd.S_slice HO_426001.out
    subst eo148
    go_wp2
    refine bodyPost_ret (results_cell_row rfl _ _ gb424 28 #[.slice Ao145 x426000_1.length co145, .slice Ao148 x426001_1.length co148] (0, 0) _ rfl (by (with_reducible repeat (first | refine blk_drewN ?_ _ | refine blk_drew ?_ | refine blk_alloc ?_ _)); refine blk_put (cs := #[.slice Ao145 x426000_1.length co145, .slice none 0 0]) ?_ 1 _ rfl; (with_reducible repeat (first | refine blk_drewN ?_ _ | refine blk_drew ?_ | refine blk_alloc ?_ _)); refine blk_put (cs := #[.slice none 0 0, .slice none 0 0]) ?_ 0 _ rfl; (with_reducible repeat (first | refine blk_drewN ?_ _ | refine blk_drew ?_ | refine blk_alloc ?_ _)); exact BK424.out) Try.underlying28 rfl (by kernel_rfl)) rfl ?_
    exact ⟨_, _, by first | rfl | (simp [errW_none, errW_some] <;> rfl) | (simp [*, errW_none, errW_some] <;> rfl), by (with_reducible repeat (first | apply Kd.R_alloc | apply Kd.R_drewN | apply Kd.R_drew)); exact Kd.R_mono (Kd.R_far (p := ⟨gb424, 1, none⟩) (Kd.R_far (p := ⟨gb424, 0, none⟩) (Kd.R_types HO_426000.out BK424.out (by decide)) (fun _ hk => hk.2) (.slice Ao145 x426000_1.length co145)) (fun _ hk => hk.2) (.slice Ao148 x426001_1.length co148)) (fun _ hk => trivial), by (with_reducible repeat (first | apply Kd.S_alloc | apply Kd.S_drewN | apply Kd.S_drew)); exact Kd.S_mono (Kd.S_far (p := ⟨gb424, 1, none⟩) (Kd.S_far (p := ⟨gb424, 0, none⟩) (Kd.S_types HO_426001.out BK424.out (by decide)) (fun _ hk => hk.2) (.slice Ao145 x426000_1.length co145)) (fun _ hk => hk.2) (.slice Ao148 x426001_1.length co148)) (fun _ hk => trivial), by repeat (first | (with_reducible first | exact HB.out | apply below_alloc | apply pw_below_drewN | apply below_drew1 | refine below_set ?_ GE422.out | refine below_set ?_ GE423.out | refine below_set ?_ GE424.out | refine below_set ?_ GE425.out) | exact HB.out)⟩
-- OWNPART

end Go.Proofs.Ytoknogcefajfiaa.P
