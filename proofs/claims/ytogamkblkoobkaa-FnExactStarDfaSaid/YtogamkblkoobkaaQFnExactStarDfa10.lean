/- Texts of the proof of FnExactStarDfa, put together. No condition. -/
import Derived.Test.YtogamkblkoobkaaQFnExactStarDfa2
import Derived.Test.YtogamkblkoobkaaQFnExactStarDfa3
import Derived.Test.YtogamkblkoobkaaQFnExactStarDfa9
import Derived.Test.YtogamkblkoobkaaQFnExactStarDfa8
section
namespace Go.Proofs.Ytogamkblkoobkaa.P
open Go.RowKit Go.Proofs.YtogamkblkoobkaaW.PrintWords Go.Proofs.YtogamkblkoobkaaW.PrintLast Go.Proofs.YtogamkblkoobkaaW.PrintMore
attribute [local go_sem] max2_int min2_int max_two min_two max_three min_three max_four min_four
set_option linter.unusedVariables false
set_option linter.unusedSimpArgs false
mutual
def spec_StarDfa.l0 : Nat → List (S78) → Int → List Bool → List (List Int) → List Bool → List (List Int) → Option (List Bool × (List (List Int)) × Bool)
  | 0, _, _, _, _, _, _ => none
  | k + 1, x4, x6, x489000, x489001, x498000, x498001 => if x6 < (x4.length : Int) then (spec_StarDfa.l1 k x4 x6 (([] : List Int)) 0 x489000 x489001 x498000 x498001) else ((spec_l5Fits.f k x498000 x498001).bind fun bt498 => (some (bt498.1, bt498.2.1, bt498.2.2)))
def spec_StarDfa.l1 : Nat → List (S78) → Int → List Int → Int → List Bool → List (List Int) → List Bool → List (List Int) → Option (List Bool × (List (List Int)) × Bool)
  | 0, _, _, _, _, _, _, _, _ => none
  | k + 1, x4, x6, x7, x8, x489000, x489001, x498000, x498001 => if x8 < 3 then (if 0 ≤ x6 then (if x6 < (x4.length : Int) then ((spec_l6Move.f k x489000 x489001 ((rd_T78 x4 x6).f1) x8).bind fun t525 => ((spec_l6Any.f k x489000 x489001 t525).bind fun t529 => (if t529 = true then ((spec_l6Put.f k t525 0).bind fun t530 => (spec_StarDfa.j2 k x4 x6 x7 x8 x489000 x489001 x498000 x498001 0 t530 false)) else (spec_StarDfa.j2 k x4 x6 x7 x8 x489000 x489001 x498000 x498001 0 t525 false)))) else (none)) else (none)) else (if (x4.length : Int) > 400 then (some (([] : List Bool), ([] : List (List Int)), false)) else (if 0 ≤ x6 then (if x6 < (x4.length : Int) then (if (rd_T78 x4 x6).f2 = true then (if x498000.length < 140737488355328 then (if x498001.length < 5864062014805 then (spec_StarDfa.l0 k x4 (wrap64 (x6 + 1)) x489000 x489001 (x498000 ++ [true]) (x498001 ++ [x7])) else (none)) else (none)) else ((spec_l6Any.f k x489000 x489001 ((rd_T78 x4 x6).f1)).bind fun t517 => (if x498000.length < 140737488355328 then (if x498001.length < 5864062014805 then (spec_StarDfa.l0 k x4 (wrap64 (x6 + 1)) x489000 x489001 (x498000 ++ [t517]) (x498001 ++ [x7])) else (none)) else (none)))) else (none)) else (none)))
def spec_StarDfa.j2 : Nat → List (S78) → Int → List Int → Int → List Bool → List (List Int) → List Bool → List (List Int) → Int → List Int → Bool → Option (List Bool × (List (List Int)) × Bool)
  | 0, _, _, _, _, _, _, _, _, _, _, _ => none
  | k + 1, x4, x6, x7, x8, x489000, x489001, x498000, x498001, x529000, x529001, x529002 => (spec_l6Find.f k x4 x529000 x529001 x529002).bind fun t533 => (if t533 < 0 then (if x4.length < 3518437208883 then ((some (x4 ++ [(⟨x529000, x529001, x529002⟩ : S78)] : List (S78))).bind fun y534 => ((spec_l6Find.f k y534 x529000 x529001 x529002).bind fun t537 => (if x7.length < 17592186044416 then (spec_StarDfa.l1 k y534 x6 (x7 ++ [t537]) (wrap64 (x8 + 1)) x489000 x489001 x498000 x498001) else (none)))) else (none)) else ((spec_l6Find.f k x4 x529000 x529001 x529002).bind fun t541 => (if x7.length < 17592186044416 then (spec_StarDfa.l1 k x4 x6 (x7 ++ [t541]) (wrap64 (x8 + 1)) x489000 x489001 x498000 x498001) else (none))))
end
def spec_StarDfa.f (k : Nat) (l0_0 : List Bool) (l0_1 : List (List Int)) : Option (List Bool × (List (List Int)) × Bool) := (spec_IsValidDfa.f k l0_0 l0_1).bind fun t490 => (if t490 = true then (spec_StarDfa.l0 k (([(⟨0, (([0] : List Int)), true⟩ : S78)] : List (S78))) 0 l0_0 l0_1 ([] : List Bool) ([] : List (List Int))) else (some (([] : List Bool), ([] : List (List Int)), false)))
theorem spec_StarDfa.mono_l : ∀ k, (∀ y0 y1 y2 y3 y4 y5, LeO (spec_StarDfa.l0 k y0 y1 y2 y3 y4 y5) (spec_StarDfa.l0 (k + 1) y0 y1 y2 y3 y4 y5)) ∧ (∀ y0 y1 y2 y3 y4 y5 y6 y7, LeO (spec_StarDfa.l1 k y0 y1 y2 y3 y4 y5 y6 y7) (spec_StarDfa.l1 (k + 1) y0 y1 y2 y3 y4 y5 y6 y7)) ∧ (∀ y0 y1 y2 y3 y4 y5 y6 y7 y8 y9 y10, LeO (spec_StarDfa.j2 k y0 y1 y2 y3 y4 y5 y6 y7 y8 y9 y10) (spec_StarDfa.j2 (k + 1) y0 y1 y2 y3 y4 y5 y6 y7 y8 y9 y10))
 | 0 => ⟨fun _ _ _ _ _ _ r h => by simp [spec_StarDfa.l0] at h, fun _ _ _ _ _ _ _ _ r h => by simp [spec_StarDfa.l1] at h, fun _ _ _ _ _ _ _ _ _ _ _ r h => by simp [spec_StarDfa.j2] at h⟩
 | k + 1 => by
  obtain ⟨ih0, ih1, ih2⟩ := spec_StarDfa.mono_l k
  refine ⟨?_, ?_, ?_⟩
  ·intro y0 y1 y2 y3 y4 y5
   unfold spec_StarDfa.l0
   repeat' first
   | (with_reducible exact ih0 _ _ _ _ _ _)
   | (with_reducible exact ih1 _ _ _ _ _ _ _ _)
   | (with_reducible exact ih2 _ _ _ _ _ _ _ _ _ _ _)
   | (with_reducible exact spec_IsValidDfa.mono _ _ _)
   | (with_reducible exact spec_l5Fits.mono _ _ _)
   | (with_reducible exact spec_l6Any.mono _ _ _ _)
   | (with_reducible exact spec_l6Find.mono _ _ _ _ _)
   | (with_reducible exact spec_l6Move.mono _ _ _ _ _)
   | (with_reducible exact spec_l6Put.mono _ _ _)
   | (with_reducible exact LeO.refl _)
   | (with_reducible exact LeO.none _)
   | (with_reducible refine LeO.ite ?_ ?_)
   | (with_reducible refine LeO.bind ?_ (fun _ => ?_))
   | exact ih0 _ _ _ _ _ _
   | exact ih1 _ _ _ _ _ _ _ _
   | exact ih2 _ _ _ _ _ _ _ _ _ _ _
   | exact spec_IsValidDfa.mono _ _ _
   | exact spec_l5Fits.mono _ _ _
   | exact spec_l6Any.mono _ _ _ _
   | exact spec_l6Find.mono _ _ _ _ _
   | exact spec_l6Move.mono _ _ _ _ _
   | exact spec_l6Put.mono _ _ _
   | exact LeO.none _
   | refine LeO.ite ?_ ?_
   | refine LeO.bind ?_ (fun _ => ?_)
  ·intro y0 y1 y2 y3 y4 y5 y6 y7
   unfold spec_StarDfa.l1
   repeat' first
   | (with_reducible exact ih0 _ _ _ _ _ _)
   | (with_reducible exact ih1 _ _ _ _ _ _ _ _)
   | (with_reducible exact ih2 _ _ _ _ _ _ _ _ _ _ _)
   | (with_reducible exact spec_IsValidDfa.mono _ _ _)
   | (with_reducible exact spec_l5Fits.mono _ _ _)
   | (with_reducible exact spec_l6Any.mono _ _ _ _)
   | (with_reducible exact spec_l6Find.mono _ _ _ _ _)
   | (with_reducible exact spec_l6Move.mono _ _ _ _ _)
   | (with_reducible exact spec_l6Put.mono _ _ _)
   | (with_reducible exact LeO.refl _)
   | (with_reducible exact LeO.none _)
   | (with_reducible refine LeO.ite ?_ ?_)
   | (with_reducible refine LeO.bind ?_ (fun _ => ?_))
   | exact ih0 _ _ _ _ _ _
   | exact ih1 _ _ _ _ _ _ _ _
   | exact ih2 _ _ _ _ _ _ _ _ _ _ _
   | exact spec_IsValidDfa.mono _ _ _
   | exact spec_l5Fits.mono _ _ _
   | exact spec_l6Any.mono _ _ _ _
   | exact spec_l6Find.mono _ _ _ _ _
   | exact spec_l6Move.mono _ _ _ _ _
   | exact spec_l6Put.mono _ _ _
   | exact LeO.none _
   | refine LeO.ite ?_ ?_
   | refine LeO.bind ?_ (fun _ => ?_)
  ·intro y0 y1 y2 y3 y4 y5 y6 y7 y8 y9 y10
   unfold spec_StarDfa.j2
   repeat' first
   | (with_reducible exact ih0 _ _ _ _ _ _)
   | (with_reducible exact ih1 _ _ _ _ _ _ _ _)
   | (with_reducible exact ih2 _ _ _ _ _ _ _ _ _ _ _)
   | (with_reducible exact spec_IsValidDfa.mono _ _ _)
   | (with_reducible exact spec_l5Fits.mono _ _ _)
   | (with_reducible exact spec_l6Any.mono _ _ _ _)
   | (with_reducible exact spec_l6Find.mono _ _ _ _ _)
   | (with_reducible exact spec_l6Move.mono _ _ _ _ _)
   | (with_reducible exact spec_l6Put.mono _ _ _)
   | (with_reducible exact LeO.refl _)
   | (with_reducible exact LeO.none _)
   | (with_reducible refine LeO.ite ?_ ?_)
   | (with_reducible refine LeO.bind ?_ (fun _ => ?_))
   | exact ih0 _ _ _ _ _ _
   | exact ih1 _ _ _ _ _ _ _ _
   | exact ih2 _ _ _ _ _ _ _ _ _ _ _
   | exact spec_IsValidDfa.mono _ _ _
   | exact spec_l5Fits.mono _ _ _
   | exact spec_l6Any.mono _ _ _ _
   | exact spec_l6Find.mono _ _ _ _ _
   | exact spec_l6Move.mono _ _ _ _ _
   | exact spec_l6Put.mono _ _ _
   | exact LeO.none _
   | refine LeO.ite ?_ ?_
   | refine LeO.bind ?_ (fun _ => ?_)
theorem spec_StarDfa.mono : ∀ a0 a1 k, LeO (spec_StarDfa.f k a0 a1) (spec_StarDfa.f (k + 1) a0 a1) := by
 intro a0 a1 k
 obtain ⟨ih0, ih1, ih2⟩ := spec_StarDfa.mono_l k
 unfold spec_StarDfa.f
 repeat' first
   | (with_reducible exact ih0 _ _ _ _ _ _)
   | (with_reducible exact ih1 _ _ _ _ _ _ _ _)
   | (with_reducible exact ih2 _ _ _ _ _ _ _ _ _ _ _)
   | (with_reducible exact spec_IsValidDfa.mono _ _ _)
   | (with_reducible exact spec_l5Fits.mono _ _ _)
   | (with_reducible exact spec_l6Any.mono _ _ _ _)
   | (with_reducible exact spec_l6Find.mono _ _ _ _ _)
   | (with_reducible exact spec_l6Move.mono _ _ _ _ _)
   | (with_reducible exact spec_l6Put.mono _ _ _)
   | (with_reducible exact LeO.refl _)
   | (with_reducible exact LeO.none _)
   | (with_reducible refine LeO.ite ?_ ?_)
   | (with_reducible refine LeO.bind ?_ (fun _ => ?_))
   | exact ih0 _ _ _ _ _ _
   | exact ih1 _ _ _ _ _ _ _ _
   | exact ih2 _ _ _ _ _ _ _ _ _ _ _
   | exact spec_IsValidDfa.mono _ _ _
   | exact spec_l5Fits.mono _ _ _
   | exact spec_l6Any.mono _ _ _ _
   | exact spec_l6Find.mono _ _ _ _ _
   | exact spec_l6Move.mono _ _ _ _ _
   | exact spec_l6Put.mono _ _ _
   | exact LeO.none _
   | refine LeO.ite ?_ ?_
   | refine LeO.bind ?_ (fun _ => ?_)
def spec_StarDfa.T12 : Bool × List (List Nat × List Nat) := (true, [([], []), ([], []), ([], []), ([1, 2], [1, 2]), ([3], [3]), ([4], [4]), ([], []), ([0, 5, 6], [0, 5, 6]), ([7], [7]), ([], []), ([9, 8, 7, 0, 1, 2, 3, 4, 5, 6, 7, 8, 9], [8, 9])])
def spec_StarDfa.B12 : List Nat := [0, 0, 0, 6, 14, 30, 0, 127, 255, 0, 1023]
theorem spec_StarDfa.tab12 : rtab .any (opsOf Try.f25 12) = spec_StarDfa.T12 := by kernel_rfl
theorem spec_StarDfa.bits12 : waitsOk spec_StarDfa.T12.2 spec_StarDfa.B12 = true := by kernel_rfl
def spec_StarDfa.T20 : Bool × List (List Nat × List Nat) := (true, [([], []), ([0], [0]), ([], []), ([], []), ([2, 3], [2, 3]), ([4], [4]), ([5], [5]), ([6], [6]), ([7], [7]), ([7], [7]), ([7], [7]), ([9, 10, 7], [7, 9, 10]), ([11, 7], [7, 11]), ([12, 7], [7, 12]), ([8, 13, 7, 7], [7, 8, 13]), ([7, 14], [7, 14]), ([15], [15]), ([1, 16, 14], [1, 16]), ([0, 1, 2, 3, 4, 5, 6, 7, 8, 9, 10, 11, 12, 13, 14, 15, 16, 17], []), ([18, 17, 17, 0, 1, 2, 3, 4, 5, 6, 7, 8, 9, 10, 11, 12, 13, 14, 15, 16, 17], [17, 18])])
def spec_StarDfa.B20 : List Nat := [0, 1, 0, 0, 12, 28, 60, 124, 252, 252, 252, 1788, 3836, 7932, 16380, 32764, 65532, 131071, 262143, 524287]
theorem spec_StarDfa.tab20 : rtab .any (opsOf Try.f25 20) = spec_StarDfa.T20 := by kernel_rfl
theorem spec_StarDfa.bits20 : waitsOk spec_StarDfa.T20.2 spec_StarDfa.B20 = true := by kernel_rfl
theorem zp27_0_ {p q g1 g2 g3 : Prop} (h : p) (h1 : g1) (h2 : g2) (h3 : g3) (c : p → g1 → g2 → g3 → q := by intro h_ h1_ h2_ h3_; repeat (first | (with_reducible first | exact h_ | apply below_alloc | apply pw_below_drewN | apply below_drew1 | refine below_set ?_ h1_ | refine below_set ?_ h2_ | refine below_set ?_ h3_) | exact h_)) : q := c h h1 h2 h3
theorem zp27_1_ {p q g1 g2 g3 g4 : Prop} (h : p) (h1 : g1) (h2 : g2) (h3 : g3) (h4 : g4) (c : p → g1 → g2 → g3 → g4 → q := by intro h_ h1_ h2_ h3_ h4_; repeat (first | (with_reducible first | exact h_ | apply below_alloc | apply pw_below_drewN | apply below_drew1 | refine below_set ?_ h1_ | refine below_set ?_ h2_ | refine below_set ?_ h3_ | refine below_set ?_ h4_) | exact h_)) : q := c h h1 h2 h3 h4
set_option maxHeartbeats 8000000 in
set_option maxRecDepth 100000 in
theorem spec_StarDfa.calls (k : Nat) (A0_0 : Option Addr) (c0_0 : Nat) (l0_0 : List Bool) (A0_1 : Option Addr) (c0_1 : Nat) (l0_1 : List (List Int)) (r1 : List Bool) (r2 : List (List Int)) (r3 : Bool) (w : World) (hr0_0 : Kd.C Kd.bool w A0_0 l0_0.length l0_0) (hc0_0 : l0_0.length ≤ c0_0) (hr0_1 : Kd.C (Kd.slice 3 (Kd.int .i64)) w A0_1 l0_1.length l0_1) (hc0_1 : l0_1.length ≤ c0_1) (h : spec_StarDfa.f k l0_0 l0_1 = some (r1, r2, r3)) :
  Calls Try.prog 25 #[.agg #[.slice A0_0 l0_0.length c0_0, .slice A0_1 l0_1.length c0_1]] w fun e w' => ∃ v0_ v1_ : Value, e = .returned (.tuple #[.agg #[v0_, v1_], .bool r3]) ∧ Kd.R Kd.bool 4 w' w.heap.size (fun k_ => (w.heap.size ≤ k_)) v0_ r1 ∧ Kd.N (Kd.slice 3 (Kd.int .i64)) 67 w' w.heap.size (fun k_ => (w.heap.size ≤ k_) ∧ some k_ ≠ (v0_ : Value).ownBlock) v1_ r2 ∧ Below w.heap.size w w' := by
 have hu27 := Try.underlying27
 have hu78 := Try.underlying78
 have HR0_0 := am_ hr0_0
 have HC0_0 := am_ hc0_0
 clear hr0_0 hc0_0
 have HR0_1 := am_ hr0_1
 have HC0_1 := am_ hc0_1
 clear hr0_1 hc0_1
 have HB := am_ (Below.refl w.heap.size w)
 have H : ((spec_IsValidDfa.f k l0_0 l0_1).bind fun t490 => (if t490 = true then (spec_StarDfa.l0 k (([(⟨0, (([0] : List Int)), true⟩ : S78)] : List (S78))) 0 l0_0 l0_1 ([] : List Bool) ([] : List (List Int))) else (some (([] : List Bool), ([] : List (List Int)), false)))) = some (r1, r2, r3) := h
 clear h
 replace H := Option.bind_eq_some_iff.mp H
 obtain ⟨t490, A20, H⟩ := H
 have A2 := am_ A20
 clear A20
 by_cases c3 : t490 = true
 ·subst c3
  have H1 : (spec_StarDfa.l0 k (([(⟨0, (([0] : List Int)), true⟩ : S78)] : List (S78))) 0 l0_0 l0_1 ([] : List Bool) ([] : List (List Int))) = some (r1, r2, r3) := by rw [if_pos rfl] at H; exact H
  clear H
  have H := H1
  clear H1
  obtain ⟨y491, hy491⟩ : ∃ y_ : List Int, y_ = (([0] : List Int)) := ⟨_, rfl⟩
  replace H : (spec_StarDfa.l0 k (([(⟨0, y491, true⟩ : S78)] : List (S78))) 0 l0_0 l0_1 ([] : List Bool) ([] : List (List Int))) = some (r1, r2, r3) := by first | (rw [hy491]; with_reducible exact H) | (have H2_ := (Option.bind_some _ _).symm.trans H; rw [hy491]; with_reducible exact H2_) | (have H2_ := (Option.bind_some _ _).symm.trans H; with_reducible exact H2_) | with_reducible exact H | (rw [hy491]; exact H) | exact H
  have Ny491 := am_ hy491
  clear hy491
  obtain ⟨y494, hy494⟩ : ∃ y_ : List (S78), y_ = (([(⟨0, y491, true⟩ : S78)] : List (S78))) := ⟨_, rfl⟩
  replace H : (spec_StarDfa.l0 k y494 0 l0_0 l0_1 ([] : List Bool) ([] : List (List Int))) = some (r1, r2, r3) := by first | (rw [hy494]; with_reducible exact H) | (have H2_ := (Option.bind_some _ _).symm.trans H; rw [hy494]; with_reducible exact H2_) | (have H2_ := (Option.bind_some _ _).symm.trans H; with_reducible exact H2_) | with_reducible exact H | (rw [hy494]; exact H) | exact H
  have Ny494 := am_ hy494
  clear hy494
  have H' := am_ H
  clear H
  go_enter Try.func25, Try.ntmps25
  go_wp2_with (first | ((with_reducible refine gate_dst (N := 1) rfl ?_); refine box_event ?hg (N := 1) ?hd (cs := #[.slice A0_0 l0_0.length c0_0, .slice A0_1 l0_1.length c0_1]) (t := 27) ?hr ?_; (case hd => rfl); (case hg => rfl); (case hr => first | (go_simp; done) | (go_simp; rfl)); intro gb488 hg w4 hbox hb; replace BK488 := am_ (hbox); replace GW488 := am_ ((by rw [hg]; exact (below_size (b0_ HB.out)) : w.heap.size ≤ gb488)); replace GE488 := am_ ((by rw [hg]; exact (below_size (b0_ HB.out)) : w.heap.size ≤ gb488)); replace HB := am_ (below_step (b0_ HB.out) hb); clear hb hbox hg) | ((with_reducible refine gate_dst (N := 2) rfl ?_); refine box_event ?hg (N := 2) ?hd (cs := #[.slice none 0 0, .slice none 0 0]) (t := 27) ?hr ?_; (case hd => rfl); (case hg => rfl); (case hr => first | (go_simp; done) | (go_simp; rfl)); intro gb489 hg w5 hbox hb; have n0_ := am_ (blk_below (rb_ BK488.out) hb); have n1_ := am_ (below_step (b1_ HB.out GE488.out) hb); have n2_ := am_ (hbox); have n3_ := am_ ((by rw [hg]; exact (below_size (b1_ HB.out GE488.out)) : w.heap.size ≤ gb489)); have n4_ := am_ ((by rw [hg]; exact (below_size (b1_ HB.out GE488.out)) : w.heap.size ≤ gb489)); have n5_ := am_ ((by rw [hg]; exact Nat.ne_of_lt (blk_lt (rb_ BK488.out)) : gb488 ≠ gb489)); have n6_ := am_ ((by rw [hg]; exact Nat.ne_of_gt (blk_lt (rb_ BK488.out)) : gb489 ≠ gb488)); clear BK488; clear HB; have BK488 := n0_; have HB := n1_; have BK489 := n2_; have GW489 := n3_; have GE489 := n4_; have NB488_489 := n5_; have NB489_488 := n6_; clear n0_ n1_ n2_ n3_ n4_ n5_ n6_; clear hb hbox hg; have hnb6 := NB488_489.out; have hnc6 := NB489_488.out; have hcz7_0 : w5.cell? ⟨gb488, 0, none⟩ = some (.slice A0_0 l0_0.length c0_0) := (blk_cell BK488.out 0).trans rfl; have hcz7_1 : w5.cell? ⟨gb488, 1, none⟩ = some (.slice A0_1 l0_1.length c0_1) := (blk_cell BK488.out 1).trans rfl; have hfz7_0 := blk_frozen BK488.out 0; have hfz7_1 := blk_frozen BK488.out 1) | ((with_reducible refine gate_callee (f := 35) rfl ?_); refine gL_ (some 13) Try.func35 #[.agg #[.slice A0_0 l0_0.length c0_0, .slice A0_1 l0_1.length c0_1]] ?_; (with_reducible refine (spec_IsValidDfa.calls k _ _ l0_0 _ _ l0_1 true _ ?side1 ?side2 ?side3 ?side4 A2.out).mono ?_); (case side1 => exact rc_ (Kd.C_below HR0_0.out HB.out)); (case side2 => exact HC0_0.out); (case side3 => exact rc_ (Kd.C_below HR0_1.out HB.out)); (case side4 => exact HC0_1.out); rintro e w8 ⟨rfl, hb⟩; refine ⟨_, rfl, ?_⟩; have n0_ := am_ (blk_below (rb_ BK488.out) hb); have n1_ := am_ (blk_below (rb_ BK489.out) hb); have n2_ := am_ (below_step (b2_ HB.out GE488.out GE489.out) hb); clear BK488; clear BK489; clear HB; have BK488 := n0_; have BK489 := n1_; have HB := n2_; clear n0_ n1_ n2_; (try clear hb); (try clear hb2); (try clear hk); (try clear hi)) | ((with_reducible refine gate_dst (N := 16) rfl ?_); refine Kd.R_lit (Kd.int .i64) _ 3 ?hg (N := 16) ?hd (xs := ([0] : List Int)) (inner := [.int .i64 0]) (ok := fun _ => True) (okp := fun _ => True) ?hr ?hp (fun _ hk => hk) trivial (Below.refl _ _) (Nat.le_refl _) (by simp) ?_; (case hd => rfl); (case hg => rfl); (case hr => first | (go_simp; done) | (go_simp; rfl)); (case hp => exact (Reps.one (show Kd.M (Kd.int .i64) _ _ _ 0 [.int .i64 0] from rfl) (Reps.none _ _))); intro v492 w9 ho10 hb hg_ hnew_; clear hg_ hnew_; (first | rw [← Ny491.out] at ho10 | (simp only [Int.reduceToNat] at ho10; rw [← Ny491.out] at ho10)); have n0_ := am_ (Kd.R_lower (Kd.R_newM (M := fun k_ => (w.heap.size ≤ k_)) ho10 (below_size (b2_ HB.out GE488.out GE489.out)) (fun k_ h_ => h_)) (below_size (b2_ HB.out GE488.out GE489.out))); have n1_ := am_ (blk_below (rb_ BK488.out) hb); have n2_ := am_ (blk_below (rb_ BK489.out) hb); have n3_ := am_ (below_step (b2_ HB.out GE488.out GE489.out) hb); clear BK488; clear BK489; clear HB; have HO493 := n0_; have BK488 := n1_; have BK489 := n2_; have HB := n3_; clear n0_ n1_ n2_ n3_; clear hb ho10; obtain ⟨Ao11, co11, eo11⟩ := Kd.R_slice HO493.out; subst eo11) | ((with_reducible refine gate_dst (N := 18) rfl ?_); refine Kd.N_lit k78 _ 78 ?hg (N' := 18) ?hd (xs := ([(⟨0, y491, true⟩ : S78)] : List (S78))) (inner := [.int .i64 0, .slice Ao11 y491.length co11, .bool true]) (ok := (fun k_ => (w.heap.size ≤ k_) ∧ k_ ≠ gb488 ∧ k_ ≠ gb489)) (okp := (fun k_ => (w.heap.size ≤ k_) ∧ k_ ≠ gb488 ∧ k_ ≠ gb489)) ?hr ?hp (fun _ hk => hk) ((show ∀ k_, w9.heap.size ≤ k_ → (fun k_ => (w.heap.size ≤ k_) ∧ k_ ≠ gb488 ∧ k_ ≠ gb489) k_ from fun k_ hk => ⟨(Nat.le_trans (below_size (b2_ HB.out GE488.out GE489.out)) hk), Kd.freshB (g := gb488) (o := .cells #[.slice A0_0 l0_0.length c0_0, .slice A0_1 l0_1.length c0_1] 27 (0, 0)) (rb_ BK488.out) k_ hk, Kd.freshB (g := gb489) (o := .cells #[.slice none 0 0, .slice none 0 0] 27 (0, 0)) (rb_ BK489.out) k_ hk⟩) _ (Nat.le_refl _)) (Below.refl _ _) (Nat.le_refl _) (by simp) ?_; (case hd => rfl); (case hg => rfl); (case hr => first | (go_simp; done) | (go_simp; rfl)); (case hp => exact (Reps.c3 (show Kd.FK k78 _ _ (⟨0, y491, true⟩ : S78) [.int .i64 0, .slice Ao11 y491.length co11, .bool true] from (k78_mkF _ _ (⟨0, y491, true⟩ : S78) (Kd.R_reads' (Kd.R_mono (ok' := (fun k_ => (w.heap.size ≤ k_) ∧ k_ ≠ gb488 ∧ k_ ≠ gb489)) (Kd.R_types (Kd.R_types (HO493.out) BK488.out (by decide)) BK489.out (by decide)) (fun k_ hk => ⟨hk.1.1.1, ⟨hk.1.2, hk.2⟩⟩))).2.1 (Kd.R_F (Kd.R_mono (ok' := (fun k_ => (w.heap.size ≤ k_) ∧ k_ ≠ gb488 ∧ k_ ≠ gb489)) (Kd.R_types (Kd.R_types (HO493.out) BK488.out (by decide)) BK489.out (by decide)) (fun k_ hk => ⟨hk.1.1.1, ⟨hk.1.2, hk.2⟩⟩))))) (Reps.none _ _))); intro v495 w12 ho13 hb hg_ hnew_; clear hg_ hnew_; (first | rw [← Ny494.out] at ho13 | (simp only [Int.reduceToNat] at ho13; rw [← Ny494.out] at ho13)); have n0_ := am_ (Kd.N_lower ho13 (below_size (b2_ HB.out GE488.out GE489.out))); have n1_ := am_ (blk_below (rb_ BK488.out) hb); have n2_ := am_ (blk_below (rb_ BK489.out) hb); have n3_ := am_ (below_step (b2_ HB.out GE488.out GE489.out) hb); clear BK488; clear BK489; clear HB; clear HO493; have HO496 := n0_; have BK488 := n1_; have BK489 := n2_; have HB := n3_; clear n0_ n1_ n2_ n3_; clear hb ho13) | ((with_reducible refine gate_dst (N := 5) rfl ?_); refine box_event ?hg (N := 5) ?hd (cs := #[.slice none 0 0, .slice none 0 0]) (t := 27) ?hr ?_; (case hd => rfl); (case hg => rfl); (case hr => first | (go_simp; done) | (go_simp; rfl)); intro gb497 hg w14 hbox hb; have n0_ := am_ (Kd.N_below (Kd.N_elderB (by (with_reducible repeat (first | apply Kd.N_alloc | apply Kd.N_drewN | apply Kd.N_drew)); exact HO496.out) gb497 (Nat.le_of_eq hg.symm)) hb); have n1_ := am_ (blk_below (rb_ BK488.out) hb); have n2_ := am_ (blk_below (rb_ BK489.out) hb); have n3_ := am_ (below_step (b2_ HB.out GE488.out GE489.out) hb); have n4_ := am_ (hbox); have n5_ := am_ ((by rw [hg]; exact (below_size (b2_ HB.out GE488.out GE489.out)) : w.heap.size ≤ gb497)); have n6_ := am_ ((by rw [hg]; exact (below_size (b2_ HB.out GE488.out GE489.out)) : w.heap.size ≤ gb497)); have n7_ := am_ ((by rw [hg]; exact Nat.ne_of_lt (blk_lt (rb_ BK488.out)) : gb488 ≠ gb497)); have n8_ := am_ ((by rw [hg]; exact Nat.ne_of_gt (blk_lt (rb_ BK488.out)) : gb497 ≠ gb488)); have n9_ := am_ ((by rw [hg]; exact Nat.ne_of_lt (blk_lt (rb_ BK489.out)) : gb489 ≠ gb497)); have n10_ := am_ ((by rw [hg]; exact Nat.ne_of_gt (blk_lt (rb_ BK489.out)) : gb497 ≠ gb489)); clear HO496; clear BK488; clear BK489; clear HB; have HO496 := n0_; have BK488 := n1_; have BK489 := n2_; have HB := n3_; have BK497 := n4_; have GW497 := n5_; have GE497 := n6_; have NB488_497 := n7_; have NB497_488 := n8_; have NB489_497 := n9_; have NB497_489 := n10_; clear n0_ n1_ n2_ n3_ n4_ n5_ n6_ n7_ n8_ n9_ n10_; clear hb hbox hg; have hnb15 := NB497_488.out; have hnc15 := NB488_497.out; have hnb16 := NB497_489.out; have hnc16 := NB489_497.out; have hcz17_0 : w14.cell? ⟨gb497, 0, none⟩ = some (.slice none 0 0) := (blk_cell BK497.out 0).trans rfl; have hcz17_1 : w14.cell? ⟨gb497, 1, none⟩ = some (.slice none 0 0) := (blk_cell BK497.out 1).trans rfl; have hfz17_0 := blk_frozen BK497.out 0; have hfz17_1 := blk_frozen BK497.out 1))
  go_loopg [4, 6] k (fun kq v4 v6 w' => ∃ (x4_1 : List (S78)) (x6_1 : Int) (x498000_1 : List Bool) (x498001_1 : List (List Int)) (u498000 : Value) (u498001 : Value), v6 = .int .i64 x6_1 ∧ Aside0 (spec_StarDfa.l0 kq x4_1 x6_1 l0_0 l0_1 x498000_1 x498001_1 = some (r1, r2, r3)) ∧ Aside0 (kq ≤ k) ∧ Aside0 (Kd.N k78 78 w' w.heap.size (fun k_ => (w.heap.size ≤ k_) ∧ some k_ ≠ (u498000 : Value).ownBlock ∧ some k_ ≠ (u498001 : Value).ownBlock ∧ k_ ≠ gb488 ∧ k_ ≠ gb489 ∧ k_ ≠ gb497) v4 x4_1) ∧ Aside0 (Kd.R Kd.bool 4 w' w.heap.size (fun k_ => (w.heap.size ≤ k_)) u498000 x498000_1) ∧ Aside0 (Kd.N (Kd.slice 3 (Kd.int .i64)) 67 w' w.heap.size (fun k_ => (w.heap.size ≤ k_) ∧ some k_ ≠ (v4 : Value).ownBlock ∧ some k_ ≠ (u498000 : Value).ownBlock ∧ k_ ≠ gb488 ∧ k_ ≠ gb489 ∧ k_ ≠ gb497) u498001 x498001_1) ∧ Aside0 (w'.heap[gb488]? = some (.cells #[(.slice A0_0 l0_0.length c0_0), (.slice A0_1 l0_1.length c0_1)] 27 (0, 0))) ∧ Aside0 (w'.heap[gb489]? = some (.cells #[(.slice none 0 0), (.slice none 0 0)] 27 (0, 0))) ∧ Aside0 (w'.heap[gb497]? = some (.cells #[u498000, u498001] 27 (0, 0))) ∧ Aside0 (Below w.heap.size w w'))
  case atStart => exact ⟨(y494), (0), (([] : List Bool)), (([] : List (List Int))), (.slice none 0 0), (.slice none 0 0), (by first | rfl | (simp; done) | (simp [*]; done)), H', ⟨Nat.le_refl _⟩, ⟨by (with_reducible repeat (first | apply Kd.N_alloc | apply Kd.N_drewN | apply Kd.N_drew)); exact Kd.N_mono (Kd.N_far (p := ⟨gb497, 1, none⟩) (Kd.N_far (p := ⟨gb497, 0, none⟩) (Kd.N_mono HO496.out (fun k_ hk => (⟨hk, hk.2⟩ : _ ∧ k_ ≠ gb497))) (fun _ hk => hk.2) (.slice none 0 0)) (fun _ hk => hk.2) (.slice none 0 0)) (fun _ hk => ⟨hk.1.1.1, ⟨(by simp [Value.ownBlock]), ⟨(by simp [Value.ownBlock]), ⟨hk.1.1.2.1, ⟨hk.1.1.2.2, hk.1.2⟩⟩⟩⟩⟩)⟩, ⟨by first | exact Kd.R_nil _ _ _ _ _ | exact Kd.N_nil _ _ _ _ _ | exact Kd.V_nil _ _ _ _ _ | exact Kd.Q_nil _ _ _ _ _ | exact Kd.S_nil _ _ _ _ _⟩, ⟨by first | exact Kd.S_nil _ _ _ _ _ | exact Kd.N_nil _ _ _ _ _ | exact Kd.V_nil _ _ _ _ _ | exact Kd.Q_nil _ _ _ _ _ | exact Kd.R_nil _ _ _ _ _⟩, ⟨by refine rb_ ?_; refine blk_far ?_ NB488_497.out _; refine rb_ ?_; refine blk_far ?_ NB488_497.out _; refine rb_ ?_; exact BK488.out⟩, ⟨by refine rb_ ?_; refine blk_far ?_ NB489_497.out _; refine rb_ ?_; refine blk_far ?_ NB489_497.out _; refine rb_ ?_; exact BK489.out⟩, ⟨by refine rb_ ?_; refine blk_put (cs := #[.slice none 0 0, .slice none 0 0]) ?_ 1 _ rfl; refine rb_ ?_; refine blk_put (cs := #[.slice none 0 0, .slice none 0 0]) ?_ 0 _ rfl; refine rb_ ?_; exact BK497.out⟩, ⟨by exact zp27_0_ HB.out GE488.out GE489.out GE497.out⟩⟩
  case round =>
   clear H'
   try clear c1
   try clear c2
   try clear p2
   try clear c3
   try clear c6
   try clear c15
   try clear c16
   try clear hcz17_0
   try clear hcz17_1
   try clear hcz7_0
   try clear hcz7_1
   try clear hfz17_0
   try clear hfz17_1
   try clear hfz7_0
   try clear hfz7_1
   obtain ⟨x4_1, x6_1, x498000_1, x498001_1, u498000, u498001, rfl, HA, HK1, HO_4, HO_498000, HO_498001, BK488, BK489, BK497, HB⟩ := hrel
   cases gk with
   | zero => exact absurd HA.out (by simp [spec_StarDfa.l0])
   | succ k1 =>
    have H := HA.out
    clear HA
    simp only [spec_StarDfa.l0] at H
    by_cases c18 : x6_1 < (x4_1.length : Int)
    ·rw [if_pos c18] at H
     have c18b0 : decide (x6_1 < (x4_1.length : Int)) = true := decide_eq_true c18
     clear c18
     obtain ⟨y506, hy506⟩ : ∃ y_ : List Int, y_ = (([] : List Int)) := ⟨_, rfl⟩
     replace H : (spec_StarDfa.l1 k1 x4_1 x6_1 y506 0 l0_0 l0_1 x498000_1 x498001_1) = some (r1, r2, r3) := by first | (rw [hy506]; with_reducible exact H) | (have H2_ := (Option.bind_some _ _).symm.trans H; rw [hy506]; with_reducible exact H2_) | (have H2_ := (Option.bind_some _ _).symm.trans H; with_reducible exact H2_) | with_reducible exact H | (rw [hy506]; exact H) | exact H
     have Ny506 := am_ hy506
     clear hy506
     have H' := am_ H
     clear H
     obtain ⟨Ao19, co19, eo19⟩ := Kd.N_slice HO_4.out
     subst eo19
     go_wp2_with (first | ((with_reducible refine gate_dst (N := 26) rfl ?_); refine Kd.R_lit (Kd.int .i64) _ 3 ?hg (N := 26) ?hd (xs := ([] : List Int)) (inner := []) (ok := fun _ => True) (okp := fun _ => True) ?hr ?hp (fun _ hk => hk) trivial (Below.refl _ _) (Nat.le_refl _) (by simp) ?_; (case hd => rfl); (case hg => rfl); (case hr => first | (go_simp; done) | (go_simp; rfl)); (case hp => exact (Reps.none _ _)); intro v507 w20 ho21 hb hg_ hnew_; clear hg_ hnew_; (first | rw [← Ny506.out] at ho21 | (simp only [Int.reduceToNat] at ho21; rw [← Ny506.out] at ho21)); have n0_ := am_ (Kd.N_elder' (by (with_reducible repeat (first | apply Kd.N_alloc | apply Kd.N_drewN | apply Kd.N_drew)); exact HO_4.out) (Kd.R_base ho21) hb); have n1_ := am_ (Kd.R_below (rr_ HO_498000.out) hb); have n2_ := am_ (Kd.N_elder' (by (with_reducible repeat (first | apply Kd.N_alloc | apply Kd.N_drewN | apply Kd.N_drew)); exact HO_498001.out) (Kd.R_base ho21) hb); have n3_ := am_ (Kd.R_lower (Kd.R_newM (M := fun k_ => (w.heap.size ≤ k_)) ho21 (below_size (b3_ HB.out GE488.out GE489.out GE497.out)) (fun k_ h_ => h_)) (below_size (b3_ HB.out GE488.out GE489.out GE497.out))); have n4_ := am_ (blk_below (rb_ BK488.out) hb); have n5_ := am_ (blk_below (rb_ BK489.out) hb); have n6_ := am_ (blk_below (rb_ BK497.out) hb); have n7_ := am_ (below_step (b3_ HB.out GE488.out GE489.out GE497.out) hb); clear HO_4; clear HO_498000; clear HO_498001; clear BK488; clear BK489; clear BK497; clear HB; have HO_4 := n0_; have HO_498000 := n1_; have HO_498001 := n2_; have HO508 := n3_; have BK488 := n4_; have BK489 := n5_; have BK497 := n6_; have HB := n7_; clear n0_ n1_ n2_ n3_ n4_ n5_ n6_ n7_; clear hb ho21))
     go_loopg [4, 7, 8] k1 (fun kq v4 v7 v8 w' => ∃ (x4_2 : List (S78)) (x7_2 : List Int) (x8_2 : Int), v8 = .int .i64 x8_2 ∧ Aside0 (spec_StarDfa.l1 kq x4_2 x6_1 x7_2 x8_2 l0_0 l0_1 x498000_1 x498001_1 = some (r1, r2, r3)) ∧ Aside0 (kq ≤ k1) ∧ Aside0 (Kd.N k78 78 w' w.heap.size (fun k_ => (w.heap.size ≤ k_) ∧ some k_ ≠ (v7 : Value).ownBlock ∧ some k_ ≠ (u498000 : Value).ownBlock ∧ some k_ ≠ (u498001 : Value).ownBlock ∧ k_ ≠ gb488 ∧ k_ ≠ gb489 ∧ k_ ≠ gb497) v4 x4_2) ∧ Aside0 (Kd.R (Kd.int .i64) 3 w' w.heap.size (fun k_ => (w.heap.size ≤ k_)) v7 x7_2) ∧ Aside0 (Kd.R Kd.bool 4 w' w.heap.size (fun k_ => (w.heap.size ≤ k_)) u498000 x498000_1) ∧ Aside0 (Kd.N (Kd.slice 3 (Kd.int .i64)) 67 w' w.heap.size (fun k_ => (w.heap.size ≤ k_) ∧ some k_ ≠ (v4 : Value).ownBlock ∧ some k_ ≠ (v7 : Value).ownBlock ∧ some k_ ≠ (u498000 : Value).ownBlock ∧ k_ ≠ gb488 ∧ k_ ≠ gb489 ∧ k_ ≠ gb497) u498001 x498001_1) ∧ Aside0 (w'.heap[gb488]? = some (.cells #[(.slice A0_0 l0_0.length c0_0), (.slice A0_1 l0_1.length c0_1)] 27 (0, 0))) ∧ Aside0 (w'.heap[gb489]? = some (.cells #[(.slice none 0 0), (.slice none 0 0)] 27 (0, 0))) ∧ Aside0 (w'.heap[gb497]? = some (.cells #[u498000, u498001] 27 (0, 0))) ∧ Aside0 (Below w.heap.size w w'))
     case atStart => exact ⟨(x4_1), (y506), (0), (by first | rfl | (simp; done) | (simp [*]; done)), H', ⟨Nat.le_refl _⟩, ⟨by (with_reducible repeat (first | apply Kd.N_alloc | apply Kd.N_drewN | apply Kd.N_drew)); exact Kd.N_mono HO_4.out (fun _ hk => ⟨hk.1.1, ⟨hk.2, ⟨hk.1.2.1, ⟨hk.1.2.2.1, ⟨hk.1.2.2.2.1, ⟨hk.1.2.2.2.2.1, hk.1.2.2.2.2.2⟩⟩⟩⟩⟩⟩)⟩, ⟨by refine rr_ ?_; exact Kd.R_mono HO508.out (fun _ hk => hk.1)⟩, ⟨by refine rr_ ?_; exact HO_498000.out⟩, ⟨by (with_reducible repeat (first | apply Kd.N_alloc | apply Kd.N_drewN | apply Kd.N_drew)); exact Kd.N_mono HO_498001.out (fun _ hk => ⟨hk.1.1, ⟨hk.1.2.1, ⟨hk.2, ⟨hk.1.2.2.1, ⟨hk.1.2.2.2.1, ⟨hk.1.2.2.2.2.1, hk.1.2.2.2.2.2⟩⟩⟩⟩⟩⟩)⟩, ⟨by refine rb_ ?_; exact BK488.out⟩, ⟨by refine rb_ ?_; exact BK489.out⟩, ⟨by refine rb_ ?_; exact BK497.out⟩, ⟨by exact zp27_0_ HB.out GE488.out GE489.out GE497.out⟩⟩
     case round =>
      clear H'
      try clear c1
      try clear c2
      try clear p2
      try clear c3
      try clear c6
      try clear c15
      try clear c16
      try clear c18
      try clear c18b0
      try clear hcz17_0
      try clear hcz17_1
      try clear hcz7_0
      try clear hcz7_1
      try clear hfz17_0
      try clear hfz17_1
      try clear hfz7_0
      try clear hfz7_1
      try clear p2
      obtain ⟨x4_2, x7_2, x8_2, rfl, HA, HK2, HO_4, HO_7, HO_498000, HO_498001, BK488, BK489, BK497, HB⟩ := hrel
      cases gk with
      | zero => exact absurd HA.out (by simp [spec_StarDfa.l1])
      | succ k2 =>
       have H := HA.out
       clear HA
       simp only [spec_StarDfa.l1] at H
       by_cases c22 : x8_2 < 3
       ·rw [if_pos c22] at H
        have c22b0 : decide (x8_2 < 3) = true := decide_eq_true c22
        clear c22
        by_cases c23 : 0 ≤ x6_1
        ·rw [if_pos c23] at H
         have c23b0 : decide (0 ≤ x6_1) = true := decide_eq_true c23
         clear c23
         by_cases c24 : x6_1 < (x4_2.length : Int)
         ·rw [if_pos c24] at H
          have c24b0 : decide (x6_1 < (x4_2.length : Int)) = true := decide_eq_true c24
          clear c24
          replace H := Option.bind_eq_some_iff.mp H
          obtain ⟨t525, A250, H⟩ := H
          have A25 := am_ A250
          clear A250
          replace H := Option.bind_eq_some_iff.mp H
          obtain ⟨t529, A260, H⟩ := H
          have A26 := am_ A260
          clear A260
          have HC27 := am_ H
          clear H
          try go_wp2
          replace HO_4 := am_ (Kd.N_drew HO_4.out)
          replace HO_7 := am_ (Kd.R_drew HO_7.out)
          replace HO_498000 := am_ (Kd.R_drew HO_498000.out)
          replace HO_498001 := am_ (Kd.N_drew HO_498001.out)
          replace BK488 := am_ (blk_drew BK488.out)
          replace BK489 := am_ (blk_drew BK489.out)
          replace BK497 := am_ (blk_drew BK497.out)
          replace HB := am_ (below_drew1 HB.out)
          obtain ⟨Ao29, co29, eo29⟩ := Kd.N_slice HO_4.out
          (first | subst eo29 | (injection eo29 with f1_ f2_ f3_; have f4_ := f1_.symm; have f5_ := f3_.symm; clear f1_ f2_ f3_; subst f4_; subst f5_))
          have p524 : 0 ≤ (x6_1 : Int) := of_decide_eq_true ah_
          have q524 : x6_1 < (x4_2.length : Int) := of_decide_eq_true ah_
          obtain ⟨ad524, A524_1, c524_1, e524, hx524_0, hx524_1, hx524_2, hl524_1, hi524_1⟩ := at_T78 (Kd.N_reads' HO_4.out).2.2 x6_1 p524 q524
          cases e524
          obtain ⟨ce524, hce524, hMe524, hcc524⟩ := Kd.N_get HO_4.out z78 x6_1 p524 (by first | exact q524 | exact of_decide_eq_true ah_ | (have e_ := (Kd.N_reads' HO_4.out).1; omega))
          obtain ⟨ua524_1, uc524_1, rfl, ul524_1, ge524_1⟩ := k78_openF hMe524
          have hv524_1 := hcc524 1 _ rfl
          rw [add_field _ _ 1 (by omega)] at hv524_1
          replace hv524_1 := Option.some.inj (hv524_1.symm.trans hx524_1)
          injection hv524_1 with hva_ hvn_ hvc_
          rw [hva_] at ge524_1
          rw [hvc_] at ul524_1
          have HL524_1 := am_ (show Kd.V (Kd.int .i64) 3 _ w.heap.size _ _ ((rd_T78 x4_2 x6_1).f1) from Kd.V_mk ul524_1 ge524_1)
          clear hva_ hvn_ hvc_ ge524_1 ul524_1 hcc524 hce524
          have HR524_1 := am_ hi524_1
          have HC524_1 := am_ hl524_1
          clear hi524_1 hl524_1
          replace p524 := eq_true p524
          replace q524 := eq_true q524
          refine start_ (n := 11) (S := fun w' => w'.cell? ⟨gb488, 0, none⟩ = some (.slice A0_0 l0_0.length c0_0) ∧ w'.cell? ⟨gb488, 1, none⟩ = some (.slice A0_1 l0_1.length c0_1) ∧ w'.cell? (ad524.add ((x6_1).toNat * 3)) = some (.int .i64 ((rd_T78 x4_2 x6_1).f0)) ∧ w'.cell? ⟨(ad524.add ((x6_1).toNat * 3)).block, (ad524.add ((x6_1).toNat * 3)).off + 1, none⟩ = some (.slice A524_1 ((rd_T78 x4_2 x6_1).f1).length c524_1) ∧ w'.cell? ⟨(ad524.add ((x6_1).toNat * 3)).block, (ad524.add ((x6_1).toNat * 3)).off + 2, none⟩ = some (.bool ((rd_T78 x4_2 x6_1).f2))) (ds := []) (bl 11 0) (by kernel_rfl) rfl rfl ⟨(blk_cell BK488.out 0).trans rfl, (blk_cell BK488.out 1).trans rfl, hx524_0, hx524_1, hx524_2⟩ (fun hHeld => ?_); refine with_tabW spec_StarDfa.tab12 spec_StarDfa.bits12 (fun HT_ HW_ => ?_)
          generalize wr.drew = w28 at HO_4 HO_7 HO_498000 HO_498001 BK488 BK489 BK497 HB HL524_1 HR524_1 hx524_0 hx524_1 hx524_2 hHeld ⊢
          refine pu_ 1 32 (bl 11 2) HT_ ?_
          refine pu_ 2 33 (bl 11 6) HT_ ?_
          refine pu_ 3 34 (bl 11 14) HT_ ?_
          refine pu_ 4 35 (bl 11 30) HT_ ?_
          refine pu_ 6 37 (bl 11 94) HT_ ?_
          refine tk_ 0 31 (bl 11 95) HT_ HW_ hHeld ?_
          refine tk_ 5 36 (bl 11 127) HT_ HW_ hHeld ?_
          refine join_ (σ := Value × Nat) 1 (bl 11 1023) (fun s_ => [(38, s_.1), (9, .pointer (some ⟨s_.2, 0, none⟩)), (39, .agg #[.int .i64 0, s_.1, .bool false])]) (fun s_ w' => (w'.cell? ⟨gb488, 0, none⟩ = some (.slice A0_0 l0_0.length c0_0) ∧ w'.cell? ⟨gb488, 1, none⟩ = some (.slice A0_1 l0_1.length c0_1) ∧ w'.cell? (ad524.add ((x6_1).toNat * 3)) = some (.int .i64 ((rd_T78 x4_2 x6_1).f0)) ∧ w'.cell? ⟨(ad524.add ((x6_1).toNat * 3)).block, (ad524.add ((x6_1).toNat * 3)).off + 1, none⟩ = some (.slice A524_1 ((rd_T78 x4_2 x6_1).f1).length c524_1) ∧ w'.cell? ⟨(ad524.add ((x6_1).toNat * 3)).block, (ad524.add ((x6_1).toNat * 3)).off + 2, none⟩ = some (.bool ((rd_T78 x4_2 x6_1).f2))) ∧ (Kd.V (Kd.int .i64) 3 w' w.heap.size (fun k_ => (w.heap.size ≤ k_) ∧ some k_ ≠ (s_.1 : Value).ownBlock ∧ some k_ ≠ (.slice (some ad524) x4_2.length co29 : Value).ownBlock ∧ some k_ ≠ (u498000 : Value).ownBlock ∧ some k_ ≠ (u498001 : Value).ownBlock ∧ some k_ ≠ (u7 : Value).ownBlock ∧ k_ ≠ gb488 ∧ k_ ≠ gb489 ∧ k_ ≠ gb497 ∧ k_ ≠ s_.2) (.slice A524_1 ((rd_T78 x4_2 x6_1).f1).length c524_1) ((rd_T78 x4_2 x6_1).f1)) ∧ (Kd.R (Kd.int .i64) 3 w' w.heap.size (fun k_ => (w.heap.size ≤ k_) ∧ some k_ ≠ (u7 : Value).ownBlock) s_.1 t525) ∧ (Kd.N k78 78 w' w.heap.size (fun k_ => (w.heap.size ≤ k_) ∧ some k_ ≠ (s_.1 : Value).ownBlock ∧ some k_ ≠ (u498000 : Value).ownBlock ∧ some k_ ≠ (u498001 : Value).ownBlock ∧ some k_ ≠ (u7 : Value).ownBlock ∧ k_ ≠ gb488 ∧ k_ ≠ gb489 ∧ k_ ≠ gb497 ∧ k_ ≠ s_.2) (.slice (some ad524) x4_2.length co29) x4_2) ∧ (Kd.R Kd.bool 4 w' w.heap.size (fun k_ => (w.heap.size ≤ k_)) u498000 x498000_1) ∧ (Kd.N (Kd.slice 3 (Kd.int .i64)) 67 w' w.heap.size (fun k_ => (w.heap.size ≤ k_) ∧ some k_ ≠ (s_.1 : Value).ownBlock ∧ some k_ ≠ (.slice (some ad524) x4_2.length co29 : Value).ownBlock ∧ some k_ ≠ (u498000 : Value).ownBlock ∧ some k_ ≠ (u7 : Value).ownBlock ∧ k_ ≠ gb488 ∧ k_ ≠ gb489 ∧ k_ ≠ gb497 ∧ k_ ≠ s_.2) u498001 x498001_1) ∧ (Kd.R (Kd.int .i64) 3 w' w.heap.size (fun k_ => (w.heap.size ≤ k_) ∧ some k_ ≠ (s_.1 : Value).ownBlock) u7 x7_2) ∧ (w'.heap[gb488]? = some (.cells #[.slice A0_0 l0_0.length c0_0, .slice A0_1 l0_1.length c0_1] 27 (0, 0))) ∧ (w'.heap[gb489]? = some (.cells #[.slice none 0 0, .slice none 0 0] 27 (0, 0))) ∧ (w'.heap[gb497]? = some (.cells #[u498000, u498001] 27 (0, 0))) ∧ (w'.heap[s_.2]? = some (.cells #[.int .i64 0, .slice none 0 0, .bool false] 78 (0, 0))) ∧ (w.heap.size ≤ s_.2) ∧ (w.heap.size ≤ s_.2) ∧ (gb488 ≠ s_.2) ∧ (s_.2 ≠ gb488) ∧ (gb489 ≠ s_.2) ∧ (s_.2 ≠ gb489) ∧ (gb497 ≠ s_.2) ∧ (s_.2 ≠ gb497) ∧ (Below w.heap.size w w')) ?_ ?_
          rotate_left
          ·intro hCont
           refine two_ (i := 7) (j := 9) (Ni := some 38) (Nj := some 9) (bl 11 255) (bl 11 639) rfl rfl rfl rfl (two_of HT_.out (by kernel_rfl)) (by decide) (by decide) (fun K hK => ?_) (fun K hK => ?_)
           ·skip
            refine gO_ Try.func73 #[.agg #[.slice A0_0 l0_0.length c0_0, .slice A0_1 l0_1.length c0_1], .slice A524_1 ((rd_T78 x4_2 x6_1).f1).length c524_1, .int .i64 x8_2] ?_
            with_reducible refine (spec_l6Move.calls k2 _ _ l0_0 _ _ l0_1 _ _ ((rd_T78 x4_2 x6_1).f1) x8_2 t525 _ ?side1 ?side2 ?side3 ?side4 ?side5 ?side6 A25.out).mono ?_
            (case side1 => exact rc_ (Kd.C_below HR0_0.out HB.out))
            (case side2 => exact HC0_0.out)
            (case side3 => exact rc_ (Kd.C_below HR0_1.out HB.out))
            (case side4 => exact HC0_1.out)
            (case side5 => exact rc_ (by repeat (first | (with_reducible exact HR524_1.out) | (with_reducible refine Kd.C_alloc ?_ _) | (with_reducible refine Kd.C_drewN ?_ _) | (with_reducible refine Kd.C_drew ?_) | exact HR524_1.out)))
            (case side6 => exact HC524_1.out)
            rintro e w30 ⟨v526, rfl, ho0, hb⟩
            have HS2_ := (hb.cell (World.block_lt_of_cell? _ _ (hHeld.2.2.1))).trans (hHeld.2.2.1)
            have HS3_ := (hb.cell (World.block_lt_of_cell? _ _ (hHeld.2.2.2.1))).trans (hHeld.2.2.2.1)
            have HS4_ := (hb.cell (World.block_lt_of_cell? _ _ (hHeld.2.2.2.2))).trans (hHeld.2.2.2.2)
            refine ⟨_, rfl, ?_⟩
            replace HO_4 := am_ (Kd.N_elder' (by (with_reducible repeat (first | apply Kd.N_alloc | apply Kd.N_drewN | apply Kd.N_drew)); exact HO_4.out) (Kd.R_base ho0) hb)
            replace HO_498000 := am_ (Kd.R_below (rr_ HO_498000.out) hb)
            replace HO_498001 := am_ (Kd.N_elder' (by (with_reducible repeat (first | apply Kd.N_alloc | apply Kd.N_drewN | apply Kd.N_drew)); exact HO_498001.out) (Kd.R_base ho0) hb)
            replace HL524_1 := am_ (Kd.V_elder' (by (with_reducible repeat (first | apply Kd.V_alloc | apply Kd.V_drewN | apply Kd.V_drew)); exact HL524_1.out) (Kd.R_base ho0) hb)
            replace HO527 := am_ (Kd.R_lower (Kd.R_new' (Kd.R_newM (M := fun k_ => (w.heap.size ≤ k_)) ho0 (below_size (b3_ HB.out GE488.out GE489.out GE497.out)) (fun k_ h_ => h_)) (Kd.R_lt (rr_ HO_7.out))) (below_size (b3_ HB.out GE488.out GE489.out GE497.out)))
            replace HO_7 := am_ (Kd.R_elder' (rr_ HO_7.out) (Kd.R_base ho0) hb)
            replace BK488 := am_ (blk_below (rb_ BK488.out) hb)
            replace BK489 := am_ (blk_below (rb_ BK489.out) hb)
            replace BK497 := am_ (blk_below (rb_ BK497.out) hb)
            replace HR524_1 := am_ (Kd.C_below (by repeat (first | (with_reducible exact HR524_1.out) | (with_reducible refine Kd.C_alloc ?_ _) | (with_reducible refine Kd.C_drewN ?_ _) | (with_reducible refine Kd.C_drew ?_) | exact HR524_1.out)) hb)
            replace HB := am_ (below_step (b3_ HB.out GE488.out GE489.out GE497.out) hb)
            (try clear hb)
            (try clear hb2)
            (try clear hk)
            (try clear hi)
            (try clear ho0)
            obtain ⟨Ao31, co31, eo31⟩ := Kd.R_slice HO527.out
            (first | subst eo31 | (injection eo31 with f1_ f2_ f3_; have f4_ := f1_.symm; have f5_ := f3_.symm; clear f1_ f2_ f3_; subst f4_; subst f5_))
            refine hK.out _ _ ⟨(blk_cell BK488.out 0).trans rfl, (blk_cell BK488.out 1).trans rfl, HS2_, HS3_, HS4_⟩ (fun hHeld => ?_)
            clear hK K
            refine norm_ (a' := ?_) ?_ ?_
            rotate_left
            ·show Act.put _ (some 38) _ = _
             simp only [pn_, sz_, ss_, i64_w, i32_w]
             rfl
            refine pu_ 8 39 (bl 11 511) HT_ ?_
            refine one_ (i := 9) (N := some 9) (bl 11 1023) rfl rfl (one_of HT_.out (by kernel_rfl)) (by decide) (fun K hK => ?_)
            refine box_step ?hg (N := 9) ?hd (cs := #[.int .i64 0, .slice none 0 0, .bool false]) (t := 78) ?hr ?_; (case hd => rfl); (case hg => rfl); (case hr => first | (go_simp; done) | (go_simp; rfl))
            intro gb528 hg w32 hbox hb
            have HS2_ := (hb.cell (World.block_lt_of_cell? _ _ (hHeld.2.2.1))).trans (hHeld.2.2.1)
            have HS3_ := (hb.cell (World.block_lt_of_cell? _ _ (hHeld.2.2.2.1))).trans (hHeld.2.2.2.1)
            have HS4_ := (hb.cell (World.block_lt_of_cell? _ _ (hHeld.2.2.2.2))).trans (hHeld.2.2.2.2)
            replace HO_4 := am_ (Kd.N_below (Kd.N_elderB (by (with_reducible repeat (first | apply Kd.N_alloc | apply Kd.N_drewN | apply Kd.N_drew)); exact HO_4.out) gb528 (Nat.le_of_eq hg.symm)) hb)
            replace HO_7 := am_ (Kd.R_below (rr_ HO_7.out) hb)
            replace HO_498000 := am_ (Kd.R_below (rr_ HO_498000.out) hb)
            replace HO_498001 := am_ (Kd.N_below (Kd.N_elderB (by (with_reducible repeat (first | apply Kd.N_alloc | apply Kd.N_drewN | apply Kd.N_drew)); exact HO_498001.out) gb528 (Nat.le_of_eq hg.symm)) hb)
            replace HL524_1 := am_ (Kd.V_below (Kd.V_elderB (by (with_reducible repeat (first | apply Kd.V_alloc | apply Kd.V_drewN | apply Kd.V_drew)); exact HL524_1.out) gb528 (Nat.le_of_eq hg.symm)) hb)
            replace HO527 := am_ (Kd.R_below (rr_ HO527.out) hb)
            replace HR524_1 := am_ (Kd.C_below (by repeat (first | (with_reducible exact HR524_1.out) | (with_reducible refine Kd.C_alloc ?_ _) | (with_reducible refine Kd.C_drewN ?_ _) | (with_reducible refine Kd.C_drew ?_) | exact HR524_1.out)) hb)
            replace BK528 := am_ (hbox)
            replace GW528 := am_ ((by rw [hg]; exact (below_size (b3_ HB.out GE488.out GE489.out GE497.out)) : w.heap.size ≤ gb528))
            replace GE528 := am_ ((by rw [hg]; exact (below_size (b3_ HB.out GE488.out GE489.out GE497.out)) : w.heap.size ≤ gb528))
            replace HB := am_ (below_step (b3_ HB.out GE488.out GE489.out GE497.out) hb)
            replace NB488_528 := am_ ((by rw [hg]; exact Nat.ne_of_lt (blk_lt (rb_ BK488.out)) : gb488 ≠ gb528))
            replace NB528_488 := am_ ((by rw [hg]; exact Nat.ne_of_gt (blk_lt (rb_ BK488.out)) : gb528 ≠ gb488))
            replace BK488 := am_ (blk_below (rb_ BK488.out) hb)
            replace NB489_528 := am_ ((by rw [hg]; exact Nat.ne_of_lt (blk_lt (rb_ BK489.out)) : gb489 ≠ gb528))
            replace NB528_489 := am_ ((by rw [hg]; exact Nat.ne_of_gt (blk_lt (rb_ BK489.out)) : gb528 ≠ gb489))
            replace BK489 := am_ (blk_below (rb_ BK489.out) hb)
            replace NB497_528 := am_ ((by rw [hg]; exact Nat.ne_of_lt (blk_lt (rb_ BK497.out)) : gb497 ≠ gb528))
            replace NB528_497 := am_ ((by rw [hg]; exact Nat.ne_of_gt (blk_lt (rb_ BK497.out)) : gb528 ≠ gb497))
            replace BK497 := am_ (blk_below (rb_ BK497.out) hb)
            clear hb hbox hg
            refine hK.out _ _ ⟨(blk_cell BK488.out 0).trans rfl, (blk_cell BK488.out 1).trans rfl, HS2_, HS3_, HS4_⟩ (fun hHeld => ?_)
            clear hK K
            refine norm_ (a' := ?_) ?_ ?_
            rotate_left
            ·show Act.put _ (some 9) _ = _
             simp only [pn_, sz_, ss_, i64_w, i32_w]
             rfl
            exact norm_ (by simp only [putAll, Act.put, List.setIfInBounds_toArray, List.set_cons_zero, List.set_cons_succ]) (hCont (.slice Ao31 t525.length co31, gb528) _ ⟨hHeld, (by (with_reducible repeat (first | apply Kd.V_alloc | apply Kd.V_drewN | apply Kd.V_drew)); exact Kd.V_mono HL524_1.out (fun _ hk => ⟨hk.1.1.1.1, ⟨hk.1.2, ⟨hk.1.1.2, ⟨hk.1.1.1.2.2.1, ⟨hk.1.1.1.2.2.2.1, ⟨hk.1.1.1.2.1, ⟨hk.1.1.1.2.2.2.2.1, ⟨hk.1.1.1.2.2.2.2.2.1, ⟨hk.1.1.1.2.2.2.2.2.2, hk.2⟩⟩⟩⟩⟩⟩⟩⟩⟩)), (by refine rr_ ?_; exact Kd.R_mono HO527.out (fun _ hk => ⟨hk.1.1, hk.2⟩)), (by (with_reducible repeat (first | apply Kd.N_alloc | apply Kd.N_drewN | apply Kd.N_drew)); exact Kd.N_mono HO_4.out (fun _ hk => ⟨hk.1.1.1, ⟨hk.1.2, ⟨hk.1.1.2.2.1, ⟨hk.1.1.2.2.2.1, ⟨hk.1.1.2.1, ⟨hk.1.1.2.2.2.2.1, ⟨hk.1.1.2.2.2.2.2.1, ⟨hk.1.1.2.2.2.2.2.2, hk.2⟩⟩⟩⟩⟩⟩⟩⟩)), (rr_ HO_498000.out), (by (with_reducible repeat (first | apply Kd.N_alloc | apply Kd.N_drewN | apply Kd.N_drew)); exact Kd.N_mono HO_498001.out (fun _ hk => ⟨hk.1.1.1, ⟨hk.1.2, ⟨hk.1.1.2.1, ⟨hk.1.1.2.2.2.1, ⟨hk.1.1.2.2.1, ⟨hk.1.1.2.2.2.2.1, ⟨hk.1.1.2.2.2.2.2.1, ⟨hk.1.1.2.2.2.2.2.2, hk.2⟩⟩⟩⟩⟩⟩⟩⟩)), (rr_ HO_7.out), (rb_ BK488.out), (rb_ BK489.out), (rb_ BK497.out), (rb_ BK528.out), GW528.out, GE528.out, NB488_528.out, NB528_488.out, NB489_528.out, NB528_489.out, NB497_528.out, NB528_497.out, (b4_ HB.out GE488.out GE489.out GE497.out GE528.out)⟩)
           ·skip
            refine box_step ?hg (N := 9) ?hd (cs := #[.int .i64 0, .slice none 0 0, .bool false]) (t := 78) ?hr ?_; (case hd => rfl); (case hg => rfl); (case hr => first | (go_simp; done) | (go_simp; rfl))
            intro gb528 hg w30 hbox hb
            have HS2_ := (hb.cell (World.block_lt_of_cell? _ _ (hHeld.2.2.1))).trans (hHeld.2.2.1)
            have HS3_ := (hb.cell (World.block_lt_of_cell? _ _ (hHeld.2.2.2.1))).trans (hHeld.2.2.2.1)
            have HS4_ := (hb.cell (World.block_lt_of_cell? _ _ (hHeld.2.2.2.2))).trans (hHeld.2.2.2.2)
            replace HO_4 := am_ (Kd.N_below (Kd.N_elderB (by (with_reducible repeat (first | apply Kd.N_alloc | apply Kd.N_drewN | apply Kd.N_drew)); exact HO_4.out) gb528 (Nat.le_of_eq hg.symm)) hb)
            replace HO_7 := am_ (Kd.R_below (rr_ HO_7.out) hb)
            replace HO_498000 := am_ (Kd.R_below (rr_ HO_498000.out) hb)
            replace HO_498001 := am_ (Kd.N_below (Kd.N_elderB (by (with_reducible repeat (first | apply Kd.N_alloc | apply Kd.N_drewN | apply Kd.N_drew)); exact HO_498001.out) gb528 (Nat.le_of_eq hg.symm)) hb)
            replace HL524_1 := am_ (Kd.V_below (Kd.V_elderB (by (with_reducible repeat (first | apply Kd.V_alloc | apply Kd.V_drewN | apply Kd.V_drew)); exact HL524_1.out) gb528 (Nat.le_of_eq hg.symm)) hb)
            replace HR524_1 := am_ (Kd.C_below (by repeat (first | (with_reducible exact HR524_1.out) | (with_reducible refine Kd.C_alloc ?_ _) | (with_reducible refine Kd.C_drewN ?_ _) | (with_reducible refine Kd.C_drew ?_) | exact HR524_1.out)) hb)
            replace BK528 := am_ (hbox)
            replace GW528 := am_ ((by rw [hg]; exact (below_size (b3_ HB.out GE488.out GE489.out GE497.out)) : w.heap.size ≤ gb528))
            replace GE528 := am_ ((by rw [hg]; exact (below_size (b3_ HB.out GE488.out GE489.out GE497.out)) : w.heap.size ≤ gb528))
            replace HB := am_ (below_step (b3_ HB.out GE488.out GE489.out GE497.out) hb)
            replace NB488_528 := am_ ((by rw [hg]; exact Nat.ne_of_lt (blk_lt (rb_ BK488.out)) : gb488 ≠ gb528))
            replace NB528_488 := am_ ((by rw [hg]; exact Nat.ne_of_gt (blk_lt (rb_ BK488.out)) : gb528 ≠ gb488))
            replace BK488 := am_ (blk_below (rb_ BK488.out) hb)
            replace NB489_528 := am_ ((by rw [hg]; exact Nat.ne_of_lt (blk_lt (rb_ BK489.out)) : gb489 ≠ gb528))
            replace NB528_489 := am_ ((by rw [hg]; exact Nat.ne_of_gt (blk_lt (rb_ BK489.out)) : gb528 ≠ gb489))
            replace BK489 := am_ (blk_below (rb_ BK489.out) hb)
            replace NB497_528 := am_ ((by rw [hg]; exact Nat.ne_of_lt (blk_lt (rb_ BK497.out)) : gb497 ≠ gb528))
            replace NB528_497 := am_ ((by rw [hg]; exact Nat.ne_of_gt (blk_lt (rb_ BK497.out)) : gb528 ≠ gb497))
            replace BK497 := am_ (blk_below (rb_ BK497.out) hb)
            clear hb hbox hg
            refine hK.out _ _ ⟨(blk_cell BK488.out 0).trans rfl, (blk_cell BK488.out 1).trans rfl, HS2_, HS3_, HS4_⟩ (fun hHeld => ?_)
            clear hK K
            refine norm_ (a' := ?_) ?_ ?_
            rotate_left
            ·show Act.put _ (some 9) _ = _
             simp only [pn_, sz_, ss_, i64_w, i32_w]
             rfl
            refine one_ (i := 7) (N := some 38) (bl 11 767) rfl rfl (one_of HT_.out (by kernel_rfl)) (by decide) (fun K hK => ?_)
            refine gO_ Try.func73 #[.agg #[.slice A0_0 l0_0.length c0_0, .slice A0_1 l0_1.length c0_1], .slice A524_1 ((rd_T78 x4_2 x6_1).f1).length c524_1, .int .i64 x8_2] ?_
            with_reducible refine (spec_l6Move.calls k2 _ _ l0_0 _ _ l0_1 _ _ ((rd_T78 x4_2 x6_1).f1) x8_2 t525 _ ?side1 ?side2 ?side3 ?side4 ?side5 ?side6 A25.out).mono ?_
            (case side1 => exact rc_ (Kd.C_below HR0_0.out HB.out))
            (case side2 => exact HC0_0.out)
            (case side3 => exact rc_ (Kd.C_below HR0_1.out HB.out))
            (case side4 => exact HC0_1.out)
            (case side5 => exact rc_ (by repeat (first | (with_reducible exact HR524_1.out) | (with_reducible refine Kd.C_alloc ?_ _) | (with_reducible refine Kd.C_drewN ?_ _) | (with_reducible refine Kd.C_drew ?_) | exact HR524_1.out)))
            (case side6 => exact HC524_1.out)
            rintro e w31 ⟨v526, rfl, ho0, hb⟩
            have HS2_ := (hb.cell (World.block_lt_of_cell? _ _ (hHeld.2.2.1))).trans (hHeld.2.2.1)
            have HS3_ := (hb.cell (World.block_lt_of_cell? _ _ (hHeld.2.2.2.1))).trans (hHeld.2.2.2.1)
            have HS4_ := (hb.cell (World.block_lt_of_cell? _ _ (hHeld.2.2.2.2))).trans (hHeld.2.2.2.2)
            refine ⟨_, rfl, ?_⟩
            replace HO_4 := am_ (Kd.N_elder' (by (with_reducible repeat (first | apply Kd.N_alloc | apply Kd.N_drewN | apply Kd.N_drew)); exact HO_4.out) (Kd.R_base ho0) hb)
            replace HO_498000 := am_ (Kd.R_below (rr_ HO_498000.out) hb)
            replace HO_498001 := am_ (Kd.N_elder' (by (with_reducible repeat (first | apply Kd.N_alloc | apply Kd.N_drewN | apply Kd.N_drew)); exact HO_498001.out) (Kd.R_base ho0) hb)
            replace HL524_1 := am_ (Kd.V_elder' (by (with_reducible repeat (first | apply Kd.V_alloc | apply Kd.V_drewN | apply Kd.V_drew)); exact HL524_1.out) (Kd.R_base ho0) hb)
            replace HO527 := am_ (Kd.R_lower (Kd.R_new' (Kd.R_newM (M := fun k_ => (w.heap.size ≤ k_)) ho0 (below_size (b4_ HB.out GE488.out GE489.out GE497.out GE528.out)) (fun k_ h_ => h_)) (Kd.R_lt (rr_ HO_7.out))) (below_size (b4_ HB.out GE488.out GE489.out GE497.out GE528.out)))
            replace HO_7 := am_ (Kd.R_elder' (rr_ HO_7.out) (Kd.R_base ho0) hb)
            replace BK488 := am_ (blk_below (rb_ BK488.out) hb)
            replace BK489 := am_ (blk_below (rb_ BK489.out) hb)
            replace BK497 := am_ (blk_below (rb_ BK497.out) hb)
            replace HR524_1 := am_ (Kd.C_below (by repeat (first | (with_reducible exact HR524_1.out) | (with_reducible refine Kd.C_alloc ?_ _) | (with_reducible refine Kd.C_drewN ?_ _) | (with_reducible refine Kd.C_drew ?_) | exact HR524_1.out)) hb)
            replace BK528 := am_ (blk_below (rb_ BK528.out) hb)
            replace HB := am_ (below_step (b4_ HB.out GE488.out GE489.out GE497.out GE528.out) hb)
            (try clear hb)
            (try clear hb2)
            (try clear hk)
            (try clear hi)
            (try clear ho0)
            obtain ⟨Ao32, co32, eo32⟩ := Kd.R_slice HO527.out
            (first | subst eo32 | (injection eo32 with f1_ f2_ f3_; have f4_ := f1_.symm; have f5_ := f3_.symm; clear f1_ f2_ f3_; subst f4_; subst f5_))
            refine hK.out _ _ ⟨(blk_cell BK488.out 0).trans rfl, (blk_cell BK488.out 1).trans rfl, HS2_, HS3_, HS4_⟩ (fun hHeld => ?_)
            clear hK K
            refine norm_ (a' := ?_) ?_ ?_
            rotate_left
            ·show Act.put _ (some 38) _ = _
             simp only [pn_, sz_, ss_, i64_w, i32_w]
             rfl
            refine pu_ 8 39 (bl 11 1023) HT_ ?_
            exact norm_ (by simp only [putAll, Act.put, List.setIfInBounds_toArray, List.set_cons_zero, List.set_cons_succ]) (hCont (.slice Ao32 t525.length co32, gb528) _ ⟨hHeld, (by (with_reducible repeat (first | apply Kd.V_alloc | apply Kd.V_drewN | apply Kd.V_drew)); exact Kd.V_mono HL524_1.out (fun _ hk => ⟨hk.1.1.1.1, ⟨hk.2, ⟨hk.1.1.2, ⟨hk.1.1.1.2.2.1, ⟨hk.1.1.1.2.2.2.1, ⟨hk.1.1.1.2.1, ⟨hk.1.1.1.2.2.2.2.1, ⟨hk.1.1.1.2.2.2.2.2.1, ⟨hk.1.1.1.2.2.2.2.2.2, hk.1.2⟩⟩⟩⟩⟩⟩⟩⟩⟩)), (by refine rr_ ?_; exact Kd.R_mono HO527.out (fun _ hk => ⟨hk.1.1, hk.2⟩)), (by (with_reducible repeat (first | apply Kd.N_alloc | apply Kd.N_drewN | apply Kd.N_drew)); exact Kd.N_mono HO_4.out (fun _ hk => ⟨hk.1.1.1, ⟨hk.2, ⟨hk.1.1.2.2.1, ⟨hk.1.1.2.2.2.1, ⟨hk.1.1.2.1, ⟨hk.1.1.2.2.2.2.1, ⟨hk.1.1.2.2.2.2.2.1, ⟨hk.1.1.2.2.2.2.2.2, hk.1.2⟩⟩⟩⟩⟩⟩⟩⟩)), (rr_ HO_498000.out), (by (with_reducible repeat (first | apply Kd.N_alloc | apply Kd.N_drewN | apply Kd.N_drew)); exact Kd.N_mono HO_498001.out (fun _ hk => ⟨hk.1.1.1, ⟨hk.2, ⟨hk.1.1.2.1, ⟨hk.1.1.2.2.2.1, ⟨hk.1.1.2.2.1, ⟨hk.1.1.2.2.2.2.1, ⟨hk.1.1.2.2.2.2.2.1, ⟨hk.1.1.2.2.2.2.2.2, hk.1.2⟩⟩⟩⟩⟩⟩⟩⟩)), (rr_ HO_7.out), (rb_ BK488.out), (rb_ BK489.out), (rb_ BK497.out), (rb_ BK528.out), GW528.out, GE528.out, NB488_528.out, NB528_488.out, NB489_528.out, NB528_489.out, NB497_528.out, NB528_497.out, (b4_ HB.out GE488.out GE489.out GE497.out GE528.out)⟩)
          rintro ⟨v526, gb528⟩ w33 ⟨hS_, h0_, h1_, h2_, h3_, h4_, h5_, h6_, h7_, h8_, h9_, h10_, h11_, h12_, h13_, h14_, h15_, h16_, h17_, h18_⟩
          have n0_ : Aside0 (Kd.V (Kd.int .i64) 3 w33 w.heap.size (fun k_ => (w.heap.size ≤ k_) ∧ some k_ ≠ (v526 : Value).ownBlock ∧ some k_ ≠ (.slice (some ad524) x4_2.length co29 : Value).ownBlock ∧ some k_ ≠ (u498000 : Value).ownBlock ∧ some k_ ≠ (u498001 : Value).ownBlock ∧ some k_ ≠ (u7 : Value).ownBlock ∧ k_ ≠ gb488 ∧ k_ ≠ gb489 ∧ k_ ≠ gb497 ∧ k_ ≠ gb528) (.slice A524_1 ((rd_T78 x4_2 x6_1).f1).length c524_1) ((rd_T78 x4_2 x6_1).f1)) := ⟨h0_⟩
          have n1_ : Aside0 (Kd.R (Kd.int .i64) 3 w33 w.heap.size (fun k_ => (w.heap.size ≤ k_) ∧ some k_ ≠ (u7 : Value).ownBlock) v526 t525) := ⟨h1_⟩
          have n2_ : Aside0 (Kd.N k78 78 w33 w.heap.size (fun k_ => (w.heap.size ≤ k_) ∧ some k_ ≠ (v526 : Value).ownBlock ∧ some k_ ≠ (u498000 : Value).ownBlock ∧ some k_ ≠ (u498001 : Value).ownBlock ∧ some k_ ≠ (u7 : Value).ownBlock ∧ k_ ≠ gb488 ∧ k_ ≠ gb489 ∧ k_ ≠ gb497 ∧ k_ ≠ gb528) (.slice (some ad524) x4_2.length co29) x4_2) := ⟨h2_⟩
          have n3_ : Aside0 (Kd.R Kd.bool 4 w33 w.heap.size (fun k_ => (w.heap.size ≤ k_)) u498000 x498000_1) := ⟨h3_⟩
          have n4_ : Aside0 (Kd.N (Kd.slice 3 (Kd.int .i64)) 67 w33 w.heap.size (fun k_ => (w.heap.size ≤ k_) ∧ some k_ ≠ (v526 : Value).ownBlock ∧ some k_ ≠ (.slice (some ad524) x4_2.length co29 : Value).ownBlock ∧ some k_ ≠ (u498000 : Value).ownBlock ∧ some k_ ≠ (u7 : Value).ownBlock ∧ k_ ≠ gb488 ∧ k_ ≠ gb489 ∧ k_ ≠ gb497 ∧ k_ ≠ gb528) u498001 x498001_1) := ⟨h4_⟩
          have n5_ : Aside0 (Kd.R (Kd.int .i64) 3 w33 w.heap.size (fun k_ => (w.heap.size ≤ k_) ∧ some k_ ≠ (v526 : Value).ownBlock) u7 x7_2) := ⟨h5_⟩
          have n6_ : Aside0 (w33.heap[gb488]? = some (.cells #[.slice A0_0 l0_0.length c0_0, .slice A0_1 l0_1.length c0_1] 27 (0, 0))) := ⟨h6_⟩
          have n7_ : Aside0 (w33.heap[gb489]? = some (.cells #[.slice none 0 0, .slice none 0 0] 27 (0, 0))) := ⟨h7_⟩
          have n8_ : Aside0 (w33.heap[gb497]? = some (.cells #[u498000, u498001] 27 (0, 0))) := ⟨h8_⟩
          have n9_ : Aside0 (w33.heap[gb528]? = some (.cells #[.int .i64 0, .slice none 0 0, .bool false] 78 (0, 0))) := ⟨h9_⟩
          have n10_ : Aside0 (w.heap.size ≤ gb528) := ⟨h10_⟩
          have n11_ : Aside0 (w.heap.size ≤ gb528) := ⟨h11_⟩
          have n12_ : Aside0 (gb488 ≠ gb528) := ⟨h12_⟩
          have n13_ : Aside0 (gb528 ≠ gb488) := ⟨h13_⟩
          have n14_ : Aside0 (gb489 ≠ gb528) := ⟨h14_⟩
          have n15_ : Aside0 (gb528 ≠ gb489) := ⟨h15_⟩
          have n16_ : Aside0 (gb497 ≠ gb528) := ⟨h16_⟩
          have n17_ : Aside0 (gb528 ≠ gb497) := ⟨h17_⟩
          have n18_ : Aside0 (Below w.heap.size w w33) := ⟨h18_⟩
          clear HO_4 HO_7 HO_498000 HO_498001 BK488 BK489 BK497 HB h0_ h1_ h2_ h3_ h4_ h5_ h6_ h7_ h8_ h9_ h10_ h11_ h12_ h13_ h14_ h15_ h16_ h17_ h18_
          have HL524_1 := n0_; have HO527 := n1_; have HO_4 := n2_; have HO_498000 := n3_; have HO_498001 := n4_; have HO_7 := n5_; have BK488 := n6_; have BK489 := n7_; have BK497 := n8_; have BK528 := n9_; have GW528 := n10_; have GE528 := n11_; have NB488_528 := n12_; have NB528_488 := n13_; have NB489_528 := n14_; have NB528_489 := n15_; have NB497_528 := n16_; have NB528_497 := n17_; have HB := n18_
          clear n0_ n1_ n2_ n3_ n4_ n5_ n6_ n7_ n8_ n9_ n10_ n11_ n12_ n13_ n14_ n15_ n16_ n17_ n18_
          have hHeld : w33.cell? ⟨gb488, 0, none⟩ = some (.slice A0_0 l0_0.length c0_0) ∧ w33.cell? ⟨gb488, 1, none⟩ = some (.slice A0_1 l0_1.length c0_1) ∧ w33.cell? (ad524.add ((x6_1).toNat * 3)) = some (.int .i64 ((rd_T78 x4_2 x6_1).f0)) ∧ w33.cell? ⟨(ad524.add ((x6_1).toNat * 3)).block, (ad524.add ((x6_1).toNat * 3)).off + 1, none⟩ = some (.slice A524_1 ((rd_T78 x4_2 x6_1).f1).length c524_1) ∧ w33.cell? ⟨(ad524.add ((x6_1).toNat * 3)).block, (ad524.add ((x6_1).toNat * 3)).off + 2, none⟩ = some (.bool ((rd_T78 x4_2 x6_1).f2)) := hS_
          obtain ⟨Ao34, co34, eo34⟩ := Kd.R_slice HO527.out
          (first | subst eo34 | (injection eo34 with f1_ f2_ f3_; have f4_ := f1_.symm; have f5_ := f3_.symm; clear f1_ f2_ f3_; subst f4_; subst f5_))
          refine norm_ (a' := ?_) ?_ ?_
          rotate_left
          ·simp only [putAll, Act.put, List.setIfInBounds_toArray, List.set_cons_zero, List.set_cons_succ]
           rfl
          refine one_ (i := 10) (N := none) (bl 11 2047) rfl rfl (one_of HT_.out (by kernel_rfl)) (by decide) (fun K hK => ?_)
          have hs35 : w33.cell? ⟨gb528, 0, none⟩ = some (.int .i64 0) := (blk_cell BK528.out 0).trans rfl
          have hfs35 := blk_frozen BK528.out 0
          have hns35_0 := NB488_528.out
          have hns35_1 := NB489_528.out
          have hns35_2 := NB497_528.out
          have hms35_0 := NB528_488.out
          have hms35_1 := NB528_489.out
          have hms35_2 := NB528_497.out
          have hs36 : w33.cell? ⟨gb528, 1, none⟩ = some (.slice none 0 0) := (blk_cell BK528.out 1).trans rfl
          have hfs36 := blk_frozen BK528.out 1
          have hns36_0 := NB488_528.out
          have hns36_1 := NB489_528.out
          have hns36_2 := NB497_528.out
          have hms36_0 := NB528_488.out
          have hms36_1 := NB528_489.out
          have hms36_2 := NB528_497.out
          have hs37 : w33.cell? ⟨gb528, 2, none⟩ = some (.bool false) := (blk_cell BK528.out 2).trans rfl
          have hfs37 := blk_frozen BK528.out 2
          have hns37_0 := NB488_528.out
          have hns37_1 := NB489_528.out
          have hns37_2 := NB497_528.out
          have hms37_0 := NB528_488.out
          have hms37_1 := NB528_489.out
          have hms37_2 := NB528_497.out
          refine skip_ (w1 := ?_) (by rfl) rfl ?_ ?_
          rotate_left
          ·go_simp
           rfl
          refine hK.out _ _ ⟨((cell_far (p := ⟨gb528, _, none⟩) NB488_528.out _).trans (((cell_far (p := ⟨gb528, _, none⟩) NB488_528.out _).trans (((cell_far (p := ⟨gb528, _, none⟩) NB488_528.out _).trans (hHeld.1)))))), ((cell_far (p := ⟨gb528, _, none⟩) NB488_528.out _).trans (((cell_far (p := ⟨gb528, _, none⟩) NB488_528.out _).trans (((cell_far (p := ⟨gb528, _, none⟩) NB488_528.out _).trans (hHeld.2.1)))))), ((cell_far (p := ⟨gb528, _, none⟩) (by first | exact Kd.own_blk (Kd.N_away HO_4.out (fun _ hk => hk.2.2.2.2.2.2.2.2)) | (rw [add_block]; exact Kd.own_blk (Kd.N_away HO_4.out (fun _ hk => hk.2.2.2.2.2.2.2.2))) | (show (Addr.add _ _).block ≠ _; rw [add_block]; exact Kd.own_blk (Kd.N_away HO_4.out (fun _ hk => hk.2.2.2.2.2.2.2.2))) | (dsimp only; exact Kd.own_blk (Kd.N_away HO_4.out (fun _ hk => hk.2.2.2.2.2.2.2.2)))) _).trans (((cell_far (p := ⟨gb528, _, none⟩) (by first | exact Kd.own_blk (Kd.N_away HO_4.out (fun _ hk => hk.2.2.2.2.2.2.2.2)) | (rw [add_block]; exact Kd.own_blk (Kd.N_away HO_4.out (fun _ hk => hk.2.2.2.2.2.2.2.2))) | (show (Addr.add _ _).block ≠ _; rw [add_block]; exact Kd.own_blk (Kd.N_away HO_4.out (fun _ hk => hk.2.2.2.2.2.2.2.2))) | (dsimp only; exact Kd.own_blk (Kd.N_away HO_4.out (fun _ hk => hk.2.2.2.2.2.2.2.2)))) _).trans (((cell_far (p := ⟨gb528, _, none⟩) (by first | exact Kd.own_blk (Kd.N_away HO_4.out (fun _ hk => hk.2.2.2.2.2.2.2.2)) | (rw [add_block]; exact Kd.own_blk (Kd.N_away HO_4.out (fun _ hk => hk.2.2.2.2.2.2.2.2))) | (show (Addr.add _ _).block ≠ _; rw [add_block]; exact Kd.own_blk (Kd.N_away HO_4.out (fun _ hk => hk.2.2.2.2.2.2.2.2))) | (dsimp only; exact Kd.own_blk (Kd.N_away HO_4.out (fun _ hk => hk.2.2.2.2.2.2.2.2)))) _).trans (hHeld.2.2.1)))))), ((cell_far (p := ⟨gb528, _, none⟩) (by first | exact Kd.own_blk (Kd.N_away HO_4.out (fun _ hk => hk.2.2.2.2.2.2.2.2)) | (rw [add_block]; exact Kd.own_blk (Kd.N_away HO_4.out (fun _ hk => hk.2.2.2.2.2.2.2.2))) | (show (Addr.add _ _).block ≠ _; rw [add_block]; exact Kd.own_blk (Kd.N_away HO_4.out (fun _ hk => hk.2.2.2.2.2.2.2.2))) | (dsimp only; exact Kd.own_blk (Kd.N_away HO_4.out (fun _ hk => hk.2.2.2.2.2.2.2.2)))) _).trans (((cell_far (p := ⟨gb528, _, none⟩) (by first | exact Kd.own_blk (Kd.N_away HO_4.out (fun _ hk => hk.2.2.2.2.2.2.2.2)) | (rw [add_block]; exact Kd.own_blk (Kd.N_away HO_4.out (fun _ hk => hk.2.2.2.2.2.2.2.2))) | (show (Addr.add _ _).block ≠ _; rw [add_block]; exact Kd.own_blk (Kd.N_away HO_4.out (fun _ hk => hk.2.2.2.2.2.2.2.2))) | (dsimp only; exact Kd.own_blk (Kd.N_away HO_4.out (fun _ hk => hk.2.2.2.2.2.2.2.2)))) _).trans (((cell_far (p := ⟨gb528, _, none⟩) (by first | exact Kd.own_blk (Kd.N_away HO_4.out (fun _ hk => hk.2.2.2.2.2.2.2.2)) | (rw [add_block]; exact Kd.own_blk (Kd.N_away HO_4.out (fun _ hk => hk.2.2.2.2.2.2.2.2))) | (show (Addr.add _ _).block ≠ _; rw [add_block]; exact Kd.own_blk (Kd.N_away HO_4.out (fun _ hk => hk.2.2.2.2.2.2.2.2))) | (dsimp only; exact Kd.own_blk (Kd.N_away HO_4.out (fun _ hk => hk.2.2.2.2.2.2.2.2)))) _).trans (hHeld.2.2.2.1)))))), ((cell_far (p := ⟨gb528, _, none⟩) (by first | exact Kd.own_blk (Kd.N_away HO_4.out (fun _ hk => hk.2.2.2.2.2.2.2.2)) | (rw [add_block]; exact Kd.own_blk (Kd.N_away HO_4.out (fun _ hk => hk.2.2.2.2.2.2.2.2))) | (show (Addr.add _ _).block ≠ _; rw [add_block]; exact Kd.own_blk (Kd.N_away HO_4.out (fun _ hk => hk.2.2.2.2.2.2.2.2))) | (dsimp only; exact Kd.own_blk (Kd.N_away HO_4.out (fun _ hk => hk.2.2.2.2.2.2.2.2)))) _).trans (((cell_far (p := ⟨gb528, _, none⟩) (by first | exact Kd.own_blk (Kd.N_away HO_4.out (fun _ hk => hk.2.2.2.2.2.2.2.2)) | (rw [add_block]; exact Kd.own_blk (Kd.N_away HO_4.out (fun _ hk => hk.2.2.2.2.2.2.2.2))) | (show (Addr.add _ _).block ≠ _; rw [add_block]; exact Kd.own_blk (Kd.N_away HO_4.out (fun _ hk => hk.2.2.2.2.2.2.2.2))) | (dsimp only; exact Kd.own_blk (Kd.N_away HO_4.out (fun _ hk => hk.2.2.2.2.2.2.2.2)))) _).trans (((cell_far (p := ⟨gb528, _, none⟩) (by first | exact Kd.own_blk (Kd.N_away HO_4.out (fun _ hk => hk.2.2.2.2.2.2.2.2)) | (rw [add_block]; exact Kd.own_blk (Kd.N_away HO_4.out (fun _ hk => hk.2.2.2.2.2.2.2.2))) | (show (Addr.add _ _).block ≠ _; rw [add_block]; exact Kd.own_blk (Kd.N_away HO_4.out (fun _ hk => hk.2.2.2.2.2.2.2.2))) | (dsimp only; exact Kd.own_blk (Kd.N_away HO_4.out (fun _ hk => hk.2.2.2.2.2.2.2.2)))) _).trans (hHeld.2.2.2.2))))))⟩ (fun hHeld => ?_)
          clear hK K
          refine done_ (done_of HT_.out (by kernel_rfl)) ?_
          have hnb38 := NB488_489.out
          have hnc38 := NB489_488.out
          have hnb39 := NB488_497.out
          have hnc39 := NB497_488.out
          have hnb40 := NB488_528.out
          have hnc40 := NB528_488.out
          have hcz41_0 : w33.cell? ⟨gb488, 0, none⟩ = some (.slice A0_0 l0_0.length c0_0) := (blk_cell BK488.out 0).trans rfl
          have hcz41_1 : w33.cell? ⟨gb488, 1, none⟩ = some (.slice A0_1 l0_1.length c0_1) := (blk_cell BK488.out 1).trans rfl
          have hfz41_0 := blk_frozen BK488.out 0
          have hfz41_1 := blk_frozen BK488.out 1
          have hnb42 := NB528_489.out
          have hnc42 := NB489_528.out
          have hnb43 := NB528_497.out
          have hnc43 := NB497_528.out
          have hcz44_0 : w33.cell? ⟨gb528, 0, none⟩ = some (.int .i64 0) := (blk_cell BK528.out 0).trans rfl
          have hcz44_1 : w33.cell? ⟨gb528, 1, none⟩ = some (.slice none 0 0) := (blk_cell BK528.out 1).trans rfl
          have hcz44_2 : w33.cell? ⟨gb528, 2, none⟩ = some (.bool false) := (blk_cell BK528.out 2).trans rfl
          have hfz44_0 := blk_frozen BK528.out 0
          have hfz44_1 := blk_frozen BK528.out 1
          have hfz44_2 := blk_frozen BK528.out 2
          go_upto_if 43 with (first | ((with_reducible refine gate_callee (f := 76) rfl ?_); refine gL_ (some 43) Try.func76 #[.agg #[.slice A0_0 l0_0.length c0_0, .slice A0_1 l0_1.length c0_1], .slice Ao34 t525.length co34] ?_; (with_reducible refine (spec_l6Any.calls k2 _ _ l0_0 _ _ l0_1 _ _ t525 t529 _ ?side1 ?side2 ?side3 ?side4 ?side5 ?side6 A26.out).mono ?_); (case side1 => exact Kd.C_below HR0_0.out (b4_ HB.out GE488.out GE489.out GE497.out GE528.out)); (case side2 => exact HC0_0.out); (case side3 => exact Kd.C_below HR0_1.out (b4_ HB.out GE488.out GE489.out GE497.out GE528.out)); (case side4 => exact HC0_1.out); (case side5 => refine (Kd.R_reads' (e := 3) (base := w.heap.size) (ok := fun k_ => ((w.heap.size ≤ k_) ∧ some k_ ≠ (u7 : Value).ownBlock)) (n := t525.length) (c := co34) ?_).2.2; exact (rr_ (Kd.R_mono (Kd.R_far (p := ⟨gb528, 2, none⟩) (Kd.R_far (p := ⟨gb528, 1, none⟩) (Kd.R_far (p := ⟨gb528, 0, none⟩) (Kd.R_types HO527.out BK528.out (by decide)) (fun _ hk => hk.2) (.int .i64 0)) (fun _ hk => hk.2) (.slice Ao34 t525.length co34)) (fun _ hk => hk.2) (.bool false)) (fun _ h_ => h_.1)))); (case side6 => exact (Kd.R_reads' HO527.out).2.1); rintro e w45 ⟨rfl, hb⟩; refine ⟨_, rfl, ?_⟩; have n0_ := am_ (Kd.N_below (by (with_reducible repeat (first | apply Kd.N_alloc | apply Kd.N_drewN | apply Kd.N_drew)); exact (Kd.N_mono (Kd.N_far (p := ⟨gb528, 2, none⟩) (Kd.N_far (p := ⟨gb528, 1, none⟩) (Kd.N_far (p := ⟨gb528, 0, none⟩) (Kd.N_mono HO_4.out (fun k_ hk => (⟨hk, hk.2.2.2.2.2.2.2.2⟩ : _ ∧ k_ ≠ gb528))) (fun _ hk => hk.2) (.int .i64 0)) (fun _ hk => hk.2) (.slice Ao34 t525.length co34)) (fun _ hk => hk.2) (.bool false)) (fun _ h_ => h_.1))) hb); have n1_ := am_ (Kd.R_below (rr_ (Kd.R_mono (Kd.R_far (p := ⟨gb528, 2, none⟩) (Kd.R_far (p := ⟨gb528, 1, none⟩) (Kd.R_far (p := ⟨gb528, 0, none⟩) (Kd.R_types HO_7.out BK528.out (by decide)) (fun _ hk => hk.2) (.int .i64 0)) (fun _ hk => hk.2) (.slice Ao34 t525.length co34)) (fun _ hk => hk.2) (.bool false)) (fun _ h_ => h_.1))) hb); have n2_ := am_ (Kd.R_below (rr_ (Kd.R_mono (Kd.R_far (p := ⟨gb528, 2, none⟩) (Kd.R_far (p := ⟨gb528, 1, none⟩) (Kd.R_far (p := ⟨gb528, 0, none⟩) (Kd.R_types HO_498000.out BK528.out (by decide)) (fun _ hk => hk.2) (.int .i64 0)) (fun _ hk => hk.2) (.slice Ao34 t525.length co34)) (fun _ hk => hk.2) (.bool false)) (fun _ h_ => h_.1))) hb); have n3_ := am_ (Kd.N_below (by (with_reducible repeat (first | apply Kd.N_alloc | apply Kd.N_drewN | apply Kd.N_drew)); exact (Kd.N_mono (Kd.N_far (p := ⟨gb528, 2, none⟩) (Kd.N_far (p := ⟨gb528, 1, none⟩) (Kd.N_far (p := ⟨gb528, 0, none⟩) (Kd.N_mono HO_498001.out (fun k_ hk => (⟨hk, hk.2.2.2.2.2.2.2.2⟩ : _ ∧ k_ ≠ gb528))) (fun _ hk => hk.2) (.int .i64 0)) (fun _ hk => hk.2) (.slice Ao34 t525.length co34)) (fun _ hk => hk.2) (.bool false)) (fun _ h_ => h_.1))) hb); have n4_ := am_ (Kd.V_below (by (with_reducible repeat (first | apply Kd.V_alloc | apply Kd.V_drewN | apply Kd.V_drew)); exact (Kd.V_mono (Kd.V_far (p := ⟨gb528, 2, none⟩) (Kd.V_far (p := ⟨gb528, 1, none⟩) (Kd.V_far (p := ⟨gb528, 0, none⟩) (Kd.V_mono HL524_1.out (fun k_ hk => (⟨hk, hk.2.2.2.2.2.2.2.2.2⟩ : _ ∧ k_ ≠ gb528))) (fun _ hk => hk.2) (.int .i64 0)) (fun _ hk => hk.2) (.slice Ao34 t525.length co34)) (fun _ hk => hk.2) (.bool false)) (fun _ h_ => h_.1))) hb); have n5_ := am_ (Kd.R_below (rr_ (Kd.R_mono (Kd.R_far (p := ⟨gb528, 2, none⟩) (Kd.R_far (p := ⟨gb528, 1, none⟩) (Kd.R_far (p := ⟨gb528, 0, none⟩) (Kd.R_types HO527.out BK528.out (by decide)) (fun _ hk => hk.2) (.int .i64 0)) (fun _ hk => hk.2) (.slice Ao34 t525.length co34)) (fun _ hk => hk.2) (.bool false)) (fun _ h_ => h_.1))) hb); have n6_ := am_ (blk_below (g := gb488) (o := .cells #[.slice A0_0 l0_0.length c0_0, .slice A0_1 l0_1.length c0_1] 27 (0, 0)) (by refine rb_ ?_; refine blk_far ?_ NB488_528.out _; refine rb_ ?_; refine blk_far ?_ NB488_528.out _; refine rb_ ?_; refine blk_far ?_ NB488_528.out _; refine rb_ ?_; exact BK488.out) hb); have n7_ := am_ (blk_below (g := gb489) (o := .cells #[.slice none 0 0, .slice none 0 0] 27 (0, 0)) (by refine rb_ ?_; refine blk_far ?_ NB489_528.out _; refine rb_ ?_; refine blk_far ?_ NB489_528.out _; refine rb_ ?_; refine blk_far ?_ NB489_528.out _; refine rb_ ?_; exact BK489.out) hb); have n8_ := am_ (blk_below (g := gb497) (o := .cells #[u498000, u498001] 27 (0, 0)) (by refine rb_ ?_; refine blk_far ?_ NB497_528.out _; refine rb_ ?_; refine blk_far ?_ NB497_528.out _; refine rb_ ?_; refine blk_far ?_ NB497_528.out _; refine rb_ ?_; exact BK497.out) hb); have n9_ := am_ (blk_below (g := gb528) (o := .cells #[.int .i64 0, .slice Ao34 t525.length co34, .bool false] 78 (0, 0)) (by refine rb_ ?_; refine blk_put (cs := #[.int .i64 0, .slice Ao34 t525.length co34, .bool false]) ?_ 2 _ rfl; refine rb_ ?_; refine blk_put (cs := #[.int .i64 0, .slice none 0 0, .bool false]) ?_ 1 _ rfl; refine rb_ ?_; refine blk_put (cs := #[.int .i64 0, .slice none 0 0, .bool false]) ?_ 0 _ rfl; refine rb_ ?_; exact BK528.out) hb); have n10_ := am_ (below_step (b4_ HB.out GE488.out GE489.out GE497.out GE528.out) hb); clear HO_4; clear HO_7; clear HO_498000; clear HO_498001; clear HL524_1; clear HO527; clear BK488; clear BK489; clear BK497; clear BK528; clear HB; have HO_4 := n0_; have HO_7 := n1_; have HO_498000 := n2_; have HO_498001 := n3_; have HL524_1 := n4_; have HO527 := n5_; have BK488 := n6_; have BK489 := n7_; have BK497 := n8_; have BK528 := n9_; have HB := n10_; clear n0_ n1_ n2_ n3_ n4_ n5_ n6_ n7_ n8_ n9_ n10_; (try clear hb); (try clear hb2); (try clear hk); (try clear hi)))
          (try simp only [Act.put, List.setIfInBounds_toArray, List.set_cons_zero, List.set_cons_succ])
          go_cut [] (fun wc => ∃ (kq : Nat) (x529001_26 : List Int) (u529001 : Value), Aside0 (spec_StarDfa.j2 kq x4_2 x6_1 x7_2 x8_2 l0_0 l0_1 x498000_1 x498001_1 0 x529001_26 false = some (r1, r2, r3)) ∧ Aside0 (kq ≤ k2) ∧ Aside0 (Kd.N k78 78 wc w.heap.size (fun k_ => (w.heap.size ≤ k_) ∧ some k_ ≠ (u7 : Value).ownBlock ∧ some k_ ≠ (u498000 : Value).ownBlock ∧ some k_ ≠ (u498001 : Value).ownBlock ∧ some k_ ≠ (u529001 : Value).ownBlock ∧ k_ ≠ gb488 ∧ k_ ≠ gb489 ∧ k_ ≠ gb497 ∧ k_ ≠ gb528) (.slice (some ad524) x4_2.length co29) x4_2) ∧ Aside0 (Kd.R (Kd.int .i64) 3 wc w.heap.size (fun k_ => (w.heap.size ≤ k_) ∧ some k_ ≠ (u529001 : Value).ownBlock) u7 x7_2) ∧ Aside0 (Kd.R Kd.bool 4 wc w.heap.size (fun k_ => (w.heap.size ≤ k_)) u498000 x498000_1) ∧ Aside0 (Kd.N (Kd.slice 3 (Kd.int .i64)) 67 wc w.heap.size (fun k_ => (w.heap.size ≤ k_) ∧ some k_ ≠ ((.slice (some ad524) x4_2.length co29) : Value).ownBlock ∧ some k_ ≠ (u7 : Value).ownBlock ∧ some k_ ≠ (u498000 : Value).ownBlock ∧ some k_ ≠ (u529001 : Value).ownBlock ∧ k_ ≠ gb488 ∧ k_ ≠ gb489 ∧ k_ ≠ gb497 ∧ k_ ≠ gb528) u498001 x498001_1) ∧ Aside0 (Kd.R (Kd.int .i64) 3 wc w.heap.size (fun k_ => (w.heap.size ≤ k_) ∧ some k_ ≠ (u7 : Value).ownBlock) u529001 x529001_26) ∧ Aside0 (wc.heap[gb488]? = some (.cells #[(.slice A0_0 l0_0.length c0_0), (.slice A0_1 l0_1.length c0_1)] 27 (0, 0))) ∧ Aside0 (wc.heap[gb489]? = some (.cells #[(.slice none 0 0), (.slice none 0 0)] 27 (0, 0))) ∧ Aside0 (wc.heap[gb497]? = some (.cells #[u498000, u498001] 27 (0, 0))) ∧ Aside0 (wc.heap[gb528]? = some (.cells #[.int .i64 0, u529001, .bool false] 78 (0, 0))) ∧ Aside0 (Below w.heap.size w wc))
          case first =>
           have H := HC27.out
           clear HC27
           by_cases c46 : t529 = true
           ·subst c46
            have H1 : ((spec_l6Put.f k2 t525 0).bind fun t530 => (spec_StarDfa.j2 k2 x4_2 x6_1 x7_2 x8_2 l0_0 l0_1 x498000_1 x498001_1 0 t530 false)) = some (r1, r2, r3) := by rw [if_pos rfl] at H; exact H
            clear H
            have H := H1
            clear H1
            replace H := Option.bind_eq_some_iff.mp H
            obtain ⟨t530, A470, H⟩ := H
            have A47 := am_ A470
            clear A470
            have H' := am_ H
            clear H
            have hnb48 := NB528_488.out
            have hnc48 := NB488_528.out
            have hnb49 := NB528_489.out
            have hnc49 := NB489_528.out
            have hnb50 := NB528_497.out
            have hnc50 := NB497_528.out
            have hcz51_0 : w45.cell? ⟨gb528, 0, none⟩ = some (.int .i64 0) := (blk_cell BK528.out 0).trans rfl
            have hcz51_1 : w45.cell? ⟨gb528, 1, none⟩ = some (.slice Ao34 t525.length co34) := (blk_cell BK528.out 1).trans rfl
            have hcz51_2 : w45.cell? ⟨gb528, 2, none⟩ = some (.bool false) := (blk_cell BK528.out 2).trans rfl
            have hfz51_0 := blk_frozen BK528.out 0
            have hfz51_1 := blk_frozen BK528.out 1
            have hfz51_2 := blk_frozen BK528.out 2
            go_wp2_with (first | ((with_reducible refine gate_callee (f := 74) rfl ?_); refine gL_ (some 46) Try.func74 #[.slice Ao34 t525.length co34, .int .i64 0] ?_; (with_reducible refine (spec_l6Put.calls k2 (fun k_ => some k_ = (.slice Ao34 t525.length co34 : Value).ownBlock) (.slice Ao34 t525.length co34) t525 0 t530 w _ ?side1 ?side2 A47.out).mono ?_); (case side1 => exact zp27_1_ HB.out GE488.out GE489.out GE497.out GE528.out); (case side2 => exact Kd.R_tight rfl HO527.out); rintro e w52 ⟨v531, rfl, ho0, hb, hkp⟩; refine ⟨_, rfl, ?_⟩; have n0_ := am_ (Kd.N_mono (ok' := fun k_ => (w.heap.size ≤ k_) ∧ some k_ ≠ (u7 : Value).ownBlock ∧ some k_ ≠ (u498000 : Value).ownBlock ∧ some k_ ≠ (u498001 : Value).ownBlock ∧ k_ ≠ gb488 ∧ k_ ≠ gb489 ∧ k_ ≠ gb497 ∧ k_ ≠ gb528 ∧ some k_ ≠ (v531 : Value).ownBlock) (Kd.N_keptB (HO_4.out) hkp (fun k_ hk_ hs_ => (hk_.2.1) hs_)) (fun k_ hk_ => ⟨hk_.1.1, hk_.1.2.2.2.2.1, hk_.1.2.2.1, hk_.1.2.2.2.1, hk_.1.2.2.2.2.2.1, hk_.1.2.2.2.2.2.2.1, hk_.1.2.2.2.2.2.2.2.1, hk_.1.2.2.2.2.2.2.2.2, fun e_ => Or.elim (ho0.1 k_ e_.symm) (fun hs_ => hk_.2.1 hs_) (fun hn_ => Nat.not_le.2 hk_.2.2 hn_)⟩)); have n1_ := am_ (Kd.R_mono (ok' := fun k_ => (w.heap.size ≤ k_) ∧ some k_ ≠ (v531 : Value).ownBlock) (Kd.R_keptB (HO_7.out) hkp (fun k_ hk_ hs_ => (hk_.2) hs_)) (fun k_ hk_ => ⟨hk_.1.1, fun e_ => Or.elim (ho0.1 k_ e_.symm) (fun hs_ => hk_.2.1 hs_) (fun hn_ => Nat.not_le.2 hk_.2.2 hn_)⟩)); have n2_ := am_ (Kd.R_mono (ok' := fun k_ => (w.heap.size ≤ k_)) (Kd.R_keptB ((Kd.R_apart' HO_498000.out (Kd.R_typed HO527.out) (by decide))) hkp (fun k_ hk_ hs_ => (hk_.2) hs_)) (fun k_ hk_ => hk_.1.1)); have n3_ := am_ (Kd.N_mono (ok' := fun k_ => (w.heap.size ≤ k_) ∧ some k_ ≠ (.slice (some ad524) x4_2.length co29 : Value).ownBlock ∧ some k_ ≠ (u7 : Value).ownBlock ∧ some k_ ≠ (u498000 : Value).ownBlock ∧ k_ ≠ gb488 ∧ k_ ≠ gb489 ∧ k_ ≠ gb497 ∧ k_ ≠ gb528 ∧ some k_ ≠ (v531 : Value).ownBlock) (Kd.N_keptB (HO_498001.out) hkp (fun k_ hk_ hs_ => (hk_.2.1) hs_)) (fun k_ hk_ => ⟨hk_.1.1, hk_.1.2.2.1, hk_.1.2.2.2.2.1, hk_.1.2.2.2.1, hk_.1.2.2.2.2.2.1, hk_.1.2.2.2.2.2.2.1, hk_.1.2.2.2.2.2.2.2.1, hk_.1.2.2.2.2.2.2.2.2, fun e_ => Or.elim (ho0.1 k_ e_.symm) (fun hs_ => hk_.2.1 hs_) (fun hn_ => Nat.not_le.2 hk_.2.2 hn_)⟩)); have n4_ := am_ (blk_kept (rb_ BK488.out) hkp (fun hs_ => (fun e_ => (Kd.R_ne HO527.out BK488.out (by decide)) e_) hs_)); have n5_ := am_ (blk_kept (rb_ BK489.out) hkp (fun hs_ => (fun e_ => (Kd.R_ne HO527.out BK489.out (by decide)) e_) hs_)); have n6_ := am_ (blk_kept (rb_ BK497.out) hkp (fun hs_ => (fun e_ => (Kd.R_ne HO527.out BK497.out (by decide)) e_) hs_)); have n7_ := am_ (blk_kept (rb_ BK528.out) hkp (fun hs_ => (fun e_ => (Kd.R_ne HO527.out BK528.out (by decide)) e_) hs_)); have n8_ := am_ (Kd.R_mono (ok' := fun k_ => (w.heap.size ≤ k_) ∧ some k_ ≠ (u7 : Value).ownBlock) ho0 (fun k_ hk_ => ⟨Or.elim hk_ (fun hs_ => (HO527.out.1 k_ (hs_).symm).1) (fun hn_ => (Nat.le_trans (below_size (b4_ HB.out GE488.out GE489.out GE497.out GE528.out)) hn_)), Or.elim hk_ (fun hs_ => fun e_ => (((HO_7.out).1 k_ e_.symm).2) hs_) (fun hn_ => (Kd.fresh' (Kd.R_lt (rr_ HO_7.out)) k_ hn_))⟩)); have n9_ := am_ (hb); clear HO_4; clear HO_7; clear HO_498000; clear HO_498001; clear BK488; clear BK489; clear BK497; clear BK528; clear HB; clear HO527; clear HL524_1; have HO_4 := n0_; have HO_7 := n1_; have HO_498000 := n2_; have HO_498001 := n3_; have BK488 := n4_; have BK489 := n5_; have BK497 := n6_; have BK528 := n7_; have HO532 := n8_; have HB := n9_; clear n0_ n1_ n2_ n3_ n4_ n5_ n6_ n7_ n8_ n9_; (try clear hb); (try clear hkp); (try clear ho0); obtain ⟨Ao53, co53, eo53⟩ := Kd.R_slice HO532.out; subst eo53; have hcz54_0 : w52.cell? ⟨gb528, 0, none⟩ = some (.int .i64 0) := (blk_cell BK528.out 0).trans rfl; have hcz54_1 : w52.cell? ⟨gb528, 1, none⟩ = some (.slice Ao34 t525.length co34) := (blk_cell BK528.out 1).trans rfl; have hcz54_2 : w52.cell? ⟨gb528, 2, none⟩ = some (.bool false) := (blk_cell BK528.out 2).trans rfl; have hfz54_0 := blk_frozen BK528.out 0; have hfz54_1 := blk_frozen BK528.out 1; have hfz54_2 := blk_frozen BK528.out 2))
            go_meet
            case rel => exact ⟨_, (t530), (.slice Ao53 t530.length co53), H', ⟨by have := HK1.out; have := HK2.out; first | omega | exact Nat.le_refl _⟩, ⟨by (with_reducible repeat (first | apply Kd.N_alloc | apply Kd.N_drewN | apply Kd.N_drew)); exact Kd.N_mono (Kd.N_far (p := ⟨gb528, 1, none⟩) (Kd.N_mono HO_4.out (fun k_ hk => (⟨hk, hk.2.2.2.2.2.2.2.1⟩ : _ ∧ k_ ≠ gb528))) (fun _ hk => hk.2) (.slice Ao53 t530.length co53)) (fun _ hk => ⟨hk.1.1, ⟨hk.1.2.1, ⟨hk.1.2.2.1, ⟨hk.1.2.2.2.1, ⟨hk.1.2.2.2.2.2.2.2.2, ⟨hk.1.2.2.2.2.1, ⟨hk.1.2.2.2.2.2.1, ⟨hk.1.2.2.2.2.2.2.1, hk.1.2.2.2.2.2.2.2.1⟩⟩⟩⟩⟩⟩⟩⟩)⟩, ⟨by refine rr_ ?_; exact Kd.R_mono (Kd.R_far (p := ⟨gb528, 1, none⟩) (Kd.R_types HO_7.out BK528.out (by decide)) (fun _ hk => hk.2) (.slice Ao53 t530.length co53)) (fun _ hk => ⟨hk.1.1, hk.1.2⟩)⟩, ⟨by refine rr_ ?_; exact Kd.R_mono (Kd.R_far (p := ⟨gb528, 1, none⟩) (Kd.R_types HO_498000.out BK528.out (by decide)) (fun _ hk => hk.2) (.slice Ao53 t530.length co53)) (fun _ hk => hk.1)⟩, ⟨by (with_reducible repeat (first | apply Kd.N_alloc | apply Kd.N_drewN | apply Kd.N_drew)); exact Kd.N_mono (Kd.N_far (p := ⟨gb528, 1, none⟩) (Kd.N_mono HO_498001.out (fun k_ hk => (⟨hk, hk.2.2.2.2.2.2.2.1⟩ : _ ∧ k_ ≠ gb528))) (fun _ hk => hk.2) (.slice Ao53 t530.length co53)) (fun _ hk => ⟨hk.1.1, ⟨hk.1.2.1, ⟨hk.1.2.2.1, ⟨hk.1.2.2.2.1, ⟨hk.1.2.2.2.2.2.2.2.2, ⟨hk.1.2.2.2.2.1, ⟨hk.1.2.2.2.2.2.1, ⟨hk.1.2.2.2.2.2.2.1, hk.1.2.2.2.2.2.2.2.1⟩⟩⟩⟩⟩⟩⟩⟩)⟩, ⟨by refine rr_ ?_; exact Kd.R_mono (Kd.R_far (p := ⟨gb528, 1, none⟩) (Kd.R_types HO532.out BK528.out (by decide)) (fun _ hk => hk.2) (.slice Ao53 t530.length co53)) (fun _ hk => ⟨hk.1.1, hk.1.2⟩)⟩, ⟨by refine rb_ ?_; refine blk_far ?_ NB488_528.out _; refine rb_ ?_; exact BK488.out⟩, ⟨by refine rb_ ?_; refine blk_far ?_ NB489_528.out _; refine rb_ ?_; exact BK489.out⟩, ⟨by refine rb_ ?_; refine blk_far ?_ NB497_528.out _; refine rb_ ?_; exact BK497.out⟩, ⟨by refine rb_ ?_; refine blk_put (cs := #[.int .i64 0, .slice Ao34 t525.length co34, .bool false]) ?_ 1 _ rfl; refine rb_ ?_; exact BK528.out⟩, ⟨by exact zp27_1_ HB.out GE488.out GE489.out GE497.out GE528.out⟩⟩
           ·replace c46 := Bool.eq_false_iff.mpr c46
            subst c46
            have H1 : (spec_StarDfa.j2 k2 x4_2 x6_1 x7_2 x8_2 l0_0 l0_1 x498000_1 x498001_1 0 t525 false) = some (r1, r2, r3) := by rw [if_neg (show ¬ (false = true) by decide)] at H; exact H
            clear H
            have H := H1
            clear H1
            have H' := am_ H
            clear H
            go_wp2
            go_meet
            case rel => exact ⟨_, (t525), (.slice Ao34 t525.length co34), H', ⟨by have := HK1.out; have := HK2.out; first | omega | exact Nat.le_refl _⟩, ⟨by (with_reducible repeat (first | apply Kd.N_alloc | apply Kd.N_drewN | apply Kd.N_drew)); exact Kd.N_mono HO_4.out (fun _ hk => ⟨hk.1, ⟨hk.2.2.2.2.1, ⟨hk.2.2.1, ⟨hk.2.2.2.1, ⟨hk.2.1, ⟨hk.2.2.2.2.2.1, ⟨hk.2.2.2.2.2.2.1, ⟨hk.2.2.2.2.2.2.2.1, hk.2.2.2.2.2.2.2.2⟩⟩⟩⟩⟩⟩⟩⟩)⟩, ⟨by refine rr_ ?_; exact HO_7.out⟩, ⟨by refine rr_ ?_; exact HO_498000.out⟩, ⟨by (with_reducible repeat (first | apply Kd.N_alloc | apply Kd.N_drewN | apply Kd.N_drew)); exact Kd.N_mono HO_498001.out (fun _ hk => ⟨hk.1, ⟨hk.2.2.1, ⟨hk.2.2.2.2.1, ⟨hk.2.2.2.1, ⟨hk.2.1, ⟨hk.2.2.2.2.2.1, ⟨hk.2.2.2.2.2.2.1, ⟨hk.2.2.2.2.2.2.2.1, hk.2.2.2.2.2.2.2.2⟩⟩⟩⟩⟩⟩⟩⟩)⟩, ⟨by refine rr_ ?_; exact HO527.out⟩, ⟨by refine rb_ ?_; exact BK488.out⟩, ⟨by refine rb_ ?_; exact BK489.out⟩, ⟨by refine rb_ ?_; exact BK497.out⟩, ⟨by refine rb_ ?_; exact BK528.out⟩, ⟨by exact zp27_1_ HB.out GE488.out GE489.out GE497.out GE528.out⟩⟩
          case rest =>
           clear HC27
           try clear c1
           try clear c2
           try clear p2
           try clear c3
           try clear c4
           try clear c5
           try clear p5
           try clear q5
           try clear hx5
           try clear c6
           try clear c7
           try clear c15
           try clear c16
           try clear c18
           try clear c18b0
           try clear c22
           try clear c22b0
           try clear c23
           try clear c23b0
           try clear c24
           try clear c24b0
           try clear c38
           try clear c39
           try clear c40
           try clear c42
           try clear c43
           try clear c46
           try clear c48
           try clear c49
           try clear c50
           try clear c52
           try clear p52
           try clear q52
           try clear hx52
           try clear hcz17_0
           try clear hcz17_1
           try clear hcz41_0
           try clear hcz41_1
           try clear hcz44_0
           try clear hcz44_1
           try clear hcz44_2
           try clear hcz51_0
           try clear hcz51_1
           try clear hcz51_2
           try clear hcz54_0
           try clear hcz54_1
           try clear hcz54_2
           try clear hcz7_0
           try clear hcz7_1
           try clear hfz17_0
           try clear hfz17_1
           try clear hfz41_0
           try clear hfz41_1
           try clear hfz44_0
           try clear hfz44_1
           try clear hfz44_2
           try clear hfz51_0
           try clear hfz51_1
           try clear hfz51_2
           try clear hfz54_0
           try clear hfz54_1
           try clear hfz54_2
           try clear hfz7_0
           try clear hfz7_1
           try clear hx524_0
           try clear hx524_1
           try clear hx524_2
           try clear p2
           try clear p524
           try clear q524
           obtain ⟨kq, x529001_26, u529001, HA, HJ26, HO_4, HO_7, HO_498000, HO_498001, HO_529001, BK488, BK489, BK497, BK528, HB⟩ := hcut
           cases kq with
           | zero => exact absurd HA.out (by simp [spec_StarDfa.j2])
           | succ kj26 =>
            have H := HA.out
            clear HA
            simp only [spec_StarDfa.j2] at H
            replace H := Option.bind_eq_some_iff.mp H
            obtain ⟨t533, A550, H⟩ := H
            have A55 := am_ A550
            clear A550
            by_cases c56 : t533 < 0
            ·rw [if_pos c56] at H
             have c56b0 : decide (t533 < 0) = true := decide_eq_true c56
             clear c56
             by_cases c57 : x4_2.length < 3518437208883
             ·rw [if_pos c57] at H
              have LMc57 := am_ c57
              clear c57
              obtain ⟨y534, hy534⟩ : ∃ y_ : List (S78), y_ = (x4_2 ++ [(⟨0, x529001_26, false⟩ : S78)]) := ⟨_, rfl⟩
              replace H : ((spec_l6Find.f kj26 y534 0 x529001_26 false).bind fun t537 => (if x7_2.length < 17592186044416 then (spec_StarDfa.l1 kj26 y534 x6_1 (x7_2 ++ [t537]) (wrap64 (x8_2 + 1)) l0_0 l0_1 x498000_1 x498001_1) else (none))) = some (r1, r2, r3) := by first | (rw [hy534]; with_reducible exact H) | (have H2_ := (Option.bind_some _ _).symm.trans H; rw [hy534]; with_reducible exact H2_) | (have H2_ := (Option.bind_some _ _).symm.trans H; with_reducible exact H2_) | with_reducible exact H | (rw [hy534]; exact H) | exact H
              have Ny534 := am_ hy534
              clear hy534
              replace H := Option.bind_eq_some_iff.mp H
              obtain ⟨t537, A580, H⟩ := H
              have A58 := am_ A580
              clear A580
              by_cases c59 : x7_2.length < 17592186044416
              ·rw [if_pos c59] at H
               have LMc59 := am_ c59
               clear c59
               obtain ⟨y538, hy538⟩ : ∃ y_ : List Int, y_ = (x7_2 ++ [t537]) := ⟨_, rfl⟩
               replace H : (spec_StarDfa.l1 kj26 y534 x6_1 y538 (wrap64 (x8_2 + 1)) l0_0 l0_1 x498000_1 x498001_1) = some (r1, r2, r3) := by first | (rw [hy538]; with_reducible exact H) | (have H2_ := (Option.bind_some _ _).symm.trans H; rw [hy538]; with_reducible exact H2_) | (have H2_ := (Option.bind_some _ _).symm.trans H; with_reducible exact H2_) | with_reducible exact H | (rw [hy538]; exact H) | exact H
               have Ny538 := am_ hy538
               clear hy538
               have H' := am_ H
               clear H
               have hnb60 := NB528_488.out
               have hnc60 := NB488_528.out
               have hnb61 := NB528_489.out
               have hnc61 := NB489_528.out
               have hnb62 := NB528_497.out
               have hnc62 := NB497_528.out
               have hcz63_0 : wc.cell? ⟨gb528, 0, none⟩ = some (.int .i64 0) := (blk_cell BK528.out 0).trans rfl
               have hcz63_1 : wc.cell? ⟨gb528, 1, none⟩ = some (u529001) := (blk_cell BK528.out 1).trans rfl
               have hcz63_2 : wc.cell? ⟨gb528, 2, none⟩ = some (.bool false) := (blk_cell BK528.out 2).trans rfl
               have hfz63_0 := blk_frozen BK528.out 0
               have hfz63_1 := blk_frozen BK528.out 1
               have hfz63_2 := blk_frozen BK528.out 2
               obtain ⟨Ao64, co64, eo64⟩ := Kd.R_slice HO_529001.out
               subst eo64
               go_wp2_with (first | ((with_reducible refine gate_callee (f := 75) rfl ?_); refine gL_ (some 50) Try.func75 #[.slice (some ad524) x4_2.length co29, .agg #[.int .i64 0, .slice Ao64 x529001_26.length co64, .bool false]] ?_; (with_reducible refine (spec_l6Find.calls kj26 _ _ x4_2 0 _ _ x529001_26 false t533 _ ?side1 ?side2 ?side3 ?side4 A55.out).mono ?_); (case side1 => exact rc_ ((Kd.N_reads' HO_4.out).2.2)); (case side2 => exact (Kd.N_reads' HO_4.out).2.1); (case side3 => exact rc_ ((Kd.R_reads' HO_529001.out).2.2)); (case side4 => exact (Kd.R_reads' HO_529001.out).2.1); rintro e w65 ⟨rfl, hb⟩; refine ⟨_, rfl, ?_⟩; have n0_ := am_ (Kd.N_below (by (with_reducible repeat (first | apply Kd.N_alloc | apply Kd.N_drewN | apply Kd.N_drew)); exact HO_4.out) hb); have n1_ := am_ (Kd.R_below (rr_ HO_7.out) hb); have n2_ := am_ (Kd.R_below (rr_ HO_498000.out) hb); have n3_ := am_ (Kd.N_below (by (with_reducible repeat (first | apply Kd.N_alloc | apply Kd.N_drewN | apply Kd.N_drew)); exact HO_498001.out) hb); have n4_ := am_ (Kd.R_below (rr_ HO_529001.out) hb); have n5_ := am_ (blk_below (rb_ BK488.out) hb); have n6_ := am_ (blk_below (rb_ BK489.out) hb); have n7_ := am_ (blk_below (rb_ BK497.out) hb); have n8_ := am_ (blk_below (rb_ BK528.out) hb); have n9_ := am_ (below_step (b4_ HB.out GE488.out GE489.out GE497.out GE528.out) hb); clear HO_4; clear HO_7; clear HO_498000; clear HO_498001; clear HO_529001; clear BK488; clear BK489; clear BK497; clear BK528; clear HB; have HO_4 := n0_; have HO_7 := n1_; have HO_498000 := n2_; have HO_498001 := n3_; have HO_529001 := n4_; have BK488 := n5_; have BK489 := n6_; have BK497 := n7_; have BK528 := n8_; have HB := n9_; clear n0_ n1_ n2_ n3_ n4_ n5_ n6_ n7_ n8_ n9_; (try clear hb); (try clear hb2); (try clear hk); (try clear hi); have hcz66_0 : w65.cell? ⟨gb528, 0, none⟩ = some (.int .i64 0) := (blk_cell BK528.out 0).trans rfl; have hcz66_1 : w65.cell? ⟨gb528, 1, none⟩ = some (.slice Ao64 x529001_26.length co64) := (blk_cell BK528.out 1).trans rfl; have hcz66_2 : w65.cell? ⟨gb528, 2, none⟩ = some (.bool false) := (blk_cell BK528.out 2).trans rfl; have hfz66_0 := blk_frozen BK528.out 0; have hfz66_1 := blk_frozen BK528.out 1; have hfz66_2 := blk_frozen BK528.out 2) | ((with_reducible refine gate_builtin (b := .append) (xs := #[.tmp 52, .tmp 54]) rfl ?_); at_builtin; refine Kd.N_append k78 (w0 := w) w.heap.size rfl (.tmp 52) (.tmp 54) 79 78 (.agg #[(.int .i64 0), (.slice none 0 0), (.bool false)]) 40 rfl Try.underlying79 info78 rfl (by decide) (by omega) (.slice (some ad524) x4_2.length co29) x4_2 (⟨0, x529001_26, false⟩ : S78) [.int .i64 0, .slice Ao64 x529001_26.length co64, .bool false] (fun k_ => (w.heap.size ≤ k_) ∧ some k_ ≠ (u7 : Value).ownBlock ∧ some k_ ≠ (u498000 : Value).ownBlock ∧ some k_ ≠ (u498001 : Value).ownBlock ∧ k_ ≠ gb488 ∧ k_ ≠ gb489 ∧ k_ ≠ gb497 ∧ k_ ≠ gb528) (fun k_ => ((fun k_ => (w.heap.size ≤ k_) ∧ some k_ ≠ (u7 : Value).ownBlock ∧ some k_ ≠ (u498000 : Value).ownBlock ∧ some k_ ≠ (u498001 : Value).ownBlock ∧ k_ ≠ gb488 ∧ k_ ≠ gb489 ∧ k_ ≠ gb497 ∧ k_ ≠ gb528)) k_ ∧ some k_ ≠ (.slice (some ad524) x4_2.length co29 : Value).ownBlock) rfl rfl ?aP (fun _ hk => hk) ?aF ?aO ?aB ?aS ?aL ?_; (case aP => exact (k78_mkF _ _ (⟨0, x529001_26, false⟩ : S78) (Kd.R_reads' (Kd.R_mono (ok' := (fun k_ => ((fun k_ => (w.heap.size ≤ k_) ∧ some k_ ≠ (u7 : Value).ownBlock ∧ some k_ ≠ (u498000 : Value).ownBlock ∧ some k_ ≠ (u498001 : Value).ownBlock ∧ k_ ≠ gb488 ∧ k_ ≠ gb489 ∧ k_ ≠ gb497 ∧ k_ ≠ gb528)) k_ ∧ some k_ ≠ (.slice (some ad524) x4_2.length co29 : Value).ownBlock)) (Kd.R_types (Kd.R_types (Kd.R_types (Kd.R_types (Kd.R_apart' (Kd.R_apart' (Kd.R_apart' (HO_529001.out) (Kd.R_typed HO_498000.out) (by decide)) (Kd.N_typed HO_498001.out) (by decide)) (Kd.N_typed HO_4.out) (by decide)) BK488.out (by decide)) BK489.out (by decide)) BK497.out (by decide)) BK528.out (by decide)) (fun k_ hk => ⟨⟨hk.1.1.1.1.1.1.1.1, ⟨hk.1.1.1.1.1.1.1.2, ⟨hk.1.1.1.1.1.1.2, ⟨hk.1.1.1.1.1.2, ⟨hk.1.1.1.2, ⟨hk.1.1.2, ⟨hk.1.2, hk.2⟩⟩⟩⟩⟩⟩⟩, hk.1.1.1.1.2⟩))).2.1 (Kd.R_F (Kd.R_mono (ok' := (fun k_ => ((fun k_ => (w.heap.size ≤ k_) ∧ some k_ ≠ (u7 : Value).ownBlock ∧ some k_ ≠ (u498000 : Value).ownBlock ∧ some k_ ≠ (u498001 : Value).ownBlock ∧ k_ ≠ gb488 ∧ k_ ≠ gb489 ∧ k_ ≠ gb497 ∧ k_ ≠ gb528)) k_ ∧ some k_ ≠ (.slice (some ad524) x4_2.length co29 : Value).ownBlock)) (Kd.R_types (Kd.R_types (Kd.R_types (Kd.R_types (Kd.R_apart' (Kd.R_apart' (Kd.R_apart' (HO_529001.out) (Kd.R_typed HO_498000.out) (by decide)) (Kd.N_typed HO_498001.out) (by decide)) (Kd.N_typed HO_4.out) (by decide)) BK488.out (by decide)) BK489.out (by decide)) BK497.out (by decide)) BK528.out (by decide)) (fun k_ hk => ⟨⟨hk.1.1.1.1.1.1.1.1, ⟨hk.1.1.1.1.1.1.1.2, ⟨hk.1.1.1.1.1.1.2, ⟨hk.1.1.1.1.1.2, ⟨hk.1.1.1.2, ⟨hk.1.1.2, ⟨hk.1.2, hk.2⟩⟩⟩⟩⟩⟩⟩, hk.1.1.1.1.2⟩))))); (case aB => exact (b4_ HB.out GE488.out GE489.out GE497.out GE528.out)); (case aF => exact (fun k_ hk => ⟨(Nat.le_trans (below_size (b4_ HB.out GE488.out GE489.out GE497.out GE528.out)) hk), Kd.fresh' (Kd.R_lt (rr_ HO_7.out)) k_ hk, Kd.fresh' (Kd.R_lt (rr_ HO_498000.out)) k_ hk, Kd.fresh' (Kd.N_lt (by (with_reducible repeat (first | apply Kd.N_alloc | apply Kd.N_drewN | apply Kd.N_drew)); exact HO_498001.out)) k_ hk, Kd.freshB (g := gb488) (o := .cells #[.slice A0_0 l0_0.length c0_0, .slice A0_1 l0_1.length c0_1] 27 (0, 0)) (rb_ BK488.out) k_ hk, Kd.freshB (g := gb489) (o := .cells #[.slice none 0 0, .slice none 0 0] 27 (0, 0)) (rb_ BK489.out) k_ hk, Kd.freshB (g := gb497) (o := .cells #[u498000, u498001] 27 (0, 0)) (rb_ BK497.out) k_ hk, Kd.freshB (g := gb528) (o := .cells #[.int .i64 0, .slice Ao64 x529001_26.length co64, .bool false] 78 (0, 0)) (rb_ BK528.out) k_ hk⟩)); (case aO => exact (by (with_reducible repeat (first | apply Kd.N_alloc | apply Kd.N_drewN | apply Kd.N_drew)); exact Kd.N_mono HO_4.out (fun _ hk => ⟨hk.1, ⟨hk.2.1, ⟨hk.2.2.1, ⟨hk.2.2.2.1, ⟨hk.2.2.2.2.2.1, ⟨hk.2.2.2.2.2.2.1, ⟨hk.2.2.2.2.2.2.2.1, hk.2.2.2.2.2.2.2.2⟩⟩⟩⟩⟩⟩⟩))); (case aS => exact (below_size (b4_ HB.out GE488.out GE489.out GE497.out GE528.out))); (case aL => have := LMc57.out; omega); intro v535 w67 ho hb hg hat; rw [← Ny534.out] at ho; have HOX := am_ (Kd.R_over' (rr_ HO_529001.out) (Kd.N_typed (by (with_reducible repeat (first | apply Kd.N_alloc | apply Kd.N_drewN | apply Kd.N_drew)); exact HO_4.out)) (by decide) hg); have n0_ := am_ (Kd.R_over' (rr_ HO_7.out) (Kd.N_typed (by (with_reducible repeat (first | apply Kd.N_alloc | apply Kd.N_drewN | apply Kd.N_drew)); exact HO_4.out)) (by decide) hg); have n1_ := am_ (Kd.R_over' (rr_ HO_498000.out) (Kd.N_typed (by (with_reducible repeat (first | apply Kd.N_alloc | apply Kd.N_drewN | apply Kd.N_drew)); exact HO_4.out)) (by decide) hg); have n2_ := am_ (Kd.N_afterv (ok := (fun k_ => (w.heap.size ≤ k_) ∧ some k_ ≠ (u7 : Value).ownBlock ∧ some k_ ≠ (u498000 : Value).ownBlock ∧ some k_ ≠ (.slice Ao64 x529001_26.length co64 : Value).ownBlock ∧ k_ ≠ gb488 ∧ k_ ≠ gb489 ∧ k_ ≠ gb497 ∧ k_ ≠ gb528)) (by (with_reducible repeat (first | apply Kd.N_alloc | apply Kd.N_drewN | apply Kd.N_drew)); exact Kd.N_mono HO_498001.out (fun _ hk => ⟨⟨hk.1, ⟨hk.2.2.1, ⟨hk.2.2.2.1, ⟨hk.2.2.2.2.1, ⟨hk.2.2.2.2.2.1, ⟨hk.2.2.2.2.2.2.1, ⟨hk.2.2.2.2.2.2.2.1, hk.2.2.2.2.2.2.2.2⟩⟩⟩⟩⟩⟩⟩, hk.2.1⟩)) hg hat); have n3_ := am_ (blk_grown (g := gb488) (o := .cells #[.slice A0_0 l0_0.length c0_0, .slice A0_1 l0_1.length c0_1] 27 (0, 0)) (rb_ BK488.out) hg (Kd.N_ne HO_4.out BK488.out (by decide))); have n4_ := am_ (blk_grown (g := gb489) (o := .cells #[.slice none 0 0, .slice none 0 0] 27 (0, 0)) (rb_ BK489.out) hg (Kd.N_ne HO_4.out BK489.out (by decide))); have n5_ := am_ (blk_grown (g := gb497) (o := .cells #[u498000, u498001] 27 (0, 0)) (rb_ BK497.out) hg (Kd.N_ne HO_4.out BK497.out (by decide))); have n6_ := am_ (blk_grown (g := gb528) (o := .cells #[.int .i64 0, .slice Ao64 x529001_26.length co64, .bool false] 78 (0, 0)) (rb_ BK528.out) hg (Kd.N_away HO_4.out (fun _ hk => hk.2.2.2.2.2.2.2.2))); have n7_ := am_ (hb); have n8_ := am_ (ho); clear HO_7; clear HO_498000; clear HO_498001; clear BK488; clear BK489; clear BK497; clear BK528; clear HB; clear HO_4; clear HO_529001; have HO_7 := n0_; have HO_498000 := n1_; have HO_498001 := n2_; have BK488 := n3_; have BK489 := n4_; have BK497 := n5_; have BK528 := n6_; have HB := n7_; have HO536 := n8_; clear n0_ n1_ n2_ n3_ n4_ n5_ n6_ n7_ n8_; clear ho hb hg hat; have hcz68_0 : w67.cell? ⟨gb528, 0, none⟩ = some (.int .i64 0) := (blk_cell BK528.out 0).trans rfl; have hcz68_1 : w67.cell? ⟨gb528, 1, none⟩ = some (.slice Ao64 x529001_26.length co64) := (blk_cell BK528.out 1).trans rfl; have hcz68_2 : w67.cell? ⟨gb528, 2, none⟩ = some (.bool false) := (blk_cell BK528.out 2).trans rfl; have hfz68_0 := blk_frozen BK528.out 0; have hfz68_1 := blk_frozen BK528.out 1; have hfz68_2 := blk_frozen BK528.out 2; obtain ⟨Ao69, co69, eo69⟩ := Kd.N_slice HO536.out; subst eo69) | ((with_reducible refine gate_callee (f := 75) rfl ?_); refine gL_ (some 59) Try.func75 #[.slice Ao69 y534.length co69, .agg #[.int .i64 0, .slice Ao64 x529001_26.length co64, .bool false]] ?_; (with_reducible refine (spec_l6Find.calls kj26 _ _ y534 0 _ _ x529001_26 false t537 _ ?side1 ?side2 ?side3 ?side4 A58.out).mono ?_); (case side1 => exact rc_ ((Kd.N_reads' HO536.out).2.2)); (case side2 => exact (Kd.N_reads' HO536.out).2.1); (case side3 => exact rc_ ((Kd.R_reads' HOX.out).2.2)); (case side4 => exact (Kd.R_reads' HOX.out).2.1); rintro e w70 ⟨rfl, hb⟩; refine ⟨_, rfl, ?_⟩; have n0_ := am_ (Kd.R_below (rr_ HO_7.out) hb); have n1_ := am_ (Kd.R_below (rr_ HO_498000.out) hb); have n2_ := am_ (Kd.N_below (by (with_reducible repeat (first | apply Kd.N_alloc | apply Kd.N_drewN | apply Kd.N_drew)); exact HO_498001.out) hb); have n3_ := am_ (Kd.N_below (by (with_reducible repeat (first | apply Kd.N_alloc | apply Kd.N_drewN | apply Kd.N_drew)); exact HO536.out) hb); have n4_ := am_ (blk_below (rb_ BK488.out) hb); have n5_ := am_ (blk_below (rb_ BK489.out) hb); have n6_ := am_ (blk_below (rb_ BK497.out) hb); have n7_ := am_ (blk_below (rb_ BK528.out) hb); have n8_ := am_ (below_step (b4_ HB.out GE488.out GE489.out GE497.out GE528.out) hb); clear HO_7; clear HO_498000; clear HO_498001; clear HO536; clear BK488; clear BK489; clear BK497; clear BK528; clear HB; have HO_7 := n0_; have HO_498000 := n1_; have HO_498001 := n2_; have HO536 := n3_; have BK488 := n4_; have BK489 := n5_; have BK497 := n6_; have BK528 := n7_; have HB := n8_; clear n0_ n1_ n2_ n3_ n4_ n5_ n6_ n7_ n8_; (try clear hb); (try clear hb2); (try clear hk); (try clear hi)) | ((with_reducible refine gate_builtin (b := .append) (xs := #[.tmp 56, .tmp 60]) rfl ?_); at_builtin; refine Kd.R_append (Kd.int .i64) (w0 := w) w.heap.size rfl (.tmp 56) (.tmp 60) 67 3 (.int .i64 0) 8 rfl Try.underlying67 info3 rfl (by decide) (by omega) u7 x7_2 t537 [.int .i64 t537] (fun k_ => (w.heap.size ≤ k_)) (fun _ => False) rfl rfl ?aP (fun _ hk => hk.elim) ?aF ?aO ?aB ?aS ?aL ?_; (case aP => exact rfl); (case aB => exact (b4_ HB.out GE488.out GE489.out GE497.out GE528.out)); (case aF => exact (fun k_ hk => (Nat.le_trans (below_size (b4_ HB.out GE488.out GE489.out GE497.out GE528.out)) hk))); (case aO => exact (rr_ (Kd.R_mono HO_7.out (fun _ hk => hk.1)))); (case aS => exact (below_size (b4_ HB.out GE488.out GE489.out GE497.out GE528.out))); (case aL => have := LMc59.out; omega); intro v539 w71 ho hb hg hat; rw [← Ny538.out] at ho; have n0_ := am_ (Kd.R_over' (rr_ HO_498000.out) (Kd.R_typed (rr_ HO_7.out)) (by decide) hg); have n1_ := am_ (Kd.N_afterv (ok := (fun k_ => (w.heap.size ≤ k_) ∧ some k_ ≠ (u498000 : Value).ownBlock ∧ some k_ ≠ (.slice Ao69 y534.length co69 : Value).ownBlock ∧ k_ ≠ gb488 ∧ k_ ≠ gb489 ∧ k_ ≠ gb497 ∧ k_ ≠ gb528)) (by (with_reducible repeat (first | apply Kd.N_alloc | apply Kd.N_drewN | apply Kd.N_drew)); exact Kd.N_mono HO_498001.out (fun _ hk => ⟨⟨hk.1.1, ⟨hk.1.2.2.1, ⟨hk.2, ⟨hk.1.2.2.2.2.1, ⟨hk.1.2.2.2.2.2.1, ⟨hk.1.2.2.2.2.2.2.1, hk.1.2.2.2.2.2.2.2⟩⟩⟩⟩⟩⟩, hk.1.2.1⟩)) hg hat); have n2_ := am_ (blk_grown (g := gb488) (o := .cells #[.slice A0_0 l0_0.length c0_0, .slice A0_1 l0_1.length c0_1] 27 (0, 0)) (rb_ BK488.out) hg (Kd.R_ne HO_7.out BK488.out (by decide))); have n3_ := am_ (blk_grown (g := gb489) (o := .cells #[.slice none 0 0, .slice none 0 0] 27 (0, 0)) (rb_ BK489.out) hg (Kd.R_ne HO_7.out BK489.out (by decide))); have n4_ := am_ (blk_grown (g := gb497) (o := .cells #[u498000, u498001] 27 (0, 0)) (rb_ BK497.out) hg (Kd.R_ne HO_7.out BK497.out (by decide))); have n5_ := am_ (blk_grown (g := gb528) (o := .cells #[.int .i64 0, .slice Ao64 x529001_26.length co64, .bool false] 78 (0, 0)) (rb_ BK528.out) hg (Kd.R_ne HO_7.out BK528.out (by decide))); have n6_ := am_ (Kd.N_afterv (ok := (fun k_ => (w.heap.size ≤ k_) ∧ some k_ ≠ (u498000 : Value).ownBlock ∧ some k_ ≠ (u498001 : Value).ownBlock ∧ k_ ≠ gb488 ∧ k_ ≠ gb489 ∧ k_ ≠ gb497 ∧ k_ ≠ gb528)) (by (with_reducible repeat (first | apply Kd.N_alloc | apply Kd.N_drewN | apply Kd.N_drew)); exact Kd.N_mono HO536.out (fun _ hk => ⟨⟨hk.1, ⟨hk.2.2.1, ⟨hk.2.2.2.1, ⟨hk.2.2.2.2.1, ⟨hk.2.2.2.2.2.1, ⟨hk.2.2.2.2.2.2.1, hk.2.2.2.2.2.2.2⟩⟩⟩⟩⟩⟩, hk.2.1⟩)) hg hat); have n7_ := am_ (hb); have n8_ := am_ (ho); clear HO_498000; clear HO_498001; clear BK488; clear BK489; clear BK497; clear BK528; clear HO536; clear HB; clear HO_7; have HO_498000 := n0_; have HO_498001 := n1_; have BK488 := n2_; have BK489 := n3_; have BK497 := n4_; have BK528 := n5_; have HO536 := n6_; have HB := n7_; have HO540 := n8_; clear n0_ n1_ n2_ n3_ n4_ n5_ n6_ n7_ n8_; clear ho hb hg hat))
               go_roundg kj26
               case measure => have := HK1.out; have := HK2.out; have := HJ26.out; omega
               case rel => exact ⟨(y534), (y538), (wrap64 (x8_2 + 1)), (by first | rfl | (simp; done) | (simp [*]; done)), H', ⟨by have := HK1.out; have := HK2.out; have := HJ26.out; omega⟩, ⟨by (with_reducible repeat (first | apply Kd.N_alloc | apply Kd.N_drewN | apply Kd.N_drew)); exact Kd.N_mono HO536.out (fun _ hk => ⟨hk.1.1, ⟨hk.2, ⟨hk.1.2.1, ⟨hk.1.2.2.1, ⟨hk.1.2.2.2.1, ⟨hk.1.2.2.2.2.1, hk.1.2.2.2.2.2.1⟩⟩⟩⟩⟩⟩)⟩, ⟨by refine rr_ ?_; exact HO540.out⟩, ⟨by refine rr_ ?_; exact HO_498000.out⟩, ⟨by (with_reducible repeat (first | apply Kd.N_alloc | apply Kd.N_drewN | apply Kd.N_drew)); exact Kd.N_mono HO_498001.out (fun _ hk => ⟨hk.1.1, ⟨hk.1.2.2.1, ⟨hk.2, ⟨hk.1.2.1, ⟨hk.1.2.2.2.1, ⟨hk.1.2.2.2.2.1, hk.1.2.2.2.2.2.1⟩⟩⟩⟩⟩⟩)⟩, ⟨by refine rb_ ?_; exact BK488.out⟩, ⟨by refine rb_ ?_; exact BK489.out⟩, ⟨by refine rb_ ?_; exact BK497.out⟩, ⟨by exact zp27_1_ HB.out GE488.out GE489.out GE497.out GE528.out⟩⟩
              ·rw [if_neg c59] at H
               exact absurd H (by simp)
             ·rw [if_neg c57] at H
              exact absurd H (by simp)
            ·rw [if_neg c56] at H
             have c56b0 : decide (t533 < 0) = false := decide_eq_false c56
             clear c56
             replace H := Option.bind_eq_some_iff.mp H
             obtain ⟨t541, A720, H⟩ := H
             have A72 := am_ A720
             clear A720
             by_cases c73 : x7_2.length < 17592186044416
             ·rw [if_pos c73] at H
              have LMc73 := am_ c73
              clear c73
              obtain ⟨y542, hy542⟩ : ∃ y_ : List Int, y_ = (x7_2 ++ [t541]) := ⟨_, rfl⟩
              replace H : (spec_StarDfa.l1 kj26 x4_2 x6_1 y542 (wrap64 (x8_2 + 1)) l0_0 l0_1 x498000_1 x498001_1) = some (r1, r2, r3) := by first | (rw [hy542]; with_reducible exact H) | (have H2_ := (Option.bind_some _ _).symm.trans H; rw [hy542]; with_reducible exact H2_) | (have H2_ := (Option.bind_some _ _).symm.trans H; with_reducible exact H2_) | with_reducible exact H | (rw [hy542]; exact H) | exact H
              have Ny542 := am_ hy542
              clear hy542
              have H' := am_ H
              clear H
              have hnb74 := NB528_488.out
              have hnc74 := NB488_528.out
              have hnb75 := NB528_489.out
              have hnc75 := NB489_528.out
              have hnb76 := NB528_497.out
              have hnc76 := NB497_528.out
              have hcz77_0 : wc.cell? ⟨gb528, 0, none⟩ = some (.int .i64 0) := (blk_cell BK528.out 0).trans rfl
              have hcz77_1 : wc.cell? ⟨gb528, 1, none⟩ = some (u529001) := (blk_cell BK528.out 1).trans rfl
              have hcz77_2 : wc.cell? ⟨gb528, 2, none⟩ = some (.bool false) := (blk_cell BK528.out 2).trans rfl
              have hfz77_0 := blk_frozen BK528.out 0
              have hfz77_1 := blk_frozen BK528.out 1
              have hfz77_2 := blk_frozen BK528.out 2
              obtain ⟨Ao78, co78, eo78⟩ := Kd.R_slice HO_529001.out
              subst eo78
              go_wp2_with (first | ((with_reducible refine gate_callee (f := 75) rfl ?_); refine gL_ (some 50) Try.func75 #[.slice (some ad524) x4_2.length co29, .agg #[.int .i64 0, .slice Ao78 x529001_26.length co78, .bool false]] ?_; (with_reducible refine (spec_l6Find.calls kj26 _ _ x4_2 0 _ _ x529001_26 false t533 _ ?side1 ?side2 ?side3 ?side4 A55.out).mono ?_); (case side1 => exact rc_ ((Kd.N_reads' HO_4.out).2.2)); (case side2 => exact (Kd.N_reads' HO_4.out).2.1); (case side3 => exact rc_ ((Kd.R_reads' HO_529001.out).2.2)); (case side4 => exact (Kd.R_reads' HO_529001.out).2.1); rintro e w79 ⟨rfl, hb⟩; refine ⟨_, rfl, ?_⟩; have n0_ := am_ (Kd.N_below (by (with_reducible repeat (first | apply Kd.N_alloc | apply Kd.N_drewN | apply Kd.N_drew)); exact HO_4.out) hb); have n1_ := am_ (Kd.R_below (rr_ HO_7.out) hb); have n2_ := am_ (Kd.R_below (rr_ HO_498000.out) hb); have n3_ := am_ (Kd.N_below (by (with_reducible repeat (first | apply Kd.N_alloc | apply Kd.N_drewN | apply Kd.N_drew)); exact HO_498001.out) hb); have n4_ := am_ (Kd.R_below (rr_ HO_529001.out) hb); have n5_ := am_ (blk_below (rb_ BK488.out) hb); have n6_ := am_ (blk_below (rb_ BK489.out) hb); have n7_ := am_ (blk_below (rb_ BK497.out) hb); have n8_ := am_ (blk_below (rb_ BK528.out) hb); have n9_ := am_ (below_step (b4_ HB.out GE488.out GE489.out GE497.out GE528.out) hb); clear HO_4; clear HO_7; clear HO_498000; clear HO_498001; clear HO_529001; clear BK488; clear BK489; clear BK497; clear BK528; clear HB; have HO_4 := n0_; have HO_7 := n1_; have HO_498000 := n2_; have HO_498001 := n3_; have HO_529001 := n4_; have BK488 := n5_; have BK489 := n6_; have BK497 := n7_; have BK528 := n8_; have HB := n9_; clear n0_ n1_ n2_ n3_ n4_ n5_ n6_ n7_ n8_ n9_; (try clear hb); (try clear hb2); (try clear hk); (try clear hi); have hcz80_0 : w79.cell? ⟨gb528, 0, none⟩ = some (.int .i64 0) := (blk_cell BK528.out 0).trans rfl; have hcz80_1 : w79.cell? ⟨gb528, 1, none⟩ = some (.slice Ao78 x529001_26.length co78) := (blk_cell BK528.out 1).trans rfl; have hcz80_2 : w79.cell? ⟨gb528, 2, none⟩ = some (.bool false) := (blk_cell BK528.out 2).trans rfl; have hfz80_0 := blk_frozen BK528.out 0; have hfz80_1 := blk_frozen BK528.out 1; have hfz80_2 := blk_frozen BK528.out 2) | ((with_reducible refine gate_callee (f := 75) rfl ?_); refine gL_ (some 59) Try.func75 #[.slice (some ad524) x4_2.length co29, .agg #[.int .i64 0, .slice Ao78 x529001_26.length co78, .bool false]] ?_; (with_reducible refine (spec_l6Find.calls kj26 _ _ x4_2 0 _ _ x529001_26 false t541 _ ?side1 ?side2 ?side3 ?side4 A72.out).mono ?_); (case side1 => exact rc_ ((Kd.N_reads' HO_4.out).2.2)); (case side2 => exact (Kd.N_reads' HO_4.out).2.1); (case side3 => exact rc_ ((Kd.R_reads' HO_529001.out).2.2)); (case side4 => exact (Kd.R_reads' HO_529001.out).2.1); rintro e w81 ⟨rfl, hb⟩; refine ⟨_, rfl, ?_⟩; have n0_ := am_ (Kd.N_below (by (with_reducible repeat (first | apply Kd.N_alloc | apply Kd.N_drewN | apply Kd.N_drew)); exact HO_4.out) hb); have n1_ := am_ (Kd.R_below (rr_ HO_7.out) hb); have n2_ := am_ (Kd.R_below (rr_ HO_498000.out) hb); have n3_ := am_ (Kd.N_below (by (with_reducible repeat (first | apply Kd.N_alloc | apply Kd.N_drewN | apply Kd.N_drew)); exact HO_498001.out) hb); have n4_ := am_ (Kd.R_below (rr_ HO_529001.out) hb); have n5_ := am_ (blk_below (rb_ BK488.out) hb); have n6_ := am_ (blk_below (rb_ BK489.out) hb); have n7_ := am_ (blk_below (rb_ BK497.out) hb); have n8_ := am_ (blk_below (rb_ BK528.out) hb); have n9_ := am_ (below_step (b4_ HB.out GE488.out GE489.out GE497.out GE528.out) hb); clear HO_4; clear HO_7; clear HO_498000; clear HO_498001; clear HO_529001; clear BK488; clear BK489; clear BK497; clear BK528; clear HB; have HO_4 := n0_; have HO_7 := n1_; have HO_498000 := n2_; have HO_498001 := n3_; have HO_529001 := n4_; have BK488 := n5_; have BK489 := n6_; have BK497 := n7_; have BK528 := n8_; have HB := n9_; clear n0_ n1_ n2_ n3_ n4_ n5_ n6_ n7_ n8_ n9_; (try clear hb); (try clear hb2); (try clear hk); (try clear hi)) | ((with_reducible refine gate_builtin (b := .append) (xs := #[.tmp 56, .tmp 60]) rfl ?_); at_builtin; refine Kd.R_append (Kd.int .i64) (w0 := w) w.heap.size rfl (.tmp 56) (.tmp 60) 67 3 (.int .i64 0) 8 rfl Try.underlying67 info3 rfl (by decide) (by omega) u7 x7_2 t541 [.int .i64 t541] (fun k_ => (w.heap.size ≤ k_) ∧ some k_ ≠ (.slice Ao78 x529001_26.length co78 : Value).ownBlock) (fun _ => False) rfl rfl ?aP (fun _ hk => hk.elim) ?aF ?aO ?aB ?aS ?aL ?_; (case aP => exact rfl); (case aB => exact (b4_ HB.out GE488.out GE489.out GE497.out GE528.out)); (case aF => exact (fun k_ hk => ⟨(Nat.le_trans (below_size (b4_ HB.out GE488.out GE489.out GE497.out GE528.out)) hk), Kd.fresh' (Kd.R_lt (rr_ HO_529001.out)) k_ hk⟩)); (case aO => exact (rr_ HO_7.out)); (case aS => exact (below_size (b4_ HB.out GE488.out GE489.out GE497.out GE528.out))); (case aL => have := LMc73.out; omega); intro v543 w82 ho hb hg hat; rw [← Ny542.out] at ho; have n0_ := am_ (Kd.N_afterv (ok := (fun k_ => (w.heap.size ≤ k_) ∧ some k_ ≠ (u498000 : Value).ownBlock ∧ some k_ ≠ (u498001 : Value).ownBlock ∧ some k_ ≠ (.slice Ao78 x529001_26.length co78 : Value).ownBlock ∧ k_ ≠ gb488 ∧ k_ ≠ gb489 ∧ k_ ≠ gb497 ∧ k_ ≠ gb528)) (by (with_reducible repeat (first | apply Kd.N_alloc | apply Kd.N_drewN | apply Kd.N_drew)); exact Kd.N_mono HO_4.out (fun _ hk => ⟨⟨hk.1, ⟨hk.2.2.1, ⟨hk.2.2.2.1, ⟨hk.2.2.2.2.1, ⟨hk.2.2.2.2.2.1, ⟨hk.2.2.2.2.2.2.1, ⟨hk.2.2.2.2.2.2.2.1, hk.2.2.2.2.2.2.2.2⟩⟩⟩⟩⟩⟩⟩, hk.2.1⟩)) hg hat); have n1_ := am_ (Kd.R_over' (rr_ HO_498000.out) (Kd.R_typed (rr_ HO_7.out)) (by decide) hg); have n2_ := am_ (Kd.N_afterv (ok := (fun k_ => (w.heap.size ≤ k_) ∧ some k_ ≠ (.slice (some ad524) x4_2.length co29 : Value).ownBlock ∧ some k_ ≠ (u498000 : Value).ownBlock ∧ some k_ ≠ (.slice Ao78 x529001_26.length co78 : Value).ownBlock ∧ k_ ≠ gb488 ∧ k_ ≠ gb489 ∧ k_ ≠ gb497 ∧ k_ ≠ gb528)) (by (with_reducible repeat (first | apply Kd.N_alloc | apply Kd.N_drewN | apply Kd.N_drew)); exact Kd.N_mono HO_498001.out (fun _ hk => ⟨⟨hk.1, ⟨hk.2.1, ⟨hk.2.2.2.1, ⟨hk.2.2.2.2.1, ⟨hk.2.2.2.2.2.1, ⟨hk.2.2.2.2.2.2.1, ⟨hk.2.2.2.2.2.2.2.1, hk.2.2.2.2.2.2.2.2⟩⟩⟩⟩⟩⟩⟩, hk.2.2.1⟩)) hg hat); have n3_ := am_ (Kd.R_after (ok := (fun k_ => (w.heap.size ≤ k_))) (rr_ HO_529001.out) hg hat); have n4_ := am_ (blk_grown (g := gb488) (o := .cells #[.slice A0_0 l0_0.length c0_0, .slice A0_1 l0_1.length c0_1] 27 (0, 0)) (rb_ BK488.out) hg (Kd.R_ne HO_7.out BK488.out (by decide))); have n5_ := am_ (blk_grown (g := gb489) (o := .cells #[.slice none 0 0, .slice none 0 0] 27 (0, 0)) (rb_ BK489.out) hg (Kd.R_ne HO_7.out BK489.out (by decide))); have n6_ := am_ (blk_grown (g := gb497) (o := .cells #[u498000, u498001] 27 (0, 0)) (rb_ BK497.out) hg (Kd.R_ne HO_7.out BK497.out (by decide))); have n7_ := am_ (blk_grown (g := gb528) (o := .cells #[.int .i64 0, .slice Ao78 x529001_26.length co78, .bool false] 78 (0, 0)) (rb_ BK528.out) hg (Kd.R_ne HO_7.out BK528.out (by decide))); have n8_ := am_ (hb); have n9_ := am_ (ho); clear HO_4; clear HO_498000; clear HO_498001; clear HO_529001; clear BK488; clear BK489; clear BK497; clear BK528; clear HB; clear HO_7; have HO_4 := n0_; have HO_498000 := n1_; have HO_498001 := n2_; have HO_529001 := n3_; have BK488 := n4_; have BK489 := n5_; have BK497 := n6_; have BK528 := n7_; have HB := n8_; have HO544 := n9_; clear n0_ n1_ n2_ n3_ n4_ n5_ n6_ n7_ n8_ n9_; clear ho hb hg hat))
              go_roundg kj26
              case measure => have := HK1.out; have := HK2.out; have := HJ26.out; omega
              case rel => exact ⟨(x4_2), (y542), (wrap64 (x8_2 + 1)), (by first | rfl | (simp; done) | (simp [*]; done)), H', ⟨by have := HK1.out; have := HK2.out; have := HJ26.out; omega⟩, ⟨by (with_reducible repeat (first | apply Kd.N_alloc | apply Kd.N_drewN | apply Kd.N_drew)); exact Kd.N_mono HO_4.out (fun _ hk => ⟨hk.1.1, ⟨hk.2, ⟨hk.1.2.1, ⟨hk.1.2.2.1, ⟨hk.1.2.2.2.2.1, ⟨hk.1.2.2.2.2.2.1, hk.1.2.2.2.2.2.2.1⟩⟩⟩⟩⟩⟩)⟩, ⟨by refine rr_ ?_; exact Kd.R_mono HO544.out (fun _ hk => hk.1)⟩, ⟨by refine rr_ ?_; exact HO_498000.out⟩, ⟨by (with_reducible repeat (first | apply Kd.N_alloc | apply Kd.N_drewN | apply Kd.N_drew)); exact Kd.N_mono HO_498001.out (fun _ hk => ⟨hk.1.1, ⟨hk.1.2.1, ⟨hk.2, ⟨hk.1.2.2.1, ⟨hk.1.2.2.2.2.1, ⟨hk.1.2.2.2.2.2.1, hk.1.2.2.2.2.2.2.1⟩⟩⟩⟩⟩⟩)⟩, ⟨by refine rb_ ?_; exact BK488.out⟩, ⟨by refine rb_ ?_; exact BK489.out⟩, ⟨by refine rb_ ?_; exact BK497.out⟩, ⟨by exact zp27_1_ HB.out GE488.out GE489.out GE497.out GE528.out⟩⟩
             ·rw [if_neg c73] at H
              exact absurd H (by simp)
         ·rw [if_neg c24] at H
          exact absurd H (by simp)
        ·rw [if_neg c23] at H
         exact absurd H (by simp)
       ·rw [if_neg c22] at H
        have c22b0 : decide (x8_2 < 3) = false := decide_eq_false c22
        clear c22
        by_cases c83 : (x4_2.length : Int) > 400
        ·rw [if_pos c83] at H
         have c83b0 : decide (400 < (x4_2.length : Int)) = true := decide_eq_true c83
         have c83b1 : decide (400 < x4_2.length) = true := decide_eq_true (by omega)
         clear c83
         simp only [Option.some.injEq, Prod.mk.injEq] at H
         obtain ⟨rfl, rfl, rfl⟩ := H
         obtain ⟨Ao84, co84, eo84⟩ := Kd.N_slice HO_4.out
         subst eo84
         have hnb85 := NB489_488.out
         have hnc85 := NB488_489.out
         have hnb86 := NB489_497.out
         have hnc86 := NB497_489.out
         have hcz87_0 : wr.cell? ⟨gb489, 0, none⟩ = some (.slice none 0 0) := (blk_cell BK489.out 0).trans rfl
         have hcz87_1 : wr.cell? ⟨gb489, 1, none⟩ = some (.slice none 0 0) := (blk_cell BK489.out 1).trans rfl
         have hfz87_0 := blk_frozen BK489.out 0
         have hfz87_1 := blk_frozen BK489.out 1
         go_wp2
         refine bodyPost_ret (results_ct rfl _ _ gb489 27 #[.slice none 0 0, .slice none 0 0] (0, 0) _ rfl (by refine rb_ ?_; refine blk_put (cs := #[.slice none 0 0, .slice none 0 0]) ?_ 1 _ rfl; refine rb_ ?_; refine blk_put (cs := #[.slice none 0 0, .slice none 0 0]) ?_ 0 _ rfl; refine rb_ ?_; exact BK489.out) Try.underlying27 rfl (by kernel_rfl)) rfl ?_
         exact ⟨_, _, by first | rfl | (simp [errW_none, errW_some] <;> rfl) | (simp [*, errW_none, errW_some] <;> rfl), by first | exact Kd.R_nil _ _ _ _ _ | exact Kd.N_nil _ _ _ _ _ | exact Kd.V_nil _ _ _ _ _ | exact Kd.Q_nil _ _ _ _ _ | exact Kd.S_nil _ _ _ _ _, by first | exact Kd.S_nil _ _ _ _ _ | exact Kd.N_nil _ _ _ _ _ | exact Kd.V_nil _ _ _ _ _ | exact Kd.Q_nil _ _ _ _ _ | exact Kd.R_nil _ _ _ _ _, by exact zp27_0_ HB.out GE488.out GE489.out GE497.out⟩
        ·rw [if_neg c83] at H
         have c83b0 : decide (400 < (x4_2.length : Int)) = false := decide_eq_false c83
         have c83b1 : decide (400 < x4_2.length) = false := decide_eq_false (by omega)
         clear c83
         by_cases c88 : 0 ≤ x6_1
         ·rw [if_pos c88] at H
          have c88b0 : decide (0 ≤ x6_1) = true := decide_eq_true c88
          clear c88
          by_cases c89 : x6_1 < (x4_2.length : Int)
          ·rw [if_pos c89] at H
           have c89b0 : decide (x6_1 < (x4_2.length : Int)) = true := decide_eq_true c89
           clear c89
           obtain ⟨bq90, hbq90⟩ : ∃ b_ : Bool, b_ = ((rd_T78 x4_2 x6_1).f2) := ⟨_, rfl⟩
           replace H : (if bq90 = true then (if x498000_1.length < 140737488355328 then (if x498001_1.length < 5864062014805 then (spec_StarDfa.l0 k2 x4_2 (wrap64 (x6_1 + 1)) l0_0 l0_1 (x498000_1 ++ [true]) (x498001_1 ++ [x7_2])) else (none)) else (none)) else ((spec_l6Any.f k2 l0_0 l0_1 ((rd_T78 x4_2 x6_1).f1)).bind fun t517 => (if x498000_1.length < 140737488355328 then (if x498001_1.length < 5864062014805 then (spec_StarDfa.l0 k2 x4_2 (wrap64 (x6_1 + 1)) l0_0 l0_1 (x498000_1 ++ [t517]) (x498001_1 ++ [x7_2])) else (none)) else (none)))) = some (r1, r2, r3) := by rw [← hbq90] at H; exact H
           have Nbq90 := am_ hbq90
           clear hbq90
           by_cases c91 : bq90 = true
           ·subst c91
            have H1 : (if x498000_1.length < 140737488355328 then (if x498001_1.length < 5864062014805 then (spec_StarDfa.l0 k2 x4_2 (wrap64 (x6_1 + 1)) l0_0 l0_1 (x498000_1 ++ [true]) (x498001_1 ++ [x7_2])) else (none)) else (none)) = some (r1, r2, r3) := by rw [if_pos rfl] at H; exact H
            clear H
            have H := H1
            clear H1
            by_cases c92 : x498000_1.length < 140737488355328
            ·rw [if_pos c92] at H
             have LMc92 := am_ c92
             clear c92
             obtain ⟨y510, hy510⟩ : ∃ y_ : List Bool, y_ = (x498000_1 ++ [true]) := ⟨_, rfl⟩
             replace H : (if x498001_1.length < 5864062014805 then (spec_StarDfa.l0 k2 x4_2 (wrap64 (x6_1 + 1)) l0_0 l0_1 y510 (x498001_1 ++ [x7_2])) else (none)) = some (r1, r2, r3) := by first | (rw [hy510]; with_reducible exact H) | (have H2_ := (Option.bind_some _ _).symm.trans H; rw [hy510]; with_reducible exact H2_) | (have H2_ := (Option.bind_some _ _).symm.trans H; with_reducible exact H2_) | with_reducible exact H | (rw [hy510]; exact H) | exact H
             have Ny510 := am_ hy510
             clear hy510
             by_cases c93 : x498001_1.length < 5864062014805
             ·rw [if_pos c93] at H
              have LMc93 := am_ c93
              clear c93
              obtain ⟨y513, hy513⟩ : ∃ y_ : List (List Int), y_ = (x498001_1 ++ [x7_2]) := ⟨_, rfl⟩
              replace H : (spec_StarDfa.l0 k2 x4_2 (wrap64 (x6_1 + 1)) l0_0 l0_1 y510 y513) = some (r1, r2, r3) := by first | (rw [hy513]; with_reducible exact H) | (have H2_ := (Option.bind_some _ _).symm.trans H; rw [hy513]; with_reducible exact H2_) | (have H2_ := (Option.bind_some _ _).symm.trans H; with_reducible exact H2_) | with_reducible exact H | (rw [hy513]; exact H) | exact H
              have Ny513 := am_ hy513
              clear hy513
              have H' := am_ H
              clear H
              obtain ⟨Ao94, co94, eo94⟩ := Kd.N_slice HO_4.out
              subst eo94
              try go_wp2
              replace HO_4 := am_ (Kd.N_drew HO_4.out)
              replace HO_7 := am_ (Kd.R_drew HO_7.out)
              replace HO_498000 := am_ (Kd.R_drew HO_498000.out)
              replace HO_498001 := am_ (Kd.N_drew HO_498001.out)
              replace BK488 := am_ (blk_drew BK488.out)
              replace BK489 := am_ (blk_drew BK489.out)
              replace BK497 := am_ (blk_drew BK497.out)
              replace HB := am_ (below_drew1 HB.out)
              have p509 : 0 ≤ (x6_1 : Int) := of_decide_eq_true ah_
              have q509 : x6_1 < (x4_2.length : Int) := of_decide_eq_true ah_
              obtain ⟨ad509, A509_1, c509_1, e509, hx509_0, hx509_1, hx509_2, hl509_1, hi509_1⟩ := at_T78 (Kd.N_reads' HO_4.out).2.2 x6_1 p509 q509
              (try rw [← Nbq90.out] at hx509_2)
              cases e509
              obtain ⟨ce509, hce509, hMe509, hcc509⟩ := Kd.N_get HO_4.out z78 x6_1 p509 (by first | exact q509 | exact of_decide_eq_true ah_ | (have e_ := (Kd.N_reads' HO_4.out).1; omega))
              obtain ⟨ua509_1, uc509_1, rfl, ul509_1, ge509_1⟩ := k78_openF hMe509
              have hv509_1 := hcc509 1 _ rfl
              rw [add_field _ _ 1 (by omega)] at hv509_1
              replace hv509_1 := Option.some.inj (hv509_1.symm.trans hx509_1)
              injection hv509_1 with hva_ hvn_ hvc_
              rw [hva_] at ge509_1
              rw [hvc_] at ul509_1
              have HL509_1 := am_ (show Kd.V (Kd.int .i64) 3 _ w.heap.size _ _ ((rd_T78 x4_2 x6_1).f1) from Kd.V_mk ul509_1 ge509_1)
              clear hva_ hvn_ hvc_ ge509_1 ul509_1 hcc509 hce509
              have HR509_1 := am_ hi509_1
              have HC509_1 := am_ hl509_1
              clear hi509_1 hl509_1
              replace p509 := eq_true p509
              replace q509 := eq_true q509
              refine start_ (n := 20) (S := fun w' => w'.cell? ⟨gb497, 0, none⟩ = some (u498000) ∧ w'.cell? ⟨gb497, 1, none⟩ = some (u498001) ∧ w'.cell? (ad509.add ((x6_1).toNat * 3)) = some (.int .i64 ((rd_T78 x4_2 x6_1).f0)) ∧ w'.cell? ⟨(ad509.add ((x6_1).toNat * 3)).block, (ad509.add ((x6_1).toNat * 3)).off + 1, none⟩ = some (.slice A509_1 ((rd_T78 x4_2 x6_1).f1).length c509_1) ∧ w'.cell? ⟨(ad509.add ((x6_1).toNat * 3)).block, (ad509.add ((x6_1).toNat * 3)).off + 2, none⟩ = some (.bool true)) (ds := [17, 19]) (bl 20 0) (by kernel_rfl) rfl rfl ⟨(blk_cell BK497.out 0).trans rfl, (blk_cell BK497.out 1).trans rfl, hx509_0, hx509_1, hx509_2⟩ (fun hHeld => ?_); refine with_tabW spec_StarDfa.tab20 spec_StarDfa.bits20 (fun HT_ HW_ => ?_)
              generalize wr.drew = w95 at HO_4 HO_7 HO_498000 HO_498001 BK488 BK489 BK497 HB HL509_1 HR509_1 hx509_0 hx509_1 hx509_2 hHeld ⊢
              refine pu_ 0 66 (bl 20 1) HT_ ?_
              refine pu_ 2 68 (bl 20 5) HT_ ?_
              refine pu_ 3 69 (bl 20 13) HT_ ?_
              refine pu_ 4 70 (bl 20 29) HT_ ?_
              refine pu_ 5 71 (bl 20 61) HT_ ?_
              refine tk_ 1 67 (bl 20 63) HT_ HW_ hHeld ?_
              refine tk_ 6 72 (bl 20 127) HT_ HW_ hHeld ?_
              refine pu_ 7 73 (bl 20 255) HT_ ?_
              refine pz_ 8 74 (bl 20 511) HT_ ?_
              refine pz_ 9 75 (bl 20 1023) HT_ ?_
              refine pz_ 10 76 (bl 20 2047) HT_ ?_
              refine pz_ 11 77 (bl 20 4095) HT_ ?_
              refine pz_ 12 78 (bl 20 8191) HT_ ?_
              refine pz_ 13 79 (bl 20 16383) HT_ ?_
              refine pz_ 14 80 (bl 20 32767) HT_ ?_
              refine pu_ 15 81 (bl 20 65535) HT_ ?_
              refine one_ (i := 16) (N := some 82) (bl 20 131071) rfl rfl (one_of HT_.out (by kernel_rfl)) (by decide) (fun K hK => ?_)
              refine value_ (w1 := ?_) (v := ?_) (by rfl) rfl ?_ ?_
              rotate_left 2
              ·go_simp
               constructor
               ·rfl
               ·rfl
              refine hK.out _ _ ⟨(blk_cell (blk_alloc BK497.out _) 0).trans rfl, (blk_cell (blk_alloc BK497.out _) 1).trans rfl, (World.cell?_alloc_lt _ _ _ (World.block_lt_of_cell? _ _ (hHeld.2.2.1))).trans (hHeld.2.2.1), (World.cell?_alloc_lt _ _ _ (World.block_lt_of_cell? _ _ (hHeld.2.2.2.1))).trans (hHeld.2.2.2.1), (World.cell?_alloc_lt _ _ _ (World.block_lt_of_cell? _ _ (hHeld.2.2.2.2))).trans (hHeld.2.2.2.2)⟩ (fun hHeld => ?_)
              clear hK K
              refine norm_ (a' := ?_) ?_ ?_
              rotate_left
              ·show Act.put _ (some 82) _ = _
               simp only [pn_, sz_, ss_, i64_w, i32_w]
               rfl
              refine last_ (i := 17) (N := some 83) (bl 20 262143) rfl rfl (one_of HT_.out (by kernel_rfl)) (by decide) (fun K hK => ?_)
              refine Kd.R_append_step Kd.bool (w0 := w) w.heap.size (by rfl) (.tmp 67) (.tmp 82) 22 4 (.bool false) 1 rfl Try.underlying22 info4 rfl (by decide) (by omega) u498000 x498000_1 true [.bool true] (fun k_ => (w.heap.size ≤ k_)) (fun _ => False) rfl rfl ?aP (fun _ hk => hk.elim) ?aF ?aO ?aB ?aS ?aL ?_
              (case aP => exact rfl)
              (case aB => exact (b3_ HB.out GE488.out GE489.out GE497.out))
              (case aF => exact (fun k_ hk => (Nat.le_trans (below_size (b3_ HB.out GE488.out GE489.out GE497.out)) hk)))
              (case aO => exact (rr_ HO_498000.out))
              (case aS => exact (below_size (b3_ HB.out GE488.out GE489.out GE497.out)))
              (case aL => have := LMc92.out; omega)
              intro v511 w96 ho hb hg hat
              rw [← Ny510.out] at ho
              replace HO_4 := am_ (Kd.N_afterv (ok := (fun k_ => (w.heap.size ≤ k_) ∧ some k_ ≠ (u7 : Value).ownBlock ∧ some k_ ≠ (u498001 : Value).ownBlock ∧ k_ ≠ gb488 ∧ k_ ≠ gb489 ∧ k_ ≠ gb497)) (by (with_reducible repeat (first | apply Kd.N_alloc | apply Kd.N_drewN | apply Kd.N_drew)); exact Kd.N_mono HO_4.out (fun _ hk => ⟨⟨hk.1, ⟨hk.2.1, ⟨hk.2.2.2.1, ⟨hk.2.2.2.2.1, ⟨hk.2.2.2.2.2.1, hk.2.2.2.2.2.2⟩⟩⟩⟩⟩, hk.2.2.1⟩)) hg hat)
              replace HO_7 := am_ (Kd.R_over' (rr_ HO_7.out) (Kd.R_typed (rr_ HO_498000.out)) (by decide) hg)
              replace HO_498001 := am_ (Kd.N_afterv (ok := (fun k_ => (w.heap.size ≤ k_) ∧ some k_ ≠ (.slice (some ad509) x4_2.length co94 : Value).ownBlock ∧ some k_ ≠ (u7 : Value).ownBlock ∧ k_ ≠ gb488 ∧ k_ ≠ gb489 ∧ k_ ≠ gb497)) (by (with_reducible repeat (first | apply Kd.N_alloc | apply Kd.N_drewN | apply Kd.N_drew)); exact Kd.N_mono HO_498001.out (fun _ hk => ⟨⟨hk.1, ⟨hk.2.1, ⟨hk.2.2.1, ⟨hk.2.2.2.2.1, ⟨hk.2.2.2.2.2.1, hk.2.2.2.2.2.2⟩⟩⟩⟩⟩, hk.2.2.2.1⟩)) hg hat)
              replace BK488 := am_ (blk_grown (g := gb488) (o := .cells #[.slice A0_0 l0_0.length c0_0, .slice A0_1 l0_1.length c0_1] 27 (0, 0)) (rb_ BK488.out) hg (Kd.R_ne HO_498000.out BK488.out (by decide)))
              replace BK489 := am_ (blk_grown (g := gb489) (o := .cells #[.slice none 0 0, .slice none 0 0] 27 (0, 0)) (rb_ BK489.out) hg (Kd.R_ne HO_498000.out BK489.out (by decide)))
              replace BK497 := am_ (blk_grown (g := gb497) (o := .cells #[u498000, u498001] 27 (0, 0)) (rb_ BK497.out) hg (Kd.R_ne HO_498000.out BK497.out (by decide)))
              replace HL509_1 := am_ (Kd.V_afterv (ok := (fun k_ => (w.heap.size ≤ k_) ∧ some k_ ≠ (.slice (some ad509) x4_2.length co94 : Value).ownBlock ∧ some k_ ≠ (u7 : Value).ownBlock ∧ some k_ ≠ (u498001 : Value).ownBlock ∧ k_ ≠ gb488 ∧ k_ ≠ gb489 ∧ k_ ≠ gb497)) (by (with_reducible repeat (first | apply Kd.V_alloc | apply Kd.V_drewN | apply Kd.V_drew)); exact Kd.V_mono HL509_1.out (fun _ hk => ⟨⟨hk.1.1, ⟨hk.2, ⟨hk.1.2.1, ⟨hk.1.2.2.2.1, ⟨hk.1.2.2.2.2.1, ⟨hk.1.2.2.2.2.2.1, hk.1.2.2.2.2.2.2⟩⟩⟩⟩⟩⟩, hk.1.2.2.1⟩)) hg hat)
              replace HB := am_ (hb)
              replace HO512 := am_ (ho)
              clear HO_498000 ho hb hg hat
              obtain ⟨Ao97, co97, eo97⟩ := Kd.R_slice HO512.out
              (first | subst eo97 | (injection eo97 with f1_ f2_ f3_; have f4_ := f1_.symm; have f5_ := f3_.symm; clear f1_ f2_ f3_; subst f4_; subst f5_))
              refine hK.out _ _ ?_
              clear hK K
              refine norm_ (a' := ?_) ?_ ?_
              rotate_left
              ·show Act.put _ (some 83) _ = _
               simp only [pn_, sz_, ss_, i64_w, i32_w]
               rfl
              refine pu_ 18 84 (bl 20 524287) HT_ ?_
              refine last_ (i := 19) (N := none) (bl 20 1048575) rfl rfl (one_of HT_.out (by kernel_rfl)) (by decide) (fun K hK => ?_)
              have hs98 : w96.cell? ⟨gb497, 0, none⟩ = some (u498000) := (blk_cell BK497.out 0).trans rfl
              have hfs98 := blk_frozen BK497.out 0
              have hns98_0 := NB488_497.out
              have hns98_1 := NB489_497.out
              have hms98_0 := NB497_488.out
              have hms98_1 := NB497_489.out
              refine skip_ (w1 := ?_) (by rfl) rfl ?_ ?_
              rotate_left
              ·go_simp
               rfl
              refine hK.out _ _ ?_
              clear hK K
              refine done_ (done_of HT_.out (by kernel_rfl)) ?_
              have n0_ : Aside0 (Kd.N k78 78 (w96.setCell ⟨gb497, 0, none⟩ (.slice Ao97 y510.length co97)) w.heap.size (fun k_ => (w.heap.size ≤ k_) ∧ some k_ ≠ (u7 : Value).ownBlock ∧ some k_ ≠ (u498001 : Value).ownBlock ∧ some k_ ≠ (.slice Ao97 y510.length co97 : Value).ownBlock ∧ k_ ≠ gb488 ∧ k_ ≠ gb489 ∧ k_ ≠ gb497) (.slice (some ad509) x4_2.length co94) x4_2) := ⟨by (with_reducible repeat (first | apply Kd.N_alloc | apply Kd.N_drewN | apply Kd.N_drew)); exact Kd.N_mono (Kd.N_far (p := ⟨gb497, 0, none⟩) (Kd.N_mono HO_4.out (fun k_ hk => (⟨hk, hk.1.2.2.2.2.2⟩ : _ ∧ k_ ≠ gb497))) (fun _ hk => hk.2) (.slice Ao97 y510.length co97)) (fun _ hk => ⟨hk.1.1.1, ⟨hk.1.1.2.1, ⟨hk.1.1.2.2.1, ⟨hk.1.2, ⟨hk.1.1.2.2.2.1, ⟨hk.1.1.2.2.2.2.1, hk.1.1.2.2.2.2.2⟩⟩⟩⟩⟩⟩)⟩
              have n1_ : Aside0 (Kd.R (Kd.int .i64) 3 (w96.setCell ⟨gb497, 0, none⟩ (.slice Ao97 y510.length co97)) w.heap.size (fun k_ => (w.heap.size ≤ k_)) u7 x7_2) := ⟨by refine rr_ ?_; exact Kd.R_mono (Kd.R_far (p := ⟨gb497, 0, none⟩) (Kd.R_types HO_7.out BK497.out (by decide)) (fun _ hk => hk.2) (.slice Ao97 y510.length co97)) (fun _ hk => hk.1)⟩
              have n2_ : Aside0 (Kd.N (Kd.slice 3 (Kd.int .i64)) 67 (w96.setCell ⟨gb497, 0, none⟩ (.slice Ao97 y510.length co97)) w.heap.size (fun k_ => (w.heap.size ≤ k_) ∧ some k_ ≠ (.slice (some ad509) x4_2.length co94 : Value).ownBlock ∧ some k_ ≠ (u7 : Value).ownBlock ∧ some k_ ≠ (.slice Ao97 y510.length co97 : Value).ownBlock ∧ k_ ≠ gb488 ∧ k_ ≠ gb489 ∧ k_ ≠ gb497) u498001 x498001_1) := ⟨by (with_reducible repeat (first | apply Kd.N_alloc | apply Kd.N_drewN | apply Kd.N_drew)); exact Kd.N_mono (Kd.N_far (p := ⟨gb497, 0, none⟩) (Kd.N_mono HO_498001.out (fun k_ hk => (⟨hk, hk.1.2.2.2.2.2⟩ : _ ∧ k_ ≠ gb497))) (fun _ hk => hk.2) (.slice Ao97 y510.length co97)) (fun _ hk => ⟨hk.1.1.1, ⟨hk.1.1.2.1, ⟨hk.1.1.2.2.1, ⟨hk.1.2, ⟨hk.1.1.2.2.2.1, ⟨hk.1.1.2.2.2.2.1, hk.1.1.2.2.2.2.2⟩⟩⟩⟩⟩⟩)⟩
              have n3_ : Aside0 (Kd.V (Kd.int .i64) 3 (w96.setCell ⟨gb497, 0, none⟩ (.slice Ao97 y510.length co97)) w.heap.size (fun k_ => (w.heap.size ≤ k_) ∧ some k_ ≠ (.slice (some ad509) x4_2.length co94 : Value).ownBlock ∧ some k_ ≠ (u7 : Value).ownBlock ∧ some k_ ≠ (u498001 : Value).ownBlock ∧ some k_ ≠ (.slice Ao97 y510.length co97 : Value).ownBlock ∧ k_ ≠ gb488 ∧ k_ ≠ gb489 ∧ k_ ≠ gb497) (.slice A509_1 ((rd_T78 x4_2 x6_1).f1).length c509_1) ((rd_T78 x4_2 x6_1).f1)) := ⟨by (with_reducible repeat (first | apply Kd.V_alloc | apply Kd.V_drewN | apply Kd.V_drew)); exact Kd.V_mono (Kd.V_far (p := ⟨gb497, 0, none⟩) (Kd.V_mono HL509_1.out (fun k_ hk => (⟨hk, hk.1.2.2.2.2.2.2⟩ : _ ∧ k_ ≠ gb497))) (fun _ hk => hk.2) (.slice Ao97 y510.length co97)) (fun _ hk => ⟨hk.1.1.1, ⟨hk.1.1.2.1, ⟨hk.1.1.2.2.1, ⟨hk.1.1.2.2.2.1, ⟨hk.1.2, ⟨hk.1.1.2.2.2.2.1, ⟨hk.1.1.2.2.2.2.2.1, hk.1.1.2.2.2.2.2.2⟩⟩⟩⟩⟩⟩⟩)⟩
              have n4_ : Aside0 (Kd.R Kd.bool 4 (w96.setCell ⟨gb497, 0, none⟩ (.slice Ao97 y510.length co97)) w.heap.size (fun k_ => (w.heap.size ≤ k_)) (.slice Ao97 y510.length co97) y510) := ⟨by refine rr_ ?_; exact Kd.R_mono (Kd.R_far (p := ⟨gb497, 0, none⟩) (Kd.R_types HO512.out BK497.out (by decide)) (fun _ hk => hk.2) (.slice Ao97 y510.length co97)) (fun _ hk => hk.1)⟩
              have n5_ : Aside0 ((w96.setCell ⟨gb497, 0, none⟩ (.slice Ao97 y510.length co97)).heap[gb488]? = some (.cells #[.slice A0_0 l0_0.length c0_0, .slice A0_1 l0_1.length c0_1] 27 (0, 0))) := ⟨by refine rb_ ?_; refine blk_far ?_ NB488_497.out _; refine rb_ ?_; exact BK488.out⟩
              have n6_ : Aside0 ((w96.setCell ⟨gb497, 0, none⟩ (.slice Ao97 y510.length co97)).heap[gb489]? = some (.cells #[.slice none 0 0, .slice none 0 0] 27 (0, 0))) := ⟨by refine rb_ ?_; refine blk_far ?_ NB489_497.out _; refine rb_ ?_; exact BK489.out⟩
              have n7_ : Aside0 ((w96.setCell ⟨gb497, 0, none⟩ (.slice Ao97 y510.length co97)).heap[gb497]? = some (.cells #[.slice Ao97 y510.length co97, u498001] 27 (0, 0))) := ⟨by refine rb_ ?_; refine blk_put (cs := #[u498000, u498001]) ?_ 0 _ rfl; refine rb_ ?_; exact BK497.out⟩
              have n8_ : Aside0 (Below w.heap.size w (w96.setCell ⟨gb497, 0, none⟩ (.slice Ao97 y510.length co97))) := ⟨by exact zp27_0_ HB.out GE488.out GE489.out GE497.out⟩
              (try clear HO_4)
              (try clear HO_7)
              (try clear HO_498001)
              (try clear HL509_1)
              (try clear HO512)
              (try clear BK488)
              (try clear BK489)
              (try clear BK497)
              (try clear HB)
              generalize (w96.setCell ⟨gb497, 0, none⟩ (.slice Ao97 y510.length co97)) = w99 at n0_ n1_ n2_ n3_ n4_ n5_ n6_ n7_ n8_ ⊢
              have HO_4 := n0_; have HO_7 := n1_; have HO_498001 := n2_; have HL509_1 := n3_; have HO512 := n4_; have BK488 := n5_; have BK489 := n6_; have BK497 := n7_; have HB := n8_
              clear n0_ n1_ n2_ n3_ n4_ n5_ n6_ n7_ n8_
              have hnb100 := NB497_488.out
              have hnc100 := NB488_497.out
              have hnb101 := NB497_489.out
              have hnc101 := NB489_497.out
              have hcz102_0 : w99.cell? ⟨gb497, 0, none⟩ = some (.slice Ao97 y510.length co97) := (blk_cell BK497.out 0).trans rfl
              have hcz102_1 : w99.cell? ⟨gb497, 1, none⟩ = some (u498001) := (blk_cell BK497.out 1).trans rfl
              have hfz102_0 := blk_frozen BK497.out 0
              have hfz102_1 := blk_frozen BK497.out 1
              obtain ⟨Ao104, co104, eo104⟩ := Kd.R_slice HO_7.out
              subst eo104
              try go_wp2_with (first | ((with_reducible refine gate_builtin (b := .append) (xs := #[.tmp 86, .tmp 88]) rfl ?_); at_builtin; refine Kd.N_append (Kd.slice 3 (Kd.int .i64)) (w0 := w) w.heap.size rfl (.tmp 86) (.tmp 88) 23 67 (.slice none 0 0) 24 rfl Try.underlying23 info67 rfl (by decide) (by omega) u498001 x498001_1 x7_2 [.slice Ao104 x7_2.length co104] (fun k_ => (w.heap.size ≤ k_) ∧ some k_ ≠ (.slice (some ad509) x4_2.length co94 : Value).ownBlock ∧ some k_ ≠ (.slice Ao97 y510.length co97 : Value).ownBlock ∧ k_ ≠ gb488 ∧ k_ ≠ gb489 ∧ k_ ≠ gb497) (fun k_ => ((fun k_ => (w.heap.size ≤ k_) ∧ some k_ ≠ (.slice (some ad509) x4_2.length co94 : Value).ownBlock ∧ some k_ ≠ (.slice Ao97 y510.length co97 : Value).ownBlock ∧ k_ ≠ gb488 ∧ k_ ≠ gb489 ∧ k_ ≠ gb497)) k_ ∧ some k_ ≠ (u498001 : Value).ownBlock) rfl rfl ?aP (fun _ hk => hk) ?aF ?aO ?aB ?aS ?aL ?_; (case aP => exact (Kd.FK_slice_mk (Kd.R_reads' (Kd.R_mono (ok' := (fun k_ => ((fun k_ => (w.heap.size ≤ k_) ∧ some k_ ≠ (.slice (some ad509) x4_2.length co94 : Value).ownBlock ∧ some k_ ≠ (.slice Ao97 y510.length co97 : Value).ownBlock ∧ k_ ≠ gb488 ∧ k_ ≠ gb489 ∧ k_ ≠ gb497)) k_ ∧ some k_ ≠ (u498001 : Value).ownBlock)) (Kd.R_types (Kd.R_types (Kd.R_types (Kd.R_apart' (Kd.R_apart' (Kd.R_apart' (HO_7.out) (Kd.N_typed HO_4.out) (by decide)) (Kd.R_typed HO512.out) (by decide)) (Kd.N_typed HO_498001.out) (by decide)) BK488.out (by decide)) BK489.out (by decide)) BK497.out (by decide)) (fun k_ hk => ⟨⟨hk.1.1.1.1.1.1, ⟨hk.1.1.1.1.1.2, ⟨hk.1.1.1.1.2, ⟨hk.1.1.2, ⟨hk.1.2, hk.2⟩⟩⟩⟩⟩, hk.1.1.1.2⟩))).2.1 (Kd.R_F (Kd.R_mono (ok' := (fun k_ => ((fun k_ => (w.heap.size ≤ k_) ∧ some k_ ≠ (.slice (some ad509) x4_2.length co94 : Value).ownBlock ∧ some k_ ≠ (.slice Ao97 y510.length co97 : Value).ownBlock ∧ k_ ≠ gb488 ∧ k_ ≠ gb489 ∧ k_ ≠ gb497)) k_ ∧ some k_ ≠ (u498001 : Value).ownBlock)) (Kd.R_types (Kd.R_types (Kd.R_types (Kd.R_apart' (Kd.R_apart' (Kd.R_apart' (HO_7.out) (Kd.N_typed HO_4.out) (by decide)) (Kd.R_typed HO512.out) (by decide)) (Kd.N_typed HO_498001.out) (by decide)) BK488.out (by decide)) BK489.out (by decide)) BK497.out (by decide)) (fun k_ hk => ⟨⟨hk.1.1.1.1.1.1, ⟨hk.1.1.1.1.1.2, ⟨hk.1.1.1.1.2, ⟨hk.1.1.2, ⟨hk.1.2, hk.2⟩⟩⟩⟩⟩, hk.1.1.1.2⟩))))); (case aB => exact (b3_ HB.out GE488.out GE489.out GE497.out)); (case aF => exact (fun k_ hk => ⟨(Nat.le_trans (below_size (b3_ HB.out GE488.out GE489.out GE497.out)) hk), Kd.fresh' (Kd.N_lt (by (with_reducible repeat (first | apply Kd.N_alloc | apply Kd.N_drewN | apply Kd.N_drew)); exact HO_4.out)) k_ hk, Kd.fresh' (Kd.R_lt (rr_ HO512.out)) k_ hk, Kd.freshB (g := gb488) (o := .cells #[.slice A0_0 l0_0.length c0_0, .slice A0_1 l0_1.length c0_1] 27 (0, 0)) (rb_ BK488.out) k_ hk, Kd.freshB (g := gb489) (o := .cells #[.slice none 0 0, .slice none 0 0] 27 (0, 0)) (rb_ BK489.out) k_ hk, Kd.freshB (g := gb497) (o := .cells #[.slice Ao97 y510.length co97, u498001] 27 (0, 0)) (rb_ BK497.out) k_ hk⟩)); (case aO => exact (by (with_reducible repeat (first | apply Kd.N_alloc | apply Kd.N_drewN | apply Kd.N_drew)); exact Kd.N_mono HO_498001.out (fun _ hk => ⟨hk.1, ⟨hk.2.1, ⟨hk.2.2.2.1, ⟨hk.2.2.2.2.1, ⟨hk.2.2.2.2.2.1, hk.2.2.2.2.2.2⟩⟩⟩⟩⟩))); (case aS => exact (below_size (b3_ HB.out GE488.out GE489.out GE497.out))); (case aL => have := LMc93.out; omega); intro v514 w103 ho hb hg hat; rw [← Ny513.out] at ho; have n0_ := am_ (Kd.N_afterv (ok := (fun k_ => (w.heap.size ≤ k_) ∧ some k_ ≠ (.slice Ao104 x7_2.length co104 : Value).ownBlock ∧ some k_ ≠ (.slice Ao97 y510.length co97 : Value).ownBlock ∧ k_ ≠ gb488 ∧ k_ ≠ gb489 ∧ k_ ≠ gb497)) (by (with_reducible repeat (first | apply Kd.N_alloc | apply Kd.N_drewN | apply Kd.N_drew)); exact Kd.N_mono HO_4.out (fun _ hk => ⟨⟨hk.1, ⟨hk.2.1, ⟨hk.2.2.2.1, ⟨hk.2.2.2.2.1, ⟨hk.2.2.2.2.2.1, hk.2.2.2.2.2.2⟩⟩⟩⟩⟩, hk.2.2.1⟩)) hg hat); have n1_ := am_ (blk_grown (g := gb488) (o := .cells #[.slice A0_0 l0_0.length c0_0, .slice A0_1 l0_1.length c0_1] 27 (0, 0)) (rb_ BK488.out) hg (Kd.N_ne HO_498001.out BK488.out (by decide))); have n2_ := am_ (blk_grown (g := gb489) (o := .cells #[.slice none 0 0, .slice none 0 0] 27 (0, 0)) (rb_ BK489.out) hg (Kd.N_ne HO_498001.out BK489.out (by decide))); have n3_ := am_ (blk_grown (g := gb497) (o := .cells #[.slice Ao97 y510.length co97, u498001] 27 (0, 0)) (rb_ BK497.out) hg (Kd.N_ne HO_498001.out BK497.out (by decide))); have n4_ := am_ (Kd.V_afterv (ok := (fun k_ => (w.heap.size ≤ k_) ∧ some k_ ≠ (.slice (some ad509) x4_2.length co94 : Value).ownBlock ∧ some k_ ≠ (.slice Ao104 x7_2.length co104 : Value).ownBlock ∧ some k_ ≠ (.slice Ao97 y510.length co97 : Value).ownBlock ∧ k_ ≠ gb488 ∧ k_ ≠ gb489 ∧ k_ ≠ gb497)) (by (with_reducible repeat (first | apply Kd.V_alloc | apply Kd.V_drewN | apply Kd.V_drew)); exact Kd.V_mono HL509_1.out (fun _ hk => ⟨⟨hk.1, ⟨hk.2.1, ⟨hk.2.2.1, ⟨hk.2.2.2.2.1, ⟨hk.2.2.2.2.2.1, ⟨hk.2.2.2.2.2.2.1, hk.2.2.2.2.2.2.2⟩⟩⟩⟩⟩⟩, hk.2.2.2.1⟩)) hg hat); have n5_ := am_ (Kd.R_over' (rr_ HO512.out) (Kd.N_typed (by (with_reducible repeat (first | apply Kd.N_alloc | apply Kd.N_drewN | apply Kd.N_drew)); exact HO_498001.out)) (by decide) hg); have n6_ := am_ (hb); have n7_ := am_ (ho); clear HO_4; clear BK488; clear BK489; clear BK497; clear HL509_1; clear HO512; clear HB; clear HO_498001; clear HO_7; have HO_4 := n0_; have BK488 := n1_; have BK489 := n2_; have BK497 := n3_; have HL509_1 := n4_; have HO512 := n5_; have HB := n6_; have HO515 := n7_; clear n0_ n1_ n2_ n3_ n4_ n5_ n6_ n7_; clear ho hb hg hat; obtain ⟨Ao105, co105, eo105⟩ := Kd.N_slice HO515.out; subst eo105; have hcz106_0 : w103.cell? ⟨gb497, 0, none⟩ = some (.slice Ao97 y510.length co97) := (blk_cell BK497.out 0).trans rfl; have hcz106_1 : w103.cell? ⟨gb497, 1, none⟩ = some (u498001) := (blk_cell BK497.out 1).trans rfl; have hfz106_0 := blk_frozen BK497.out 0; have hfz106_1 := blk_frozen BK497.out 1))
              go_roundg k2
              case measure => have := HK1.out; have := HK2.out; omega
              case rel => exact ⟨(x4_2), (wrap64 (x6_1 + 1)), (y510), (y513), (.slice Ao97 y510.length co97), (.slice Ao105 y513.length co105), (by first | rfl | (simp; done) | (simp [*]; done)), H', ⟨by have := HK1.out; have := HK2.out; omega⟩, ⟨by (with_reducible repeat (first | apply Kd.N_alloc | apply Kd.N_drewN | apply Kd.N_drew)); exact Kd.N_mono (Kd.N_far (p := ⟨gb497, 1, none⟩) (Kd.N_mono HO_4.out (fun k_ hk => (⟨hk, hk.1.2.2.2.2.2⟩ : _ ∧ k_ ≠ gb497))) (fun _ hk => hk.2) (.slice Ao105 y513.length co105)) (fun _ hk => ⟨hk.1.1.1, ⟨hk.1.1.2.2.1, ⟨hk.1.2, ⟨hk.1.1.2.2.2.1, ⟨hk.1.1.2.2.2.2.1, hk.1.1.2.2.2.2.2⟩⟩⟩⟩⟩)⟩, ⟨by refine rr_ ?_; exact Kd.R_mono (Kd.R_far (p := ⟨gb497, 1, none⟩) (Kd.R_types HO512.out BK497.out (by decide)) (fun _ hk => hk.2) (.slice Ao105 y513.length co105)) (fun _ hk => hk.1)⟩, ⟨by (with_reducible repeat (first | apply Kd.N_alloc | apply Kd.N_drewN | apply Kd.N_drew)); exact Kd.N_mono (Kd.N_far (p := ⟨gb497, 1, none⟩) (Kd.N_mono HO515.out (fun k_ hk => (⟨hk, hk.2.2.2.2.2⟩ : _ ∧ k_ ≠ gb497))) (fun _ hk => hk.2) (.slice Ao105 y513.length co105)) (fun _ hk => ⟨hk.1.1, ⟨hk.1.2.1, ⟨hk.1.2.2.1, ⟨hk.1.2.2.2.1, ⟨hk.1.2.2.2.2.1, hk.1.2.2.2.2.2⟩⟩⟩⟩⟩)⟩, ⟨by refine rb_ ?_; refine blk_far ?_ NB488_497.out _; refine rb_ ?_; exact BK488.out⟩, ⟨by refine rb_ ?_; refine blk_far ?_ NB489_497.out _; refine rb_ ?_; exact BK489.out⟩, ⟨by refine rb_ ?_; refine blk_put (cs := #[.slice Ao97 y510.length co97, u498001]) ?_ 1 _ rfl; refine rb_ ?_; exact BK497.out⟩, ⟨by exact zp27_0_ HB.out GE488.out GE489.out GE497.out⟩⟩
             ·rw [if_neg c93] at H
              exact absurd H (by simp)
            ·rw [if_neg c92] at H
             exact absurd H (by simp)
           ·replace c91 := Bool.eq_false_iff.mpr c91
            subst c91
            have H1 : ((spec_l6Any.f k2 l0_0 l0_1 ((rd_T78 x4_2 x6_1).f1)).bind fun t517 => (if x498000_1.length < 140737488355328 then (if x498001_1.length < 5864062014805 then (spec_StarDfa.l0 k2 x4_2 (wrap64 (x6_1 + 1)) l0_0 l0_1 (x498000_1 ++ [t517]) (x498001_1 ++ [x7_2])) else (none)) else (none))) = some (r1, r2, r3) := by rw [if_neg (show ¬ (false = true) by decide)] at H; exact H
            clear H
            have H := H1
            clear H1
            replace H := Option.bind_eq_some_iff.mp H
            obtain ⟨t517, A1070, H⟩ := H
            have A107 := am_ A1070
            clear A1070
            by_cases c108 : x498000_1.length < 140737488355328
            ·rw [if_pos c108] at H
             have LMc108 := am_ c108
             clear c108
             obtain ⟨y518, hy518⟩ : ∃ y_ : List Bool, y_ = (x498000_1 ++ [t517]) := ⟨_, rfl⟩
             replace H : (if x498001_1.length < 5864062014805 then (spec_StarDfa.l0 k2 x4_2 (wrap64 (x6_1 + 1)) l0_0 l0_1 y518 (x498001_1 ++ [x7_2])) else (none)) = some (r1, r2, r3) := by first | (rw [hy518]; with_reducible exact H) | (have H2_ := (Option.bind_some _ _).symm.trans H; rw [hy518]; with_reducible exact H2_) | (have H2_ := (Option.bind_some _ _).symm.trans H; with_reducible exact H2_) | with_reducible exact H | (rw [hy518]; exact H) | exact H
             have Ny518 := am_ hy518
             clear hy518
             by_cases c109 : x498001_1.length < 5864062014805
             ·rw [if_pos c109] at H
              have LMc109 := am_ c109
              clear c109
              obtain ⟨y521, hy521⟩ : ∃ y_ : List (List Int), y_ = (x498001_1 ++ [x7_2]) := ⟨_, rfl⟩
              replace H : (spec_StarDfa.l0 k2 x4_2 (wrap64 (x6_1 + 1)) l0_0 l0_1 y518 y521) = some (r1, r2, r3) := by first | (rw [hy521]; with_reducible exact H) | (have H2_ := (Option.bind_some _ _).symm.trans H; rw [hy521]; with_reducible exact H2_) | (have H2_ := (Option.bind_some _ _).symm.trans H; with_reducible exact H2_) | with_reducible exact H | (rw [hy521]; exact H) | exact H
              have Ny521 := am_ hy521
              clear hy521
              have H' := am_ H
              clear H
              obtain ⟨Ao110, co110, eo110⟩ := Kd.N_slice HO_4.out
              subst eo110
              try go_wp2
              replace HO_4 := am_ (Kd.N_drew HO_4.out)
              replace HO_7 := am_ (Kd.R_drew HO_7.out)
              replace HO_498000 := am_ (Kd.R_drew HO_498000.out)
              replace HO_498001 := am_ (Kd.N_drew HO_498001.out)
              replace BK488 := am_ (blk_drew BK488.out)
              replace BK489 := am_ (blk_drew BK489.out)
              replace BK497 := am_ (blk_drew BK497.out)
              replace HB := am_ (below_drew1 HB.out)
              have p509 : 0 ≤ (x6_1 : Int) := of_decide_eq_true ah_
              have q509 : x6_1 < (x4_2.length : Int) := of_decide_eq_true ah_
              obtain ⟨ad509, A509_1, c509_1, e509, hx509_0, hx509_1, hx509_2, hl509_1, hi509_1⟩ := at_T78 (Kd.N_reads' HO_4.out).2.2 x6_1 p509 q509
              (try rw [← Nbq90.out] at hx509_2)
              cases e509
              obtain ⟨ce509, hce509, hMe509, hcc509⟩ := Kd.N_get HO_4.out z78 x6_1 p509 (by first | exact q509 | exact of_decide_eq_true ah_ | (have e_ := (Kd.N_reads' HO_4.out).1; omega))
              obtain ⟨ua509_1, uc509_1, rfl, ul509_1, ge509_1⟩ := k78_openF hMe509
              have hv509_1 := hcc509 1 _ rfl
              rw [add_field _ _ 1 (by omega)] at hv509_1
              replace hv509_1 := Option.some.inj (hv509_1.symm.trans hx509_1)
              injection hv509_1 with hva_ hvn_ hvc_
              rw [hva_] at ge509_1
              rw [hvc_] at ul509_1
              have HL509_1 := am_ (show Kd.V (Kd.int .i64) 3 _ w.heap.size _ _ ((rd_T78 x4_2 x6_1).f1) from Kd.V_mk ul509_1 ge509_1)
              clear hva_ hvn_ hvc_ ge509_1 ul509_1 hcc509 hce509
              have HR509_1 := am_ hi509_1
              have HC509_1 := am_ hl509_1
              clear hi509_1 hl509_1
              replace p509 := eq_true p509
              replace q509 := eq_true q509
              have p516 : 0 ≤ (x6_1 : Int) := of_decide_eq_true ah_
              have q516 : x6_1 < (x4_2.length : Int) := of_decide_eq_true ah_
              obtain ⟨ad516, A516_1, c516_1, e516, hx516_0, hx516_1, hx516_2, hl516_1, hi516_1⟩ := at_T78 (Kd.N_reads' HO_4.out).2.2 x6_1 p516 q516
              (try rw [← Nbq90.out] at hx516_2)
              obtain rfl : ad509 = ad516 := (by injection e516)
              obtain ⟨ce516, hce516, hMe516, hcc516⟩ := Kd.N_get HO_4.out z78 x6_1 p516 (by first | exact q516 | exact of_decide_eq_true ah_ | (have e_ := (Kd.N_reads' HO_4.out).1; omega))
              obtain ⟨ua516_1, uc516_1, rfl, ul516_1, ge516_1⟩ := k78_openF hMe516
              have hv516_1 := hcc516 1 _ rfl
              rw [add_field _ _ 1 (by omega)] at hv516_1
              replace hv516_1 := Option.some.inj (hv516_1.symm.trans hx516_1)
              injection hv516_1 with hva_ hvn_ hvc_
              rw [hva_] at ge516_1
              rw [hvc_] at ul516_1
              have HL516_1 := am_ (show Kd.V (Kd.int .i64) 3 _ w.heap.size _ _ ((rd_T78 x4_2 x6_1).f1) from Kd.V_mk ul516_1 ge516_1)
              clear hva_ hvn_ hvc_ ge516_1 ul516_1 hcc516 hce516
              have HR516_1 := am_ hi516_1
              have HC516_1 := am_ hl516_1
              clear hi516_1 hl516_1
              replace p516 := eq_true p516
              replace q516 := eq_true q516
              have ea_ := Option.some.inj (hx509_1.symm.trans hx516_1)
              injection ea_ with ea_ en_ ec_
              subst ea_
              subst ec_
              clear en_
              refine start_ (n := 20) (S := fun w' => w'.cell? ⟨gb497, 0, none⟩ = some (u498000) ∧ w'.cell? ⟨gb497, 1, none⟩ = some (u498001) ∧ w'.cell? ⟨gb488, 0, none⟩ = some (.slice A0_0 l0_0.length c0_0) ∧ w'.cell? ⟨gb488, 1, none⟩ = some (.slice A0_1 l0_1.length c0_1) ∧ w'.cell? (ad509.add ((x6_1).toNat * 3)) = some (.int .i64 ((rd_T78 x4_2 x6_1).f0)) ∧ w'.cell? ⟨(ad509.add ((x6_1).toNat * 3)).block, (ad509.add ((x6_1).toNat * 3)).off + 1, none⟩ = some (.slice A509_1 ((rd_T78 x4_2 x6_1).f1).length c509_1) ∧ w'.cell? ⟨(ad509.add ((x6_1).toNat * 3)).block, (ad509.add ((x6_1).toNat * 3)).off + 2, none⟩ = some (.bool false) ∧ w'.cell? (ad509.add ((x6_1).toNat * 3)) = some (.int .i64 ((rd_T78 x4_2 x6_1).f0)) ∧ w'.cell? ⟨(ad509.add ((x6_1).toNat * 3)).block, (ad509.add ((x6_1).toNat * 3)).off + 1, none⟩ = some (.slice A509_1 ((rd_T78 x4_2 x6_1).f1).length c509_1) ∧ w'.cell? ⟨(ad509.add ((x6_1).toNat * 3)).block, (ad509.add ((x6_1).toNat * 3)).off + 2, none⟩ = some (.bool (false))) (ds := [17, 19]) (bl 20 0) (by kernel_rfl) rfl rfl ⟨(blk_cell BK497.out 0).trans rfl, (blk_cell BK497.out 1).trans rfl, (blk_cell BK488.out 0).trans rfl, (blk_cell BK488.out 1).trans rfl, hx509_0, hx509_1, hx509_2, hx516_0, hx516_1, hx516_2⟩ (fun hHeld => ?_); refine with_tabW spec_StarDfa.tab20 spec_StarDfa.bits20 (fun HT_ HW_ => ?_)
              generalize wr.drew = w111 at HO_4 HO_7 HO_498000 HO_498001 BK488 BK489 BK497 HB HL509_1 HL516_1 HR509_1 HR516_1 hx509_0 hx509_1 hx509_2 hx516_0 hx516_1 hx516_2 hHeld ⊢
              refine pu_ 0 66 (bl 20 1) HT_ ?_
              refine pu_ 2 68 (bl 20 5) HT_ ?_
              refine pu_ 3 69 (bl 20 13) HT_ ?_
              refine pu_ 4 70 (bl 20 29) HT_ ?_
              refine pu_ 5 71 (bl 20 61) HT_ ?_
              refine tk_ 1 67 (bl 20 63) HT_ HW_ hHeld ?_
              refine tk_ 6 72 (bl 20 127) HT_ HW_ hHeld ?_
              refine pu_ 7 73 (bl 20 255) HT_ ?_
              refine pu_ 9 75 (bl 20 767) HT_ ?_
              refine pu_ 10 76 (bl 20 1791) HT_ ?_
              refine pu_ 11 77 (bl 20 3839) HT_ ?_
              refine pu_ 12 78 (bl 20 7935) HT_ ?_
              refine tk_ 8 74 (bl 20 8191) HT_ HW_ hHeld ?_
              refine tk_ 13 79 (bl 20 16383) HT_ HW_ hHeld ?_
              refine one_ (i := 14) (N := some 80) (bl 20 32767) rfl rfl (one_of HT_.out (by kernel_rfl)) (by decide) (fun K hK => ?_)
              refine gO_ Try.func76 #[.agg #[.slice A0_0 l0_0.length c0_0, .slice A0_1 l0_1.length c0_1], .slice A509_1 ((rd_T78 x4_2 x6_1).f1).length c509_1] ?_
              with_reducible refine (spec_l6Any.calls k2 _ _ l0_0 _ _ l0_1 _ _ ((rd_T78 x4_2 x6_1).f1) t517 _ ?side1 ?side2 ?side3 ?side4 ?side5 ?side6 A107.out).mono ?_
              (case side1 => exact rc_ (Kd.C_below HR0_0.out HB.out))
              (case side2 => exact HC0_0.out)
              (case side3 => exact rc_ (Kd.C_below HR0_1.out HB.out))
              (case side4 => exact HC0_1.out)
              (case side5 => exact rc_ (by repeat (first | (with_reducible exact HR516_1.out) | (with_reducible refine Kd.C_alloc ?_ _) | (with_reducible refine Kd.C_drewN ?_ _) | (with_reducible refine Kd.C_drew ?_) | exact HR516_1.out)))
              (case side6 => exact HC516_1.out)
              rintro e w112 ⟨rfl, hb⟩
              have HS4_ := (hb.cell (World.block_lt_of_cell? _ _ (hHeld.2.2.2.2.1))).trans (hHeld.2.2.2.2.1)
              have HS5_ := (hb.cell (World.block_lt_of_cell? _ _ (hHeld.2.2.2.2.2.1))).trans (hHeld.2.2.2.2.2.1)
              have HS6_ := (hb.cell (World.block_lt_of_cell? _ _ (hHeld.2.2.2.2.2.2.1))).trans (hHeld.2.2.2.2.2.2.1)
              have HS7_ := (hb.cell (World.block_lt_of_cell? _ _ (hHeld.2.2.2.2.2.2.2.1))).trans (hHeld.2.2.2.2.2.2.2.1)
              have HS8_ := (hb.cell (World.block_lt_of_cell? _ _ (hHeld.2.2.2.2.2.2.2.2.1))).trans (hHeld.2.2.2.2.2.2.2.2.1)
              have HS9_ := (hb.cell (World.block_lt_of_cell? _ _ (hHeld.2.2.2.2.2.2.2.2.2))).trans (hHeld.2.2.2.2.2.2.2.2.2)
              refine ⟨_, rfl, ?_⟩
              replace HO_4 := am_ (Kd.N_below (by (with_reducible repeat (first | apply Kd.N_alloc | apply Kd.N_drewN | apply Kd.N_drew)); exact HO_4.out) hb)
              replace HO_7 := am_ (Kd.R_below (rr_ HO_7.out) hb)
              replace HO_498000 := am_ (Kd.R_below (rr_ HO_498000.out) hb)
              replace HO_498001 := am_ (Kd.N_below (by (with_reducible repeat (first | apply Kd.N_alloc | apply Kd.N_drewN | apply Kd.N_drew)); exact HO_498001.out) hb)
              replace HL509_1 := am_ (Kd.V_below (by (with_reducible repeat (first | apply Kd.V_alloc | apply Kd.V_drewN | apply Kd.V_drew)); exact HL509_1.out) hb)
              replace HL516_1 := am_ (Kd.V_below (by (with_reducible repeat (first | apply Kd.V_alloc | apply Kd.V_drewN | apply Kd.V_drew)); exact HL516_1.out) hb)
              replace BK488 := am_ (blk_below (rb_ BK488.out) hb)
              replace BK489 := am_ (blk_below (rb_ BK489.out) hb)
              replace BK497 := am_ (blk_below (rb_ BK497.out) hb)
              replace HR509_1 := am_ (Kd.C_below (by repeat (first | (with_reducible exact HR509_1.out) | (with_reducible refine Kd.C_alloc ?_ _) | (with_reducible refine Kd.C_drewN ?_ _) | (with_reducible refine Kd.C_drew ?_) | exact HR509_1.out)) hb)
              replace HR516_1 := am_ (Kd.C_below (by repeat (first | (with_reducible exact HR516_1.out) | (with_reducible refine Kd.C_alloc ?_ _) | (with_reducible refine Kd.C_drewN ?_ _) | (with_reducible refine Kd.C_drew ?_) | exact HR516_1.out)) hb)
              replace HB := am_ (below_step (b3_ HB.out GE488.out GE489.out GE497.out) hb)
              (try clear hb)
              (try clear hb2)
              (try clear hk)
              (try clear hi)
              refine hK.out _ _ ⟨(blk_cell BK497.out 0).trans rfl, (blk_cell BK497.out 1).trans rfl, (blk_cell BK488.out 0).trans rfl, (blk_cell BK488.out 1).trans rfl, HS4_, HS5_, HS6_, HS7_, HS8_, HS9_⟩ (fun hHeld => ?_)
              clear hK K
              refine norm_ (a' := ?_) ?_ ?_
              rotate_left
              ·show Act.put _ (some 80) _ = _
               simp only [pn_, sz_, ss_, i64_w, i32_w]
               rfl
              refine pu_ 15 81 (bl 20 65535) HT_ ?_
              refine one_ (i := 16) (N := some 82) (bl 20 131071) rfl rfl (one_of HT_.out (by kernel_rfl)) (by decide) (fun K hK => ?_)
              refine value_ (w1 := ?_) (v := ?_) (by rfl) rfl ?_ ?_
              rotate_left 2
              ·go_simp
               constructor
               ·rfl
               ·rfl
              refine hK.out _ _ ⟨(blk_cell (blk_alloc BK497.out _) 0).trans rfl, (blk_cell (blk_alloc BK497.out _) 1).trans rfl, (blk_cell (blk_alloc BK488.out _) 0).trans rfl, (blk_cell (blk_alloc BK488.out _) 1).trans rfl, (World.cell?_alloc_lt _ _ _ (World.block_lt_of_cell? _ _ (hHeld.2.2.2.2.1))).trans (hHeld.2.2.2.2.1), (World.cell?_alloc_lt _ _ _ (World.block_lt_of_cell? _ _ (hHeld.2.2.2.2.2.1))).trans (hHeld.2.2.2.2.2.1), (World.cell?_alloc_lt _ _ _ (World.block_lt_of_cell? _ _ (hHeld.2.2.2.2.2.2.1))).trans (hHeld.2.2.2.2.2.2.1), (World.cell?_alloc_lt _ _ _ (World.block_lt_of_cell? _ _ (hHeld.2.2.2.2.2.2.2.1))).trans (hHeld.2.2.2.2.2.2.2.1), (World.cell?_alloc_lt _ _ _ (World.block_lt_of_cell? _ _ (hHeld.2.2.2.2.2.2.2.2.1))).trans (hHeld.2.2.2.2.2.2.2.2.1), (World.cell?_alloc_lt _ _ _ (World.block_lt_of_cell? _ _ (hHeld.2.2.2.2.2.2.2.2.2))).trans (hHeld.2.2.2.2.2.2.2.2.2)⟩ (fun hHeld => ?_)
              clear hK K
              refine norm_ (a' := ?_) ?_ ?_
              rotate_left
              ·show Act.put _ (some 82) _ = _
               simp only [pn_, sz_, ss_, i64_w, i32_w]
               rfl
              refine last_ (i := 17) (N := some 83) (bl 20 262143) rfl rfl (one_of HT_.out (by kernel_rfl)) (by decide) (fun K hK => ?_)
              refine Kd.R_append_step Kd.bool (w0 := w) w.heap.size (by rfl) (.tmp 67) (.tmp 82) 22 4 (.bool false) 1 rfl Try.underlying22 info4 rfl (by decide) (by omega) u498000 x498000_1 t517 [.bool t517] (fun k_ => (w.heap.size ≤ k_)) (fun _ => False) rfl rfl ?aP (fun _ hk => hk.elim) ?aF ?aO ?aB ?aS ?aL ?_
              (case aP => exact rfl)
              (case aB => exact (b3_ HB.out GE488.out GE489.out GE497.out))
              (case aF => exact (fun k_ hk => (Nat.le_trans (below_size (b3_ HB.out GE488.out GE489.out GE497.out)) hk)))
              (case aO => exact (rr_ HO_498000.out))
              (case aS => exact (below_size (b3_ HB.out GE488.out GE489.out GE497.out)))
              (case aL => have := LMc108.out; omega)
              intro v519 w113 ho hb hg hat
              rw [← Ny518.out] at ho
              replace HO_4 := am_ (Kd.N_afterv (ok := (fun k_ => (w.heap.size ≤ k_) ∧ some k_ ≠ (u7 : Value).ownBlock ∧ some k_ ≠ (u498001 : Value).ownBlock ∧ k_ ≠ gb488 ∧ k_ ≠ gb489 ∧ k_ ≠ gb497)) (by (with_reducible repeat (first | apply Kd.N_alloc | apply Kd.N_drewN | apply Kd.N_drew)); exact Kd.N_mono HO_4.out (fun _ hk => ⟨⟨hk.1, ⟨hk.2.1, ⟨hk.2.2.2.1, ⟨hk.2.2.2.2.1, ⟨hk.2.2.2.2.2.1, hk.2.2.2.2.2.2⟩⟩⟩⟩⟩, hk.2.2.1⟩)) hg hat)
              replace HO_7 := am_ (Kd.R_over' (rr_ HO_7.out) (Kd.R_typed (rr_ HO_498000.out)) (by decide) hg)
              replace HO_498001 := am_ (Kd.N_afterv (ok := (fun k_ => (w.heap.size ≤ k_) ∧ some k_ ≠ (.slice (some ad509) x4_2.length co110 : Value).ownBlock ∧ some k_ ≠ (u7 : Value).ownBlock ∧ k_ ≠ gb488 ∧ k_ ≠ gb489 ∧ k_ ≠ gb497)) (by (with_reducible repeat (first | apply Kd.N_alloc | apply Kd.N_drewN | apply Kd.N_drew)); exact Kd.N_mono HO_498001.out (fun _ hk => ⟨⟨hk.1, ⟨hk.2.1, ⟨hk.2.2.1, ⟨hk.2.2.2.2.1, ⟨hk.2.2.2.2.2.1, hk.2.2.2.2.2.2⟩⟩⟩⟩⟩, hk.2.2.2.1⟩)) hg hat)
              replace BK488 := am_ (blk_grown (g := gb488) (o := .cells #[.slice A0_0 l0_0.length c0_0, .slice A0_1 l0_1.length c0_1] 27 (0, 0)) (rb_ BK488.out) hg (Kd.R_ne HO_498000.out BK488.out (by decide)))
              replace BK489 := am_ (blk_grown (g := gb489) (o := .cells #[.slice none 0 0, .slice none 0 0] 27 (0, 0)) (rb_ BK489.out) hg (Kd.R_ne HO_498000.out BK489.out (by decide)))
              replace BK497 := am_ (blk_grown (g := gb497) (o := .cells #[u498000, u498001] 27 (0, 0)) (rb_ BK497.out) hg (Kd.R_ne HO_498000.out BK497.out (by decide)))
              replace HL509_1 := am_ (Kd.V_afterv (ok := (fun k_ => (w.heap.size ≤ k_) ∧ some k_ ≠ (.slice (some ad509) x4_2.length co110 : Value).ownBlock ∧ some k_ ≠ (u7 : Value).ownBlock ∧ some k_ ≠ (u498001 : Value).ownBlock ∧ k_ ≠ gb488 ∧ k_ ≠ gb489 ∧ k_ ≠ gb497)) (by (with_reducible repeat (first | apply Kd.V_alloc | apply Kd.V_drewN | apply Kd.V_drew)); exact Kd.V_mono HL509_1.out (fun _ hk => ⟨⟨hk.1.1, ⟨hk.2, ⟨hk.1.2.1, ⟨hk.1.2.2.2.1, ⟨hk.1.2.2.2.2.1, ⟨hk.1.2.2.2.2.2.1, hk.1.2.2.2.2.2.2⟩⟩⟩⟩⟩⟩, hk.1.2.2.1⟩)) hg hat)
              replace HL516_1 := am_ (Kd.V_afterv (ok := (fun k_ => (w.heap.size ≤ k_) ∧ some k_ ≠ (.slice (some ad509) x4_2.length co110 : Value).ownBlock ∧ some k_ ≠ (u7 : Value).ownBlock ∧ some k_ ≠ (u498001 : Value).ownBlock ∧ k_ ≠ gb488 ∧ k_ ≠ gb489 ∧ k_ ≠ gb497)) (by (with_reducible repeat (first | apply Kd.V_alloc | apply Kd.V_drewN | apply Kd.V_drew)); exact Kd.V_mono HL516_1.out (fun _ hk => ⟨⟨hk.1.1, ⟨hk.2, ⟨hk.1.2.1, ⟨hk.1.2.2.2.1, ⟨hk.1.2.2.2.2.1, ⟨hk.1.2.2.2.2.2.1, hk.1.2.2.2.2.2.2⟩⟩⟩⟩⟩⟩, hk.1.2.2.1⟩)) hg hat)
              replace HB := am_ (hb)
              replace HO520 := am_ (ho)
              clear HO_498000 ho hb hg hat
              obtain ⟨Ao114, co114, eo114⟩ := Kd.R_slice HO520.out
              (first | subst eo114 | (injection eo114 with f1_ f2_ f3_; have f4_ := f1_.symm; have f5_ := f3_.symm; clear f1_ f2_ f3_; subst f4_; subst f5_))
              refine hK.out _ _ ?_
              clear hK K
              refine norm_ (a' := ?_) ?_ ?_
              rotate_left
              ·show Act.put _ (some 83) _ = _
               simp only [pn_, sz_, ss_, i64_w, i32_w]
               rfl
              refine pu_ 18 84 (bl 20 524287) HT_ ?_
              refine last_ (i := 19) (N := none) (bl 20 1048575) rfl rfl (one_of HT_.out (by kernel_rfl)) (by decide) (fun K hK => ?_)
              have hs115 : w113.cell? ⟨gb497, 0, none⟩ = some (u498000) := (blk_cell BK497.out 0).trans rfl
              have hfs115 := blk_frozen BK497.out 0
              have hns115_0 := NB488_497.out
              have hns115_1 := NB489_497.out
              have hms115_0 := NB497_488.out
              have hms115_1 := NB497_489.out
              refine skip_ (w1 := ?_) (by rfl) rfl ?_ ?_
              rotate_left
              ·go_simp
               rfl
              refine hK.out _ _ ?_
              clear hK K
              refine done_ (done_of HT_.out (by kernel_rfl)) ?_
              have n0_ : Aside0 (Kd.N k78 78 (w113.setCell ⟨gb497, 0, none⟩ (.slice Ao114 y518.length co114)) w.heap.size (fun k_ => (w.heap.size ≤ k_) ∧ some k_ ≠ (u7 : Value).ownBlock ∧ some k_ ≠ (u498001 : Value).ownBlock ∧ some k_ ≠ (.slice Ao114 y518.length co114 : Value).ownBlock ∧ k_ ≠ gb488 ∧ k_ ≠ gb489 ∧ k_ ≠ gb497) (.slice (some ad509) x4_2.length co110) x4_2) := ⟨by (with_reducible repeat (first | apply Kd.N_alloc | apply Kd.N_drewN | apply Kd.N_drew)); exact Kd.N_mono (Kd.N_far (p := ⟨gb497, 0, none⟩) (Kd.N_mono HO_4.out (fun k_ hk => (⟨hk, hk.1.2.2.2.2.2⟩ : _ ∧ k_ ≠ gb497))) (fun _ hk => hk.2) (.slice Ao114 y518.length co114)) (fun _ hk => ⟨hk.1.1.1, ⟨hk.1.1.2.1, ⟨hk.1.1.2.2.1, ⟨hk.1.2, ⟨hk.1.1.2.2.2.1, ⟨hk.1.1.2.2.2.2.1, hk.1.1.2.2.2.2.2⟩⟩⟩⟩⟩⟩)⟩
              have n1_ : Aside0 (Kd.R (Kd.int .i64) 3 (w113.setCell ⟨gb497, 0, none⟩ (.slice Ao114 y518.length co114)) w.heap.size (fun k_ => (w.heap.size ≤ k_)) u7 x7_2) := ⟨by refine rr_ ?_; exact Kd.R_mono (Kd.R_far (p := ⟨gb497, 0, none⟩) (Kd.R_types HO_7.out BK497.out (by decide)) (fun _ hk => hk.2) (.slice Ao114 y518.length co114)) (fun _ hk => hk.1)⟩
              have n2_ : Aside0 (Kd.N (Kd.slice 3 (Kd.int .i64)) 67 (w113.setCell ⟨gb497, 0, none⟩ (.slice Ao114 y518.length co114)) w.heap.size (fun k_ => (w.heap.size ≤ k_) ∧ some k_ ≠ (.slice (some ad509) x4_2.length co110 : Value).ownBlock ∧ some k_ ≠ (u7 : Value).ownBlock ∧ some k_ ≠ (.slice Ao114 y518.length co114 : Value).ownBlock ∧ k_ ≠ gb488 ∧ k_ ≠ gb489 ∧ k_ ≠ gb497) u498001 x498001_1) := ⟨by (with_reducible repeat (first | apply Kd.N_alloc | apply Kd.N_drewN | apply Kd.N_drew)); exact Kd.N_mono (Kd.N_far (p := ⟨gb497, 0, none⟩) (Kd.N_mono HO_498001.out (fun k_ hk => (⟨hk, hk.1.2.2.2.2.2⟩ : _ ∧ k_ ≠ gb497))) (fun _ hk => hk.2) (.slice Ao114 y518.length co114)) (fun _ hk => ⟨hk.1.1.1, ⟨hk.1.1.2.1, ⟨hk.1.1.2.2.1, ⟨hk.1.2, ⟨hk.1.1.2.2.2.1, ⟨hk.1.1.2.2.2.2.1, hk.1.1.2.2.2.2.2⟩⟩⟩⟩⟩⟩)⟩
              have n3_ : Aside0 (Kd.V (Kd.int .i64) 3 (w113.setCell ⟨gb497, 0, none⟩ (.slice Ao114 y518.length co114)) w.heap.size (fun k_ => (w.heap.size ≤ k_) ∧ some k_ ≠ (.slice (some ad509) x4_2.length co110 : Value).ownBlock ∧ some k_ ≠ (u7 : Value).ownBlock ∧ some k_ ≠ (u498001 : Value).ownBlock ∧ some k_ ≠ (.slice Ao114 y518.length co114 : Value).ownBlock ∧ k_ ≠ gb488 ∧ k_ ≠ gb489 ∧ k_ ≠ gb497) (.slice A509_1 ((rd_T78 x4_2 x6_1).f1).length c509_1) ((rd_T78 x4_2 x6_1).f1)) := ⟨by (with_reducible repeat (first | apply Kd.V_alloc | apply Kd.V_drewN | apply Kd.V_drew)); exact Kd.V_mono (Kd.V_far (p := ⟨gb497, 0, none⟩) (Kd.V_mono HL509_1.out (fun k_ hk => (⟨hk, hk.1.2.2.2.2.2.2⟩ : _ ∧ k_ ≠ gb497))) (fun _ hk => hk.2) (.slice Ao114 y518.length co114)) (fun _ hk => ⟨hk.1.1.1, ⟨hk.1.1.2.1, ⟨hk.1.1.2.2.1, ⟨hk.1.1.2.2.2.1, ⟨hk.1.2, ⟨hk.1.1.2.2.2.2.1, ⟨hk.1.1.2.2.2.2.2.1, hk.1.1.2.2.2.2.2.2⟩⟩⟩⟩⟩⟩⟩)⟩
              have n4_ : Aside0 (Kd.V (Kd.int .i64) 3 (w113.setCell ⟨gb497, 0, none⟩ (.slice Ao114 y518.length co114)) w.heap.size (fun k_ => (w.heap.size ≤ k_) ∧ some k_ ≠ (.slice (some ad509) x4_2.length co110 : Value).ownBlock ∧ some k_ ≠ (u7 : Value).ownBlock ∧ some k_ ≠ (u498001 : Value).ownBlock ∧ some k_ ≠ (.slice Ao114 y518.length co114 : Value).ownBlock ∧ k_ ≠ gb488 ∧ k_ ≠ gb489 ∧ k_ ≠ gb497) (.slice A509_1 ((rd_T78 x4_2 x6_1).f1).length c509_1) ((rd_T78 x4_2 x6_1).f1)) := ⟨by (with_reducible repeat (first | apply Kd.V_alloc | apply Kd.V_drewN | apply Kd.V_drew)); exact Kd.V_mono (Kd.V_far (p := ⟨gb497, 0, none⟩) (Kd.V_mono HL516_1.out (fun k_ hk => (⟨hk, hk.1.2.2.2.2.2.2⟩ : _ ∧ k_ ≠ gb497))) (fun _ hk => hk.2) (.slice Ao114 y518.length co114)) (fun _ hk => ⟨hk.1.1.1, ⟨hk.1.1.2.1, ⟨hk.1.1.2.2.1, ⟨hk.1.1.2.2.2.1, ⟨hk.1.2, ⟨hk.1.1.2.2.2.2.1, ⟨hk.1.1.2.2.2.2.2.1, hk.1.1.2.2.2.2.2.2⟩⟩⟩⟩⟩⟩⟩)⟩
              have n5_ : Aside0 (Kd.R Kd.bool 4 (w113.setCell ⟨gb497, 0, none⟩ (.slice Ao114 y518.length co114)) w.heap.size (fun k_ => (w.heap.size ≤ k_)) (.slice Ao114 y518.length co114) y518) := ⟨by refine rr_ ?_; exact Kd.R_mono (Kd.R_far (p := ⟨gb497, 0, none⟩) (Kd.R_types HO520.out BK497.out (by decide)) (fun _ hk => hk.2) (.slice Ao114 y518.length co114)) (fun _ hk => hk.1)⟩
              have n6_ : Aside0 ((w113.setCell ⟨gb497, 0, none⟩ (.slice Ao114 y518.length co114)).heap[gb488]? = some (.cells #[.slice A0_0 l0_0.length c0_0, .slice A0_1 l0_1.length c0_1] 27 (0, 0))) := ⟨by refine rb_ ?_; refine blk_far ?_ NB488_497.out _; refine rb_ ?_; exact BK488.out⟩
              have n7_ : Aside0 ((w113.setCell ⟨gb497, 0, none⟩ (.slice Ao114 y518.length co114)).heap[gb489]? = some (.cells #[.slice none 0 0, .slice none 0 0] 27 (0, 0))) := ⟨by refine rb_ ?_; refine blk_far ?_ NB489_497.out _; refine rb_ ?_; exact BK489.out⟩
              have n8_ : Aside0 ((w113.setCell ⟨gb497, 0, none⟩ (.slice Ao114 y518.length co114)).heap[gb497]? = some (.cells #[.slice Ao114 y518.length co114, u498001] 27 (0, 0))) := ⟨by refine rb_ ?_; refine blk_put (cs := #[u498000, u498001]) ?_ 0 _ rfl; refine rb_ ?_; exact BK497.out⟩
              have n9_ : Aside0 (Below w.heap.size w (w113.setCell ⟨gb497, 0, none⟩ (.slice Ao114 y518.length co114))) := ⟨by exact zp27_0_ HB.out GE488.out GE489.out GE497.out⟩
              (try clear HO_4)
              (try clear HO_7)
              (try clear HO_498001)
              (try clear HL509_1)
              (try clear HL516_1)
              (try clear HO520)
              (try clear BK488)
              (try clear BK489)
              (try clear BK497)
              (try clear HB)
              generalize (w113.setCell ⟨gb497, 0, none⟩ (.slice Ao114 y518.length co114)) = w116 at n0_ n1_ n2_ n3_ n4_ n5_ n6_ n7_ n8_ n9_ ⊢
              have HO_4 := n0_; have HO_7 := n1_; have HO_498001 := n2_; have HL509_1 := n3_; have HL516_1 := n4_; have HO520 := n5_; have BK488 := n6_; have BK489 := n7_; have BK497 := n8_; have HB := n9_
              clear n0_ n1_ n2_ n3_ n4_ n5_ n6_ n7_ n8_ n9_
              have hnb117 := NB497_488.out
              have hnc117 := NB488_497.out
              have hnb118 := NB497_489.out
              have hnc118 := NB489_497.out
              have hcz119_0 : w116.cell? ⟨gb497, 0, none⟩ = some (.slice Ao114 y518.length co114) := (blk_cell BK497.out 0).trans rfl
              have hcz119_1 : w116.cell? ⟨gb497, 1, none⟩ = some (u498001) := (blk_cell BK497.out 1).trans rfl
              have hfz119_0 := blk_frozen BK497.out 0
              have hfz119_1 := blk_frozen BK497.out 1
              obtain ⟨Ao121, co121, eo121⟩ := Kd.R_slice HO_7.out
              subst eo121
              try go_wp2_with (first | ((with_reducible refine gate_builtin (b := .append) (xs := #[.tmp 86, .tmp 88]) rfl ?_); at_builtin; refine Kd.N_append (Kd.slice 3 (Kd.int .i64)) (w0 := w) w.heap.size rfl (.tmp 86) (.tmp 88) 23 67 (.slice none 0 0) 24 rfl Try.underlying23 info67 rfl (by decide) (by omega) u498001 x498001_1 x7_2 [.slice Ao121 x7_2.length co121] (fun k_ => (w.heap.size ≤ k_) ∧ some k_ ≠ (.slice (some ad509) x4_2.length co110 : Value).ownBlock ∧ some k_ ≠ (.slice Ao114 y518.length co114 : Value).ownBlock ∧ k_ ≠ gb488 ∧ k_ ≠ gb489 ∧ k_ ≠ gb497) (fun k_ => ((fun k_ => (w.heap.size ≤ k_) ∧ some k_ ≠ (.slice (some ad509) x4_2.length co110 : Value).ownBlock ∧ some k_ ≠ (.slice Ao114 y518.length co114 : Value).ownBlock ∧ k_ ≠ gb488 ∧ k_ ≠ gb489 ∧ k_ ≠ gb497)) k_ ∧ some k_ ≠ (u498001 : Value).ownBlock) rfl rfl ?aP (fun _ hk => hk) ?aF ?aO ?aB ?aS ?aL ?_; (case aP => exact (Kd.FK_slice_mk (Kd.R_reads' (Kd.R_mono (ok' := (fun k_ => ((fun k_ => (w.heap.size ≤ k_) ∧ some k_ ≠ (.slice (some ad509) x4_2.length co110 : Value).ownBlock ∧ some k_ ≠ (.slice Ao114 y518.length co114 : Value).ownBlock ∧ k_ ≠ gb488 ∧ k_ ≠ gb489 ∧ k_ ≠ gb497)) k_ ∧ some k_ ≠ (u498001 : Value).ownBlock)) (Kd.R_types (Kd.R_types (Kd.R_types (Kd.R_apart' (Kd.R_apart' (Kd.R_apart' (HO_7.out) (Kd.N_typed HO_4.out) (by decide)) (Kd.R_typed HO520.out) (by decide)) (Kd.N_typed HO_498001.out) (by decide)) BK488.out (by decide)) BK489.out (by decide)) BK497.out (by decide)) (fun k_ hk => ⟨⟨hk.1.1.1.1.1.1, ⟨hk.1.1.1.1.1.2, ⟨hk.1.1.1.1.2, ⟨hk.1.1.2, ⟨hk.1.2, hk.2⟩⟩⟩⟩⟩, hk.1.1.1.2⟩))).2.1 (Kd.R_F (Kd.R_mono (ok' := (fun k_ => ((fun k_ => (w.heap.size ≤ k_) ∧ some k_ ≠ (.slice (some ad509) x4_2.length co110 : Value).ownBlock ∧ some k_ ≠ (.slice Ao114 y518.length co114 : Value).ownBlock ∧ k_ ≠ gb488 ∧ k_ ≠ gb489 ∧ k_ ≠ gb497)) k_ ∧ some k_ ≠ (u498001 : Value).ownBlock)) (Kd.R_types (Kd.R_types (Kd.R_types (Kd.R_apart' (Kd.R_apart' (Kd.R_apart' (HO_7.out) (Kd.N_typed HO_4.out) (by decide)) (Kd.R_typed HO520.out) (by decide)) (Kd.N_typed HO_498001.out) (by decide)) BK488.out (by decide)) BK489.out (by decide)) BK497.out (by decide)) (fun k_ hk => ⟨⟨hk.1.1.1.1.1.1, ⟨hk.1.1.1.1.1.2, ⟨hk.1.1.1.1.2, ⟨hk.1.1.2, ⟨hk.1.2, hk.2⟩⟩⟩⟩⟩, hk.1.1.1.2⟩))))); (case aB => exact (b3_ HB.out GE488.out GE489.out GE497.out)); (case aF => exact (fun k_ hk => ⟨(Nat.le_trans (below_size (b3_ HB.out GE488.out GE489.out GE497.out)) hk), Kd.fresh' (Kd.N_lt (by (with_reducible repeat (first | apply Kd.N_alloc | apply Kd.N_drewN | apply Kd.N_drew)); exact HO_4.out)) k_ hk, Kd.fresh' (Kd.R_lt (rr_ HO520.out)) k_ hk, Kd.freshB (g := gb488) (o := .cells #[.slice A0_0 l0_0.length c0_0, .slice A0_1 l0_1.length c0_1] 27 (0, 0)) (rb_ BK488.out) k_ hk, Kd.freshB (g := gb489) (o := .cells #[.slice none 0 0, .slice none 0 0] 27 (0, 0)) (rb_ BK489.out) k_ hk, Kd.freshB (g := gb497) (o := .cells #[.slice Ao114 y518.length co114, u498001] 27 (0, 0)) (rb_ BK497.out) k_ hk⟩)); (case aO => exact (by (with_reducible repeat (first | apply Kd.N_alloc | apply Kd.N_drewN | apply Kd.N_drew)); exact Kd.N_mono HO_498001.out (fun _ hk => ⟨hk.1, ⟨hk.2.1, ⟨hk.2.2.2.1, ⟨hk.2.2.2.2.1, ⟨hk.2.2.2.2.2.1, hk.2.2.2.2.2.2⟩⟩⟩⟩⟩))); (case aS => exact (below_size (b3_ HB.out GE488.out GE489.out GE497.out))); (case aL => have := LMc109.out; omega); intro v522 w120 ho hb hg hat; rw [← Ny521.out] at ho; have n0_ := am_ (Kd.N_afterv (ok := (fun k_ => (w.heap.size ≤ k_) ∧ some k_ ≠ (.slice Ao121 x7_2.length co121 : Value).ownBlock ∧ some k_ ≠ (.slice Ao114 y518.length co114 : Value).ownBlock ∧ k_ ≠ gb488 ∧ k_ ≠ gb489 ∧ k_ ≠ gb497)) (by (with_reducible repeat (first | apply Kd.N_alloc | apply Kd.N_drewN | apply Kd.N_drew)); exact Kd.N_mono HO_4.out (fun _ hk => ⟨⟨hk.1, ⟨hk.2.1, ⟨hk.2.2.2.1, ⟨hk.2.2.2.2.1, ⟨hk.2.2.2.2.2.1, hk.2.2.2.2.2.2⟩⟩⟩⟩⟩, hk.2.2.1⟩)) hg hat); have n1_ := am_ (blk_grown (g := gb488) (o := .cells #[.slice A0_0 l0_0.length c0_0, .slice A0_1 l0_1.length c0_1] 27 (0, 0)) (rb_ BK488.out) hg (Kd.N_ne HO_498001.out BK488.out (by decide))); have n2_ := am_ (blk_grown (g := gb489) (o := .cells #[.slice none 0 0, .slice none 0 0] 27 (0, 0)) (rb_ BK489.out) hg (Kd.N_ne HO_498001.out BK489.out (by decide))); have n3_ := am_ (blk_grown (g := gb497) (o := .cells #[.slice Ao114 y518.length co114, u498001] 27 (0, 0)) (rb_ BK497.out) hg (Kd.N_ne HO_498001.out BK497.out (by decide))); have n4_ := am_ (Kd.V_afterv (ok := (fun k_ => (w.heap.size ≤ k_) ∧ some k_ ≠ (.slice (some ad509) x4_2.length co110 : Value).ownBlock ∧ some k_ ≠ (.slice Ao121 x7_2.length co121 : Value).ownBlock ∧ some k_ ≠ (.slice Ao114 y518.length co114 : Value).ownBlock ∧ k_ ≠ gb488 ∧ k_ ≠ gb489 ∧ k_ ≠ gb497)) (by (with_reducible repeat (first | apply Kd.V_alloc | apply Kd.V_drewN | apply Kd.V_drew)); exact Kd.V_mono HL509_1.out (fun _ hk => ⟨⟨hk.1, ⟨hk.2.1, ⟨hk.2.2.1, ⟨hk.2.2.2.2.1, ⟨hk.2.2.2.2.2.1, ⟨hk.2.2.2.2.2.2.1, hk.2.2.2.2.2.2.2⟩⟩⟩⟩⟩⟩, hk.2.2.2.1⟩)) hg hat); have n5_ := am_ (Kd.V_afterv (ok := (fun k_ => (w.heap.size ≤ k_) ∧ some k_ ≠ (.slice (some ad509) x4_2.length co110 : Value).ownBlock ∧ some k_ ≠ (.slice Ao121 x7_2.length co121 : Value).ownBlock ∧ some k_ ≠ (.slice Ao114 y518.length co114 : Value).ownBlock ∧ k_ ≠ gb488 ∧ k_ ≠ gb489 ∧ k_ ≠ gb497)) (by (with_reducible repeat (first | apply Kd.V_alloc | apply Kd.V_drewN | apply Kd.V_drew)); exact Kd.V_mono HL516_1.out (fun _ hk => ⟨⟨hk.1, ⟨hk.2.1, ⟨hk.2.2.1, ⟨hk.2.2.2.2.1, ⟨hk.2.2.2.2.2.1, ⟨hk.2.2.2.2.2.2.1, hk.2.2.2.2.2.2.2⟩⟩⟩⟩⟩⟩, hk.2.2.2.1⟩)) hg hat); have n6_ := am_ (Kd.R_over' (rr_ HO520.out) (Kd.N_typed (by (with_reducible repeat (first | apply Kd.N_alloc | apply Kd.N_drewN | apply Kd.N_drew)); exact HO_498001.out)) (by decide) hg); have n7_ := am_ (hb); have n8_ := am_ (ho); clear HO_4; clear BK488; clear BK489; clear BK497; clear HL509_1; clear HL516_1; clear HO520; clear HB; clear HO_498001; clear HO_7; have HO_4 := n0_; have BK488 := n1_; have BK489 := n2_; have BK497 := n3_; have HL509_1 := n4_; have HL516_1 := n5_; have HO520 := n6_; have HB := n7_; have HO523 := n8_; clear n0_ n1_ n2_ n3_ n4_ n5_ n6_ n7_ n8_; clear ho hb hg hat; obtain ⟨Ao122, co122, eo122⟩ := Kd.N_slice HO523.out; subst eo122; have hcz123_0 : w120.cell? ⟨gb497, 0, none⟩ = some (.slice Ao114 y518.length co114) := (blk_cell BK497.out 0).trans rfl; have hcz123_1 : w120.cell? ⟨gb497, 1, none⟩ = some (u498001) := (blk_cell BK497.out 1).trans rfl; have hfz123_0 := blk_frozen BK497.out 0; have hfz123_1 := blk_frozen BK497.out 1))
              go_roundg k2
              case measure => have := HK1.out; have := HK2.out; omega
              case rel => exact ⟨(x4_2), (wrap64 (x6_1 + 1)), (y518), (y521), (.slice Ao114 y518.length co114), (.slice Ao122 y521.length co122), (by first | rfl | (simp; done) | (simp [*]; done)), H', ⟨by have := HK1.out; have := HK2.out; omega⟩, ⟨by (with_reducible repeat (first | apply Kd.N_alloc | apply Kd.N_drewN | apply Kd.N_drew)); exact Kd.N_mono (Kd.N_far (p := ⟨gb497, 1, none⟩) (Kd.N_mono HO_4.out (fun k_ hk => (⟨hk, hk.1.2.2.2.2.2⟩ : _ ∧ k_ ≠ gb497))) (fun _ hk => hk.2) (.slice Ao122 y521.length co122)) (fun _ hk => ⟨hk.1.1.1, ⟨hk.1.1.2.2.1, ⟨hk.1.2, ⟨hk.1.1.2.2.2.1, ⟨hk.1.1.2.2.2.2.1, hk.1.1.2.2.2.2.2⟩⟩⟩⟩⟩)⟩, ⟨by refine rr_ ?_; exact Kd.R_mono (Kd.R_far (p := ⟨gb497, 1, none⟩) (Kd.R_types HO520.out BK497.out (by decide)) (fun _ hk => hk.2) (.slice Ao122 y521.length co122)) (fun _ hk => hk.1)⟩, ⟨by (with_reducible repeat (first | apply Kd.N_alloc | apply Kd.N_drewN | apply Kd.N_drew)); exact Kd.N_mono (Kd.N_far (p := ⟨gb497, 1, none⟩) (Kd.N_mono HO523.out (fun k_ hk => (⟨hk, hk.2.2.2.2.2⟩ : _ ∧ k_ ≠ gb497))) (fun _ hk => hk.2) (.slice Ao122 y521.length co122)) (fun _ hk => ⟨hk.1.1, ⟨hk.1.2.1, ⟨hk.1.2.2.1, ⟨hk.1.2.2.2.1, ⟨hk.1.2.2.2.2.1, hk.1.2.2.2.2.2⟩⟩⟩⟩⟩)⟩, ⟨by refine rb_ ?_; refine blk_far ?_ NB488_497.out _; refine rb_ ?_; exact BK488.out⟩, ⟨by refine rb_ ?_; refine blk_far ?_ NB489_497.out _; refine rb_ ?_; exact BK489.out⟩, ⟨by refine rb_ ?_; refine blk_put (cs := #[.slice Ao114 y518.length co114, u498001]) ?_ 1 _ rfl; refine rb_ ?_; exact BK497.out⟩, ⟨by exact zp27_0_ HB.out GE488.out GE489.out GE497.out⟩⟩
             ·rw [if_neg c109] at H
              exact absurd H (by simp)
            ·rw [if_neg c108] at H
             exact absurd H (by simp)
          ·rw [if_neg c89] at H
           exact absurd H (by simp)
         ·rw [if_neg c88] at H
          exact absurd H (by simp)
    ·rw [if_neg c18] at H
     have c18b0 : decide (x6_1 < (x4_1.length : Int)) = false := decide_eq_false c18
     clear c18
     replace H := Option.bind_eq_some_iff.mp H
     obtain ⟨⟨t498, t501, t504⟩, A1240, H⟩ := H
     replace H : (some (t498, t501, t504)) = some (r1, r2, r3) := H
     have A124 := am_ A1240
     clear A1240
     simp only [Option.some.injEq, Prod.mk.injEq] at H
     obtain ⟨rfl, rfl, rfl⟩ := H
     obtain ⟨Ao125, co125, eo125⟩ := Kd.N_slice HO_4.out
     subst eo125
     have hnb126 := NB497_488.out
     have hnc126 := NB488_497.out
     have hnb127 := NB497_489.out
     have hnc127 := NB489_497.out
     have hcz128_0 : wr.cell? ⟨gb497, 0, none⟩ = some (u498000) := (blk_cell BK497.out 0).trans rfl
     have hcz128_1 : wr.cell? ⟨gb497, 1, none⟩ = some (u498001) := (blk_cell BK497.out 1).trans rfl
     have hfz128_0 := blk_frozen BK497.out 0
     have hfz128_1 := blk_frozen BK497.out 1
     obtain ⟨Ao129, co129, eo129⟩ := Kd.R_slice HO_498000.out
     subst eo129
     obtain ⟨Ao130, co130, eo130⟩ := Kd.N_slice HO_498001.out
     subst eo130
     go_wp2_with (first | ((with_reducible refine gate_callee (f := 64) rfl ?_); refine gL_ (some 93) Try.func64 #[.agg #[.slice Ao129 x498000_1.length co129, .slice Ao130 x498001_1.length co130]] ?_; (with_reducible refine (spec_l5Fits.calls k1 _ _ x498000_1 _ _ x498001_1 t498 t501 t504 _ ?side1 ?side2 ?side3 ?side4 A124.out).mono ?_); (case side1 => exact rc_ ((Kd.R_reads' HO_498000.out).2.2)); (case side2 => exact (Kd.R_reads' HO_498000.out).2.1); (case side3 => exact rc_ ((Kd.N_reads' HO_498001.out).2.2)); (case side4 => exact (Kd.N_reads' HO_498001.out).2.1); rintro e w131 ⟨v499, v502, rfl, ho0, ho1, hb⟩; refine ⟨_, rfl, ?_⟩; have n0_ := am_ (Kd.N_mono (Kd.N_told (Kd.N_told (Kd.N_old (by (with_reducible repeat (first | apply Kd.N_alloc | apply Kd.N_drewN | apply Kd.N_drew)); exact HO_4.out) hb) (Kd.R_base ho0)) (Kd.S_base ho1)) (fun _ h_ => h_.1)); have n1_ := am_ (Kd.R_elder' (rr_ HO_498000.out) (Kd.R_base ho0) hb); have n2_ := am_ (Kd.N_mono (Kd.N_told (Kd.N_told (Kd.N_old (by (with_reducible repeat (first | apply Kd.N_alloc | apply Kd.N_drewN | apply Kd.N_drew)); exact HO_498001.out) hb) (Kd.R_base ho0)) (Kd.S_base ho1)) (fun _ h_ => h_.1)); have n3_ := am_ (Kd.R_lower (Kd.R_new' (Kd.R_newM (M := fun k_ => (w.heap.size ≤ k_)) ho0 (below_size (b3_ HB.out GE488.out GE489.out GE497.out)) (fun k_ h_ => h_)) (Kd.R_lt (rr_ HO_498000.out))) (below_size (b3_ HB.out GE488.out GE489.out GE497.out))); have n4_ := am_ (Kd.N_lower (Kd.N_mono (ok' := fun k_ => (w.heap.size ≤ k_) ∧ some k_ ≠ (v499 : Value).ownBlock ∧ some k_ ≠ (.slice Ao125 x4_1.length co125 : Value).ownBlock ∧ some k_ ≠ (.slice Ao129 x498000_1.length co129 : Value).ownBlock ∧ some k_ ≠ (.slice Ao130 x498001_1.length co130 : Value).ownBlock ∧ k_ ≠ gb488 ∧ k_ ≠ gb489 ∧ k_ ≠ gb497) (Kd.S_N (Kd.S_bound (Kd.S_apart' ho1 (Kd.R_typed ho0) (by decide)))) (fun k_ hk_ => ⟨(Nat.le_trans (below_size (b3_ HB.out GE488.out GE489.out GE497.out)) hk_.2.1), hk_.1.2, (Kd.fresh' (Kd.N_lt (by (with_reducible repeat (first | apply Kd.N_alloc | apply Kd.N_drewN | apply Kd.N_drew)); exact HO_4.out)) k_ hk_.2.1), (Kd.fresh' (Kd.R_lt (rr_ HO_498000.out)) k_ hk_.2.1), (Kd.fresh' (Kd.N_lt (by (with_reducible repeat (first | apply Kd.N_alloc | apply Kd.N_drewN | apply Kd.N_drew)); exact HO_498001.out)) k_ hk_.2.1), (Kd.freshB (g := gb488) (o := .cells #[.slice A0_0 l0_0.length c0_0, .slice A0_1 l0_1.length c0_1] 27 (0, 0)) (rb_ BK488.out) k_ hk_.2.1), (Kd.freshB (g := gb489) (o := .cells #[.slice none 0 0, .slice none 0 0] 27 (0, 0)) (rb_ BK489.out) k_ hk_.2.1), (Kd.freshB (g := gb497) (o := .cells #[.slice Ao129 x498000_1.length co129, .slice Ao130 x498001_1.length co130] 27 (0, 0)) (rb_ BK497.out) k_ hk_.2.1)⟩)) (below_size (b3_ HB.out GE488.out GE489.out GE497.out))); have n5_ := am_ (blk_below (rb_ BK488.out) hb); have n6_ := am_ (blk_below (rb_ BK489.out) hb); have n7_ := am_ (blk_below (rb_ BK497.out) hb); have n8_ := am_ (below_step (b3_ HB.out GE488.out GE489.out GE497.out) hb); clear HO_4; clear HO_498000; clear HO_498001; clear BK488; clear BK489; clear BK497; clear HB; have HO_4 := n0_; have HO_498000 := n1_; have HO_498001 := n2_; have HO500 := n3_; have HO503 := n4_; have BK488 := n5_; have BK489 := n6_; have BK497 := n7_; have HB := n8_; clear n0_ n1_ n2_ n3_ n4_ n5_ n6_ n7_ n8_; (try clear hb); (try clear hb2); (try clear hk); (try clear hi); (try clear ho0); (try clear ho1)) | ((with_reducible refine gate_dst (N := 10) rfl ?_); refine box_event ?hg (N := 10) ?hd (cs := #[.slice none 0 0, .slice none 0 0]) (t := 27) ?hr ?_; (case hd => rfl); (case hg => rfl); (case hr => first | (go_simp; done) | (go_simp; rfl)); intro gb505 hg w132 hbox hb; have n0_ := am_ (Kd.N_below (Kd.N_elderB (by (with_reducible repeat (first | apply Kd.N_alloc | apply Kd.N_drewN | apply Kd.N_drew)); exact HO_4.out) gb505 (Nat.le_of_eq hg.symm)) hb); have n1_ := am_ (Kd.R_below (rr_ HO_498000.out) hb); have n2_ := am_ (Kd.N_below (Kd.N_elderB (by (with_reducible repeat (first | apply Kd.N_alloc | apply Kd.N_drewN | apply Kd.N_drew)); exact HO_498001.out) gb505 (Nat.le_of_eq hg.symm)) hb); have n3_ := am_ (Kd.R_below (rr_ HO500.out) hb); have n4_ := am_ (Kd.N_below (Kd.N_elderB (by (with_reducible repeat (first | apply Kd.N_alloc | apply Kd.N_drewN | apply Kd.N_drew)); exact HO503.out) gb505 (Nat.le_of_eq hg.symm)) hb); have n5_ := am_ (blk_below (rb_ BK488.out) hb); have n6_ := am_ (blk_below (rb_ BK489.out) hb); have n7_ := am_ (blk_below (rb_ BK497.out) hb); have n8_ := am_ (below_step (b3_ HB.out GE488.out GE489.out GE497.out) hb); have n9_ := am_ (hbox); have n10_ := am_ ((by rw [hg]; exact (below_size (b3_ HB.out GE488.out GE489.out GE497.out)) : w.heap.size ≤ gb505)); have n11_ := am_ ((by rw [hg]; exact (below_size (b3_ HB.out GE488.out GE489.out GE497.out)) : w.heap.size ≤ gb505)); have n12_ := am_ ((by rw [hg]; exact Nat.ne_of_lt (blk_lt (rb_ BK488.out)) : gb488 ≠ gb505)); have n13_ := am_ ((by rw [hg]; exact Nat.ne_of_gt (blk_lt (rb_ BK488.out)) : gb505 ≠ gb488)); have n14_ := am_ ((by rw [hg]; exact Nat.ne_of_lt (blk_lt (rb_ BK489.out)) : gb489 ≠ gb505)); have n15_ := am_ ((by rw [hg]; exact Nat.ne_of_gt (blk_lt (rb_ BK489.out)) : gb505 ≠ gb489)); have n16_ := am_ ((by rw [hg]; exact Nat.ne_of_lt (blk_lt (rb_ BK497.out)) : gb497 ≠ gb505)); have n17_ := am_ ((by rw [hg]; exact Nat.ne_of_gt (blk_lt (rb_ BK497.out)) : gb505 ≠ gb497)); clear HO_4; clear HO_498000; clear HO_498001; clear HO500; clear HO503; clear BK488; clear BK489; clear BK497; clear HB; have HO_4 := n0_; have HO_498000 := n1_; have HO_498001 := n2_; have HO500 := n3_; have HO503 := n4_; have BK488 := n5_; have BK489 := n6_; have BK497 := n7_; have HB := n8_; have BK505 := n9_; have GW505 := n10_; have GE505 := n11_; have NB488_505 := n12_; have NB505_488 := n13_; have NB489_505 := n14_; have NB505_489 := n15_; have NB497_505 := n16_; have NB505_497 := n17_; clear n0_ n1_ n2_ n3_ n4_ n5_ n6_ n7_ n8_ n9_ n10_ n11_ n12_ n13_ n14_ n15_ n16_ n17_; clear hb hbox hg; obtain ⟨Ao133, co133, eo133⟩ := Kd.R_slice HO500.out; subst eo133; have hnb134 := NB505_488.out; have hnc134 := NB488_505.out; have hnb135 := NB505_489.out; have hnc135 := NB489_505.out; have hnb136 := NB505_497.out; have hnc136 := NB497_505.out; have hcz137_0 : w132.cell? ⟨gb505, 0, none⟩ = some (.slice none 0 0) := (blk_cell BK505.out 0).trans rfl; have hcz137_1 : w132.cell? ⟨gb505, 1, none⟩ = some (.slice none 0 0) := (blk_cell BK505.out 1).trans rfl; have hfz137_0 := blk_frozen BK505.out 0; have hfz137_1 := blk_frozen BK505.out 1; obtain ⟨Ao138, co138, eo138⟩ := Kd.N_slice HO503.out; subst eo138; have hnb139 := NB489_488.out; have hnc139 := NB488_489.out; have hcz140_0 : w132.cell? ⟨gb489, 0, none⟩ = some (.slice none 0 0) := (blk_cell BK489.out 0).trans rfl; have hcz140_1 : w132.cell? ⟨gb489, 1, none⟩ = some (.slice none 0 0) := (blk_cell BK489.out 1).trans rfl; have hfz140_0 := blk_frozen BK489.out 0; have hfz140_1 := blk_frozen BK489.out 1))
     refine bodyPost_ret (results_ct rfl _ _ gb489 27 #[.slice Ao133 t498.length co133, .slice Ao138 t501.length co138] (0, 0) _ rfl (by refine rb_ ?_; refine blk_put (cs := #[.slice Ao133 t498.length co133, .slice none 0 0]) ?_ 1 _ rfl; refine rb_ ?_; refine blk_put (cs := #[.slice none 0 0, .slice none 0 0]) ?_ 0 _ rfl; refine rb_ ?_; refine blk_far ?_ NB489_505.out _; refine rb_ ?_; refine blk_far ?_ NB489_505.out _; refine rb_ ?_; exact BK489.out) Try.underlying27 rfl (by kernel_rfl)) rfl ?_
     exact ⟨_, _, by first | rfl | (simp [errW_none, errW_some] <;> rfl) | (simp [*, errW_none, errW_some] <;> rfl), by refine rr_ ?_; exact Kd.R_mono (Kd.R_far (p := ⟨gb489, 1, none⟩) (Kd.R_far (p := ⟨gb489, 0, none⟩) (Kd.R_far (p := ⟨gb505, 1, none⟩) (Kd.R_far (p := ⟨gb505, 0, none⟩) (Kd.R_types (Kd.R_types HO500.out BK505.out (by decide)) BK489.out (by decide)) (fun _ hk => hk.1.2) (.slice Ao133 t498.length co133)) (fun _ hk => hk.1.2) (.slice Ao138 t501.length co138)) (fun _ hk => hk.2) (.slice Ao133 t498.length co133)) (fun _ hk => hk.2) (.slice Ao138 t501.length co138)) (fun _ hk => hk.1.1.1.1), by (with_reducible repeat (first | apply Kd.N_alloc | apply Kd.N_drewN | apply Kd.N_drew)); exact Kd.N_mono (Kd.N_far (p := ⟨gb489, 1, none⟩) (Kd.N_far (p := ⟨gb489, 0, none⟩) (Kd.N_far (p := ⟨gb505, 1, none⟩) (Kd.N_far (p := ⟨gb505, 0, none⟩) (Kd.N_mono (Kd.N_mono HO503.out (fun k_ hk => (⟨hk, hk.2⟩ : _ ∧ k_ ≠ gb505))) (fun k_ hk => (⟨hk, hk.1.1.2.2.2.2.2.2.1⟩ : _ ∧ k_ ≠ gb489))) (fun _ hk => hk.1.2) (.slice Ao133 t498.length co133)) (fun _ hk => hk.1.2) (.slice Ao138 t501.length co138)) (fun _ hk => hk.2) (.slice Ao133 t498.length co133)) (fun _ hk => hk.2) (.slice Ao138 t501.length co138)) (fun _ hk => ⟨hk.1.1.1.1, hk.1.1.1.2.1⟩), by exact zp27_1_ HB.out GE488.out GE489.out GE497.out GE505.out⟩
 ·replace c3 := Bool.eq_false_iff.mpr c3
  subst c3
  have H1 : (some (([] : List Bool), ([] : List (List Int)), false)) = some (r1, r2, r3) := by rw [if_neg (show ¬ (false = true) by decide)] at H; exact H
  clear H
  have H := H1
  clear H1
  simp only [Option.some.injEq, Prod.mk.injEq] at H
  obtain ⟨rfl, rfl, rfl⟩ := H
  go_enter Try.func25, Try.ntmps25
  go_wp2_with (first | ((with_reducible refine gate_dst (N := 1) rfl ?_); refine box_event ?hg (N := 1) ?hd (cs := #[.slice A0_0 l0_0.length c0_0, .slice A0_1 l0_1.length c0_1]) (t := 27) ?hr ?_; (case hd => rfl); (case hg => rfl); (case hr => first | (go_simp; done) | (go_simp; rfl)); intro gb488 hg w141 hbox hb; replace BK488 := am_ (hbox); replace GW488 := am_ ((by rw [hg]; exact (below_size (b0_ HB.out)) : w.heap.size ≤ gb488)); replace GE488 := am_ ((by rw [hg]; exact (below_size (b0_ HB.out)) : w.heap.size ≤ gb488)); replace HB := am_ (below_step (b0_ HB.out) hb); clear hb hbox hg) | ((with_reducible refine gate_dst (N := 2) rfl ?_); refine box_event ?hg (N := 2) ?hd (cs := #[.slice none 0 0, .slice none 0 0]) (t := 27) ?hr ?_; (case hd => rfl); (case hg => rfl); (case hr => first | (go_simp; done) | (go_simp; rfl)); intro gb489 hg w142 hbox hb; have n0_ := am_ (blk_below (rb_ BK488.out) hb); have n1_ := am_ (below_step (b1_ HB.out GE488.out) hb); have n2_ := am_ (hbox); have n3_ := am_ ((by rw [hg]; exact (below_size (b1_ HB.out GE488.out)) : w.heap.size ≤ gb489)); have n4_ := am_ ((by rw [hg]; exact (below_size (b1_ HB.out GE488.out)) : w.heap.size ≤ gb489)); have n5_ := am_ ((by rw [hg]; exact Nat.ne_of_lt (blk_lt (rb_ BK488.out)) : gb488 ≠ gb489)); have n6_ := am_ ((by rw [hg]; exact Nat.ne_of_gt (blk_lt (rb_ BK488.out)) : gb489 ≠ gb488)); clear BK488; clear HB; have BK488 := n0_; have HB := n1_; have BK489 := n2_; have GW489 := n3_; have GE489 := n4_; have NB488_489 := n5_; have NB489_488 := n6_; clear n0_ n1_ n2_ n3_ n4_ n5_ n6_; clear hb hbox hg; have hnb143 := NB488_489.out; have hnc143 := NB489_488.out; have hcz144_0 : w142.cell? ⟨gb488, 0, none⟩ = some (.slice A0_0 l0_0.length c0_0) := (blk_cell BK488.out 0).trans rfl; have hcz144_1 : w142.cell? ⟨gb488, 1, none⟩ = some (.slice A0_1 l0_1.length c0_1) := (blk_cell BK488.out 1).trans rfl; have hfz144_0 := blk_frozen BK488.out 0; have hfz144_1 := blk_frozen BK488.out 1) | ((with_reducible refine gate_callee (f := 35) rfl ?_); refine gL_ (some 13) Try.func35 #[.agg #[.slice A0_0 l0_0.length c0_0, .slice A0_1 l0_1.length c0_1]] ?_; (with_reducible refine (spec_IsValidDfa.calls k _ _ l0_0 _ _ l0_1 false _ ?side1 ?side2 ?side3 ?side4 A2.out).mono ?_); (case side1 => exact rc_ (Kd.C_below HR0_0.out HB.out)); (case side2 => exact HC0_0.out); (case side3 => exact rc_ (Kd.C_below HR0_1.out HB.out)); (case side4 => exact HC0_1.out); rintro e w145 ⟨rfl, hb⟩; refine ⟨_, rfl, ?_⟩; have n0_ := am_ (blk_below (rb_ BK488.out) hb); have n1_ := am_ (blk_below (rb_ BK489.out) hb); have n2_ := am_ (below_step (b2_ HB.out GE488.out GE489.out) hb); clear BK488; clear BK489; clear HB; have BK488 := n0_; have BK489 := n1_; have HB := n2_; clear n0_ n1_ n2_; (try clear hb); (try clear hb2); (try clear hk); (try clear hi); have hcz146_0 : w145.cell? ⟨gb489, 0, none⟩ = some (.slice none 0 0) := (blk_cell BK489.out 0).trans rfl; have hcz146_1 : w145.cell? ⟨gb489, 1, none⟩ = some (.slice none 0 0) := (blk_cell BK489.out 1).trans rfl; have hfz146_0 := blk_frozen BK489.out 0; have hfz146_1 := blk_frozen BK489.out 1))
  refine bodyPost_ret (results_ct rfl _ _ gb489 27 #[.slice none 0 0, .slice none 0 0] (0, 0) _ rfl (by refine rb_ ?_; refine blk_put (cs := #[.slice none 0 0, .slice none 0 0]) ?_ 1 _ rfl; refine rb_ ?_; refine blk_put (cs := #[.slice none 0 0, .slice none 0 0]) ?_ 0 _ rfl; refine rb_ ?_; exact BK489.out) Try.underlying27 rfl (by kernel_rfl)) rfl ?_
  exact ⟨_, _, by first | rfl | (simp [errW_none, errW_some] <;> rfl) | (simp [*, errW_none, errW_some] <;> rfl), by first | exact Kd.R_nil _ _ _ _ _ | exact Kd.N_nil _ _ _ _ _ | exact Kd.V_nil _ _ _ _ _ | exact Kd.Q_nil _ _ _ _ _ | exact Kd.S_nil _ _ _ _ _, by first | exact Kd.S_nil _ _ _ _ _ | exact Kd.N_nil _ _ _ _ _ | exact Kd.V_nil _ _ _ _ _ | exact Kd.Q_nil _ _ _ _ _ | exact Kd.R_nil _ _ _ _ _, by repeat (first | (with_reducible first | exact HB.out | apply below_alloc | apply pw_below_drewN | apply below_drew1 | refine below_set ?_ GE488.out | refine below_set ?_ GE489.out) | exact HB.out)⟩
end Go.Proofs.Ytogamkblkoobkaa.P
end
