/- Texts of the proof of FnMinimal, put together. No condition. -/
import Derived.Test.YtogamkblkoobkaaQFnMinimal2
import Derived.Test.YtogamkblkoobkaaQFnMinimal9
import Derived.Test.YtogamkblkoobkaaQFnMinimal3
import Derived.Shelf.Small.Strs
import Derived.Shelf.Strings.Search1
import Derived.Shelf.Slices.Equal
import Derived.Shelf.Slices.Empties2
import Derived.Test.YtogamkblkoobkaaProg
import Derived.Test.YtogamkblkoobkaaQFnMinimal6
section
namespace Go.Proofs.Ytogamkblkoobkaa.P
open Go.RowKit Go.Proofs.YtogamkblkoobkaaW.PrintWords Go.Proofs.YtogamkblkoobkaaW.PrintLast Go.Proofs.YtogamkblkoobkaaW.PrintMore
attribute [local go_sem] max2_int min2_int max_two min_two max_three min_three max_four min_four
set_option linter.unusedVariables false
set_option linter.unusedSimpArgs false
mutual
def spec_l7First.l0 : Nat → List Bool → List Int → List ByteArray → Int → List Bool → List (List Int) → Option (ByteArray × Bool)
  | 0, _, _, _, _, _, _ => none
  | k + 1, x1, x6, x7, x8, x739000, x739001 => if x8 < (x6.length : Int) then (if 0 ≤ x8 then (if 0 ≤ (rd x6 x8) then (if (rd x6 x8) < (x1.length : Int) then (if rdOf false x1 (rd x6 x8) = true then (if x8 < (x7.length : Int) then (some (rdOf ByteArray.empty x7 x8, true)) else (none)) else (spec_l7First.l1 k x1 x6 x7 x8 0 x739000 x739001)) else (none)) else (none)) else (none)) else (some ((⟨#[]⟩ : ByteArray), false))
def spec_l7First.l1 : Nat → List Bool → List Int → List ByteArray → Int → Int → List Bool → List (List Int) → Option (ByteArray × Bool)
  | 0, _, _, _, _, _, _, _ => none
  | k + 1, x1, x6, x7, x8, x9, x739000, x739001 => if x9 < 3 then (if 0 ≤ x8 then (if x8 < (x6.length : Int) then (if 0 ≤ (rd x6 x8) then (if (rd x6 x8) < (x739001.length : Int) then (if 0 ≤ x9 then (if x9 < ((rd_L1 x739001 (rd x6 x8)).length : Int) then ((spec_l5Find.f k x6 (rd (rd_L1 x739001 (rd x6 x8)) x9)).bind fun t751 => (if t751 < 0 then (if x6.length < 17592186044416 then (if x8 < (x7.length : Int) then (if x9 ≤ (wrap64 (x9 + 1)) then (if (wrap64 (x9 + 1)) ≤ 3 then (if (rdOf ByteArray.empty x7 x8).size + ((⟨#[97, 98, 99]⟩ : ByteArray).extract (x9 : Int).toNat ((wrap64 (x9 + 1)) : Int).toNat).size ≤ 9223372036854775807 then (if x7.length < 8796093022208 then (spec_l7First.l1 k x1 (x6 ++ [rd (rd_L1 x739001 (rd x6 x8)) x9]) (x7 ++ [(rdOf ByteArray.empty x7 x8) ++ ((⟨#[97, 98, 99]⟩ : ByteArray).extract (x9 : Int).toNat ((wrap64 (x9 + 1)) : Int).toNat)]) x8 (wrap64 (x9 + 1)) x739000 x739001) else (none)) else (none)) else (none)) else (none)) else (none)) else (none)) else (spec_l7First.l1 k x1 x6 x7 x8 (wrap64 (x9 + 1)) x739000 x739001))) else (none)) else (none)) else (none)) else (none)) else (none)) else (none)) else (spec_l7First.l0 k x1 x6 x7 (wrap64 (x8 + 1)) x739000 x739001)
end
def spec_l7First.f (k : Nat) (l0_0 : List Bool) (l0_1 : List (List Int)) (l1 : List Bool) : Option (ByteArray × Bool) := spec_l7First.l0 k l1 (([0] : List Int)) (([(⟨#[]⟩ : ByteArray)] : List ByteArray)) 0 l0_0 l0_1
theorem spec_l7First.mono_l : ∀ k, (∀ y0 y1 y2 y3 y4 y5, LeO (spec_l7First.l0 k y0 y1 y2 y3 y4 y5) (spec_l7First.l0 (k + 1) y0 y1 y2 y3 y4 y5)) ∧ (∀ y0 y1 y2 y3 y4 y5 y6, LeO (spec_l7First.l1 k y0 y1 y2 y3 y4 y5 y6) (spec_l7First.l1 (k + 1) y0 y1 y2 y3 y4 y5 y6))
 | 0 => ⟨fun _ _ _ _ _ _ r h => by simp [spec_l7First.l0] at h, fun _ _ _ _ _ _ _ r h => by simp [spec_l7First.l1] at h⟩
 | k + 1 => by
  obtain ⟨ih0, ih1⟩ := spec_l7First.mono_l k
  refine ⟨?_, ?_⟩
  ·intro y0 y1 y2 y3 y4 y5
   unfold spec_l7First.l0
   repeat' first
   | (with_reducible exact ih0 _ _ _ _ _ _)
   | (with_reducible exact ih1 _ _ _ _ _ _ _)
   | (with_reducible exact spec_l5Find.mono _ _ _)
   | (with_reducible exact LeO.refl _)
   | (with_reducible exact LeO.none _)
   | (with_reducible refine LeO.ite ?_ ?_)
   | (with_reducible refine LeO.bind ?_ (fun _ => ?_))
   | exact ih0 _ _ _ _ _ _
   | exact ih1 _ _ _ _ _ _ _
   | exact spec_l5Find.mono _ _ _
   | exact LeO.none _
   | refine LeO.ite ?_ ?_
   | refine LeO.bind ?_ (fun _ => ?_)
  ·intro y0 y1 y2 y3 y4 y5 y6
   unfold spec_l7First.l1
   repeat' first
   | (with_reducible exact ih0 _ _ _ _ _ _)
   | (with_reducible exact ih1 _ _ _ _ _ _ _)
   | (with_reducible exact spec_l5Find.mono _ _ _)
   | (with_reducible exact LeO.refl _)
   | (with_reducible exact LeO.none _)
   | (with_reducible refine LeO.ite ?_ ?_)
   | (with_reducible refine LeO.bind ?_ (fun _ => ?_))
   | exact ih0 _ _ _ _ _ _
   | exact ih1 _ _ _ _ _ _ _
   | exact spec_l5Find.mono _ _ _
   | exact LeO.none _
   | refine LeO.ite ?_ ?_
   | refine LeO.bind ?_ (fun _ => ?_)
theorem spec_l7First.mono : ∀ a0 a1 a2 k, LeO (spec_l7First.f k a0 a1 a2) (spec_l7First.f (k + 1) a0 a1 a2) := by
 intro a0 a1 a2 k
 obtain ⟨ih0, ih1⟩ := spec_l7First.mono_l k
 unfold spec_l7First.f
 repeat' first
   | (with_reducible exact ih0 _ _ _ _ _ _)
   | (with_reducible exact ih1 _ _ _ _ _ _ _)
   | (with_reducible exact spec_l5Find.mono _ _ _)
   | (with_reducible exact LeO.refl _)
   | (with_reducible exact LeO.none _)
   | (with_reducible refine LeO.ite ?_ ?_)
   | (with_reducible refine LeO.bind ?_ (fun _ => ?_))
   | exact ih0 _ _ _ _ _ _
   | exact ih1 _ _ _ _ _ _ _
   | exact spec_l5Find.mono _ _ _
   | exact LeO.none _
   | refine LeO.ite ?_ ?_
   | refine LeO.bind ?_ (fun _ => ?_)
def spec_l7First.T11 : Bool × List (List Nat × List Nat) := (true, [([], []), ([0], [0]), ([], []), ([], []), ([2, 3], [2, 3]), ([4], [4]), ([1, 5], [1, 5]), ([6], [6]), ([], []), ([7, 8], [7, 8]), ([9], [9]), ([10, 0, 1, 2, 3, 4, 5, 6, 7, 8, 9, 10], [10])])
def spec_l7First.B11 : List Nat := [0, 1, 0, 0, 12, 28, 63, 127, 0, 511, 1023, 2047]
theorem spec_l7First.tab11 : rtab .any (opsOf Try.f92 11) = spec_l7First.T11 := by kernel_rfl
theorem spec_l7First.bits11 : waitsOk spec_l7First.T11.2 spec_l7First.B11 = true := by kernel_rfl
def spec_l7First.T14 : Bool × List (List Nat × List Nat) := (true, [([], []), ([], []), ([], []), ([1, 2], [1, 2]), ([3], [3]), ([], []), ([], []), ([6], [6]), ([5, 7], [5, 7]), ([4, 8], [4, 8]), ([9], [9]), ([0, 10], [0, 10]), ([11, 11, 0, 1, 2, 3, 4, 5, 6, 7, 8, 9, 10, 11], [0, 1, 11])])
def spec_l7First.B14 : List Nat := [0, 0, 0, 6, 14, 0, 0, 64, 224, 510, 1022, 2047, 4095]
theorem spec_l7First.tab14 : rtab .any (opsOf Try.f92 14) = spec_l7First.T14 := by kernel_rfl
theorem spec_l7First.bits14 : waitsOk spec_l7First.T14.2 spec_l7First.B14 = true := by kernel_rfl
theorem zp35_0_ {p q g1 : Prop} (h : p) (h1 : g1) (c : p → g1 → q := by intro h_ h1_; repeat (first | (with_reducible first | exact h_ | apply below_alloc | apply pw_below_drewN | apply below_drew1 | refine below_set ?_ h1_) | exact h_)) : q := c h h1
set_option maxHeartbeats 8000000 in
set_option maxRecDepth 100000 in
theorem spec_l7First.calls (k : Nat) (A0_0 : Option Addr) (c0_0 : Nat) (l0_0 : List Bool) (A0_1 : Option Addr) (c0_1 : Nat) (l0_1 : List (List Int)) (A1 : Option Addr) (c1 : Nat) (l1 : List Bool) (r1 : ByteArray) (r2 : Bool) (w : World) (hr0_0 : Kd.C Kd.bool w A0_0 l0_0.length l0_0) (hc0_0 : l0_0.length ≤ c0_0) (hr0_1 : Kd.C (Kd.slice 3 (Kd.int .i64)) w A0_1 l0_1.length l0_1) (hc0_1 : l0_1.length ≤ c0_1) (hr1 : Kd.C Kd.bool w A1 l1.length l1) (hc1 : l1.length ≤ c1) (h : spec_l7First.f k l0_0 l0_1 l1 = some (r1, r2)) :
  Calls Try.prog 92 #[.agg #[.slice A0_0 l0_0.length c0_0, .slice A0_1 l0_1.length c0_1], .slice A1 l1.length c1] w fun e w' => e = .returned (.tuple #[.string r1, .bool r2]) ∧ Below w.heap.size w w' := by
 have hu27 := Try.underlying27
 have HR0_0 := am_ hr0_0
 have HC0_0 := am_ hc0_0
 clear hr0_0 hc0_0
 have HR0_1 := am_ hr0_1
 have HC0_1 := am_ hc0_1
 clear hr0_1 hc0_1
 have HR1 := am_ hr1
 have HC1 := am_ hc1
 clear hr1 hc1
 have HB := am_ (Below.refl w.heap.size w)
 have H : (spec_l7First.l0 k l1 (([0] : List Int)) (([(⟨#[]⟩ : ByteArray)] : List ByteArray)) 0 l0_0 l0_1) = some (r1, r2) := h
 clear h
 obtain ⟨y739, hy739⟩ : ∃ y_ : List Int, y_ = (([0] : List Int)) := ⟨_, rfl⟩
 replace H : (spec_l7First.l0 k l1 y739 (([(⟨#[]⟩ : ByteArray)] : List ByteArray)) 0 l0_0 l0_1) = some (r1, r2) := by first | (rw [hy739]; with_reducible exact H) | (have H2_ := (Option.bind_some _ _).symm.trans H; rw [hy739]; with_reducible exact H2_) | (have H2_ := (Option.bind_some _ _).symm.trans H; with_reducible exact H2_) | with_reducible exact H | (rw [hy739]; exact H) | exact H
 have Ny739 := am_ hy739
 clear hy739
 obtain ⟨y742, hy742⟩ : ∃ y_ : List ByteArray, y_ = (([(⟨#[]⟩ : ByteArray)] : List ByteArray)) := ⟨_, rfl⟩
 replace H : (spec_l7First.l0 k l1 y739 y742 0 l0_0 l0_1) = some (r1, r2) := by first | (rw [hy742]; with_reducible exact H) | (have H2_ := (Option.bind_some _ _).symm.trans H; rw [hy742]; with_reducible exact H2_) | (have H2_ := (Option.bind_some _ _).symm.trans H; with_reducible exact H2_) | with_reducible exact H | (rw [hy742]; exact H) | exact H
 have Ny742 := am_ hy742
 clear hy742
 have H' := am_ H
 clear H
 go_enter Try.func92, Try.ntmps92
 go_wp2_with (first | ((with_reducible refine gate_dst (N := 2) rfl ?_); refine box_event ?hg (N := 2) ?hd (cs := #[.slice A0_0 l0_0.length c0_0, .slice A0_1 l0_1.length c0_1]) (t := 27) ?hr ?_; (case hd => rfl); (case hg => rfl); (case hr => first | (go_simp; done) | (go_simp; rfl)); intro gb738 hg w3 hbox hb; replace BK738 := am_ (hbox); replace GW738 := am_ ((by rw [hg]; exact (below_size (b0_ HB.out)) : w.heap.size ≤ gb738)); replace GE738 := am_ ((by rw [hg]; exact (below_size (b0_ HB.out)) : w.heap.size ≤ gb738)); replace HB := am_ (below_step (b0_ HB.out) hb); clear hb hbox hg) | ((with_reducible refine gate_dst (N := 11) rfl ?_); refine Kd.R_lit (Kd.int .i64) _ 3 ?hg (N := 11) ?hd (xs := ([0] : List Int)) (inner := [.int .i64 0]) (ok := fun _ => True) (okp := fun _ => True) ?hr ?hp (fun _ hk => hk) trivial (Below.refl _ _) (Nat.le_refl _) (by simp) ?_; (case hd => rfl); (case hg => rfl); (case hr => first | (go_simp; done) | (go_simp; rfl)); (case hp => exact (Reps.one (show Kd.M (Kd.int .i64) _ _ _ 0 [.int .i64 0] from rfl) (Reps.none _ _))); intro v740 w4 ho5 hb hg_ hnew_; clear hg_ hnew_; (first | rw [← Ny739.out] at ho5 | (simp only [Int.reduceToNat] at ho5; rw [← Ny739.out] at ho5)); have n0_ := am_ (Kd.R_lower ho5 (below_size (b1_ HB.out GE738.out))); have n1_ := am_ (blk_below (rb_ BK738.out) hb); have n2_ := am_ (below_step (b1_ HB.out GE738.out) hb); clear BK738; clear HB; have HO741 := n0_; have BK738 := n1_; have HB := n2_; clear n0_ n1_ n2_; clear hb ho5) | ((with_reducible refine gate_dst (N := 12) rfl ?_); refine Kd.R_lit Kd.string _ 9 ?hg (N := 12) ?hd (xs := ([(⟨#[]⟩ : ByteArray)] : List ByteArray)) (inner := [.string (⟨#[]⟩ : ByteArray)]) (ok := fun _ => True) (okp := fun _ => True) ?hr ?hp (fun _ hk => hk) trivial (Below.refl _ _) (Nat.le_refl _) (by simp) ?_; (case hd => rfl); (case hg => rfl); (case hr => first | (go_simp; done) | (go_simp; rfl)); (case hp => exact (Reps.one (show Kd.M Kd.string _ _ _ (⟨#[]⟩ : ByteArray) [.string (⟨#[]⟩ : ByteArray)] from rfl) (Reps.none _ _))); intro v743 w6 ho7 hb hg_ hnew_; clear hg_ hnew_; (first | rw [← Ny742.out] at ho7 | (simp only [Int.reduceToNat] at ho7; rw [← Ny742.out] at ho7)); have n0_ := am_ (Kd.R_below (rr_ HO741.out) hb); have n1_ := am_ (Kd.R_lower ho7 (below_size (b1_ HB.out GE738.out))); have n2_ := am_ (blk_below (rb_ BK738.out) hb); have n3_ := am_ (below_step (b1_ HB.out GE738.out) hb); clear HO741; clear BK738; clear HB; have HO741 := n0_; have HO744 := n1_; have BK738 := n2_; have HB := n3_; clear n0_ n1_ n2_ n3_; clear hb ho7))
 go_loopg [6, 7, 8] k (fun kq v6 v7 v8 w' => ∃ (x6_1 : List Int) (x7_1 : List ByteArray) (x8_1 : Int), v8 = .int .i64 x8_1 ∧ Aside0 (spec_l7First.l0 kq l1 x6_1 x7_1 x8_1 l0_0 l0_1 = some (r1, r2)) ∧ Aside0 (kq ≤ k) ∧ Aside0 (Kd.R (Kd.int .i64) 3 w' w.heap.size (fun _ => True) v6 x6_1) ∧ Aside0 (Kd.R Kd.string 9 w' w.heap.size (fun _ => True) v7 x7_1) ∧ Aside0 (w'.heap[gb738]? = some (.cells #[(.slice A0_0 l0_0.length c0_0), (.slice A0_1 l0_1.length c0_1)] 27 (0, 0))) ∧ Aside0 (Below w.heap.size w w'))
 case atStart => exact ⟨(y739), (y742), (0), (by first | rfl | (simp; done) | (simp [*]; done)), H', ⟨Nat.le_refl _⟩, ⟨by refine rr_ ?_; exact HO741.out⟩, ⟨by refine rr_ ?_; exact HO744.out⟩, ⟨by refine rb_ ?_; exact BK738.out⟩, ⟨by exact zp35_0_ HB.out GE738.out⟩⟩
 case round =>
  clear H'
  try clear c1
  try clear p2
  obtain ⟨x6_1, x7_1, x8_1, rfl, HA, HK1, HO_6, HO_7, BK738, HB⟩ := hrel
  cases gk with
  | zero => exact absurd HA.out (by simp [spec_l7First.l0])
  | succ k1 =>
   have H := HA.out
   clear HA
   simp only [spec_l7First.l0] at H
   by_cases c8 : x8_1 < (x6_1.length : Int)
   ·rw [if_pos c8] at H
    have c8b0 : decide (x8_1 < (x6_1.length : Int)) = true := decide_eq_true c8
    clear c8
    by_cases c9 : 0 ≤ x8_1
    ·rw [if_pos c9] at H
     have c9b0 : decide (0 ≤ x8_1) = true := decide_eq_true c9
     clear c9
     by_cases c10 : 0 ≤ (rd x6_1 x8_1)
     ·rw [if_pos c10] at H
      have c10b0 : decide (0 ≤ (rd x6_1 x8_1)) = true := decide_eq_true c10
      clear c10
      by_cases c11 : (rd x6_1 x8_1) < (l1.length : Int)
      ·rw [if_pos c11] at H
       have c11b0 : decide ((rd x6_1 x8_1) < (l1.length : Int)) = true := decide_eq_true c11
       clear c11
       obtain ⟨bq12, hbq12⟩ : ∃ b_ : Bool, b_ = (rdOf false l1 (rd x6_1 x8_1)) := ⟨_, rfl⟩
       replace H : (if bq12 = true then (if x8_1 < (x7_1.length : Int) then (some (rdOf ByteArray.empty x7_1 x8_1, true)) else (none)) else (spec_l7First.l1 k1 l1 x6_1 x7_1 x8_1 0 l0_0 l0_1)) = some (r1, r2) := by rw [← hbq12] at H; exact H
       have Nbq12 := am_ hbq12
       clear hbq12
       by_cases c13 : bq12 = true
       ·subst c13
        have H1 : (if x8_1 < (x7_1.length : Int) then (some (rdOf ByteArray.empty x7_1 x8_1, true)) else (none)) = some (r1, r2) := by rw [if_pos rfl] at H; exact H
        clear H
        have H := H1
        clear H1
        by_cases c14 : x8_1 < (x7_1.length : Int)
        ·rw [if_pos c14] at H
         have c14b0 : decide (x8_1 < (x7_1.length : Int)) = true := decide_eq_true c14
         clear c14
         simp only [Option.some.injEq, Prod.mk.injEq] at H
         obtain ⟨rfl, rfl⟩ := H
         obtain ⟨Ao15, co15, eo15⟩ := Kd.R_slice HO_6.out
         subst eo15
         have p745 : 0 ≤ (x8_1 : Int) := of_decide_eq_true ah_
         have q745 : x8_1 < (x6_1.length : Int) := of_decide_eq_true ah_
         obtain ⟨ad745, e745, hx745_0⟩ := Kd.at_int (Kd.R_reads' HO_6.out).2.2 x8_1 p745 q745
         cases e745
         replace p745 := eq_true p745
         replace q745 := eq_true q745
         have p746 : 0 ≤ ((rd x6_1 x8_1) : Int) := of_decide_eq_true ah_
         have q746 : (rd x6_1 x8_1) < (l1.length : Int) := of_decide_eq_true ah_
         obtain ⟨ad746, e746, hx746_0⟩ := Kd.at_bool HR1.out (rd x6_1 x8_1) p746 q746
         (try rw [← Nbq12.out] at hx746_0)
         cases e746
         replace hx746_0 := (HB.out.cell (World.block_lt_of_cell? w _ hx746_0)).trans hx746_0
         replace p746 := eq_true p746
         replace q746 := eq_true q746
         obtain ⟨Ao16, co16, eo16⟩ := Kd.R_slice HO_7.out
         subst eo16
         have p747 : 0 ≤ (x8_1 : Int) := of_decide_eq_true ah_
         have q747 : x8_1 < (x7_1.length : Int) := of_decide_eq_true ah_
         obtain ⟨ad747, e747, hx747_0⟩ := Kd.at_string (Kd.R_reads' HO_7.out).2.2 x8_1 p747 q747
         cases e747
         replace p747 := eq_true p747
         replace q747 := eq_true q747
         go_wp2
         go_ret2
         exact ⟨by first | rfl | (simp [errW_none, errW_some] <;> rfl) | (simp [*, errW_none, errW_some] <;> rfl), by exact zp35_0_ HB.out GE738.out⟩
        ·rw [if_neg c14] at H
         exact absurd H (by simp)
       ·replace c13 := Bool.eq_false_iff.mpr c13
        subst c13
        have H1 : (spec_l7First.l1 k1 l1 x6_1 x7_1 x8_1 0 l0_0 l0_1) = some (r1, r2) := by rw [if_neg (show ¬ (false = true) by decide)] at H; exact H
        clear H
        have H := H1
        clear H1
        have H' := am_ H
        clear H
        obtain ⟨Ao17, co17, eo17⟩ := Kd.R_slice HO_6.out
        subst eo17
        have p745 : 0 ≤ (x8_1 : Int) := of_decide_eq_true ah_
        have q745 : x8_1 < (x6_1.length : Int) := of_decide_eq_true ah_
        obtain ⟨ad745, e745, hx745_0⟩ := Kd.at_int (Kd.R_reads' HO_6.out).2.2 x8_1 p745 q745
        cases e745
        replace p745 := eq_true p745
        replace q745 := eq_true q745
        have p746 : 0 ≤ ((rd x6_1 x8_1) : Int) := of_decide_eq_true ah_
        have q746 : (rd x6_1 x8_1) < (l1.length : Int) := of_decide_eq_true ah_
        obtain ⟨ad746, e746, hx746_0⟩ := Kd.at_bool HR1.out (rd x6_1 x8_1) p746 q746
        (try rw [← Nbq12.out] at hx746_0)
        cases e746
        replace hx746_0 := (HB.out.cell (World.block_lt_of_cell? w _ hx746_0)).trans hx746_0
        replace p746 := eq_true p746
        replace q746 := eq_true q746
        go_wp2
        go_loopg [6, 7, 9] k1 (fun kq v6 v7 v9 w' => ∃ (x6_2 : List Int) (x7_2 : List ByteArray) (x9_2 : Int), v9 = .int .i64 x9_2 ∧ Aside0 (spec_l7First.l1 kq l1 x6_2 x7_2 x8_1 x9_2 l0_0 l0_1 = some (r1, r2)) ∧ Aside0 (kq ≤ k1) ∧ Aside0 (Kd.R (Kd.int .i64) 3 w' w.heap.size (fun _ => True) v6 x6_2) ∧ Aside0 (Kd.R Kd.string 9 w' w.heap.size (fun _ => True) v7 x7_2) ∧ Aside0 (w'.heap[gb738]? = some (.cells #[(.slice A0_0 l0_0.length c0_0), (.slice A0_1 l0_1.length c0_1)] 27 (0, 0))) ∧ Aside0 (Below w.heap.size w w'))
        case atStart => exact ⟨(x6_1), (x7_1), (0), (by first | rfl | (simp; done) | (simp [*]; done)), H', ⟨Nat.le_refl _⟩, ⟨by refine rr_ ?_; exact HO_6.out⟩, ⟨by refine rr_ ?_; exact HO_7.out⟩, ⟨by refine rb_ ?_; exact BK738.out⟩, ⟨by exact zp35_0_ HB.out GE738.out⟩⟩
        case round =>
         clear H'
         try clear c1
         try clear q1
         try clear p2
         try clear p7
         try clear q7
         try clear hx7
         try clear c8
         try clear c8b0
         try clear c9
         try clear c9b0
         try clear c10
         try clear c10b0
         try clear c11
         try clear c11b0
         try clear q12
         try clear c13
         try clear c14
         try clear c14b0
         try clear hx745_0
         try clear hx746_0
         try clear hx747_0
         try clear p2
         try clear p745
         try clear p746
         try clear p747
         try clear q745
         try clear q746
         try clear q747
         obtain ⟨x6_2, x7_2, x9_2, rfl, HA, HK2, HO_6, HO_7, BK738, HB⟩ := hrel
         cases gk with
         | zero => exact absurd HA.out (by simp [spec_l7First.l1])
         | succ k2 =>
          have H := HA.out
          clear HA
          simp only [spec_l7First.l1] at H
          by_cases c18 : x9_2 < 3
          ·rw [if_pos c18] at H
           have c18b0 : decide (x9_2 < 3) = true := decide_eq_true c18
           clear c18
           by_cases c19 : 0 ≤ x8_1
           ·rw [if_pos c19] at H
            have c19b0 : decide (0 ≤ x8_1) = true := decide_eq_true c19
            clear c19
            by_cases c20 : x8_1 < (x6_2.length : Int)
            ·rw [if_pos c20] at H
             have c20b0 : decide (x8_1 < (x6_2.length : Int)) = true := decide_eq_true c20
             clear c20
             by_cases c21 : 0 ≤ (rd x6_2 x8_1)
             ·rw [if_pos c21] at H
              have c21b0 : decide (0 ≤ (rd x6_2 x8_1)) = true := decide_eq_true c21
              clear c21
              by_cases c22 : (rd x6_2 x8_1) < (l0_1.length : Int)
              ·rw [if_pos c22] at H
               have c22b0 : decide ((rd x6_2 x8_1) < (l0_1.length : Int)) = true := decide_eq_true c22
               clear c22
               by_cases c23 : 0 ≤ x9_2
               ·rw [if_pos c23] at H
                have c23b0 : decide (0 ≤ x9_2) = true := decide_eq_true c23
                clear c23
                by_cases c24 : x9_2 < ((rd_L1 l0_1 (rd x6_2 x8_1)).length : Int)
                ·rw [if_pos c24] at H
                 have c24b0 : decide (x9_2 < ((rd_L1 l0_1 (rd x6_2 x8_1)).length : Int)) = true := decide_eq_true c24
                 clear c24
                 replace H := Option.bind_eq_some_iff.mp H
                 obtain ⟨t751, A250, H⟩ := H
                 have A25 := am_ A250
                 clear A250
                 by_cases c26 : t751 < 0
                 ·rw [if_pos c26] at H
                  have c26b0 : decide (t751 < 0) = true := decide_eq_true c26
                  clear c26
                  by_cases c27 : x6_2.length < 17592186044416
                  ·rw [if_pos c27] at H
                   have LMc27 := am_ c27
                   clear c27
                   obtain ⟨y752, hy752⟩ : ∃ y_ : List Int, y_ = (x6_2 ++ [rd (rd_L1 l0_1 (rd x6_2 x8_1)) x9_2]) := ⟨_, rfl⟩
                   replace H : (if x8_1 < (x7_2.length : Int) then (if x9_2 ≤ (wrap64 (x9_2 + 1)) then (if (wrap64 (x9_2 + 1)) ≤ 3 then (if (rdOf ByteArray.empty x7_2 x8_1).size + ((⟨#[97, 98, 99]⟩ : ByteArray).extract (x9_2 : Int).toNat ((wrap64 (x9_2 + 1)) : Int).toNat).size ≤ 9223372036854775807 then (if x7_2.length < 8796093022208 then (spec_l7First.l1 k2 l1 y752 (x7_2 ++ [(rdOf ByteArray.empty x7_2 x8_1) ++ ((⟨#[97, 98, 99]⟩ : ByteArray).extract (x9_2 : Int).toNat ((wrap64 (x9_2 + 1)) : Int).toNat)]) x8_1 (wrap64 (x9_2 + 1)) l0_0 l0_1) else (none)) else (none)) else (none)) else (none)) else (none)) = some (r1, r2) := by first | (rw [hy752]; with_reducible exact H) | (have H2_ := (Option.bind_some _ _).symm.trans H; rw [hy752]; with_reducible exact H2_) | (have H2_ := (Option.bind_some _ _).symm.trans H; with_reducible exact H2_) | with_reducible exact H | (rw [hy752]; exact H) | exact H
                   have Ny752 := am_ hy752
                   clear hy752
                   by_cases c28 : x8_1 < (x7_2.length : Int)
                   ·rw [if_pos c28] at H
                    have c28b0 : decide (x8_1 < (x7_2.length : Int)) = true := decide_eq_true c28
                    clear c28
                    have c29b0 := eq_true (of_decide_eq_true ah_ : 0 ≤ x9_2)
                    by_cases c30 : x9_2 ≤ (wrap64 (x9_2 + 1))
                    ·rw [if_pos c30] at H
                     have c30b0 := eq_true c30
                     have c30b1 : decide (x9_2 ≤ (wrap64 (x9_2 + 1))) = true := decide_eq_true c30
                     by_cases c31 : (wrap64 (x9_2 + 1)) ≤ 3
                     ·rw [if_pos c31] at H
                      have c31b0 := eq_true c31
                      have c31b1 : decide ((wrap64 (x9_2 + 1)) ≤ 3) = true := decide_eq_true c31
                      by_cases c32 : (rdOf ByteArray.empty x7_2 x8_1).size + ((⟨#[97, 98, 99]⟩ : ByteArray).extract (x9_2 : Int).toNat ((wrap64 (x9_2 + 1)) : Int).toNat).size ≤ 9223372036854775807
                      ·rw [if_pos c32] at H
                       have c32b0 := eq_true c32
                       have c32b1 : decide ((rdOf ByteArray.empty x7_2 x8_1).size + ((⟨#[97, 98, 99]⟩ : ByteArray).extract (x9_2 : Int).toNat ((wrap64 (x9_2 + 1)) : Int).toNat).size ≤ 9223372036854775807) = true := decide_eq_true c32
                       try have c32b2 : (9223372036854775807 < (rdOf ByteArray.empty x7_2 x8_1).size + ((⟨#[97, 98, 99]⟩ : ByteArray).extract (x9_2 : Int).toNat ((wrap64 (x9_2 + 1)) : Int).toNat).size) = False := eq_false (Nat.not_lt.2 c32)
                       try have c32b3 : (9223372036854775807 < (rdOf ByteArray.empty x7_2 x8_1).size + (((wrap64 (x9_2 + 1)) : Int).toNat - (x9_2 : Int).toNat)) = False := eq_false (by have h_ := c32; rw [ByteArray.size_extract, show (⟨#[97, 98, 99]⟩ : ByteArray).size = 3 from rfl] at h_; omega)
                       try have c32b5 : (9223372036854775807 < (rdOf ByteArray.empty x7_2 x8_1).size + ((⟨#[97, 98, 99]⟩ : ByteArray).extract (x9_2 : Int).toNat ((wrap64 (x9_2 + 1)) : Int).toNat).size) = False := eq_false (by have h_ := c32; simp only [ByteArray.size_append, ByteArray.size_extract, show (⟨#[97, 98, 99]⟩ : ByteArray).size = 3 from rfl] at h_; first | omega | (simp only [decide_eq_true_eq] at *; omega))
                       by_cases c33 : x7_2.length < 8796093022208
                       ·rw [if_pos c33] at H
                        have LMc33 := am_ c33
                        clear c33
                        obtain ⟨y756, hy756⟩ : ∃ y_ : List ByteArray, y_ = (x7_2 ++ [(rdOf ByteArray.empty x7_2 x8_1) ++ ((⟨#[97, 98, 99]⟩ : ByteArray).extract (x9_2 : Int).toNat ((wrap64 (x9_2 + 1)) : Int).toNat)]) := ⟨_, rfl⟩
                        replace H : (spec_l7First.l1 k2 l1 y752 y756 x8_1 (wrap64 (x9_2 + 1)) l0_0 l0_1) = some (r1, r2) := by first | (rw [hy756]; with_reducible exact H) | (have H2_ := (Option.bind_some _ _).symm.trans H; rw [hy756]; with_reducible exact H2_) | (have H2_ := (Option.bind_some _ _).symm.trans H; with_reducible exact H2_) | with_reducible exact H | (rw [hy756]; exact H) | exact H
                        have Ny756 := am_ hy756
                        clear hy756
                        have H' := am_ H
                        clear H
                        try go_wp2
                        replace HO_6 := am_ (Kd.R_drew HO_6.out)
                        replace HO_7 := am_ (Kd.R_drew HO_7.out)
                        replace BK738 := am_ (blk_drew BK738.out)
                        replace HB := am_ (below_drew1 HB.out)
                        obtain ⟨Ao35, co35, eo35⟩ := Kd.R_slice HO_6.out
                        (first | subst eo35 | (injection eo35 with f1_ f2_ f3_; have f4_ := f1_.symm; have f5_ := f3_.symm; clear f1_ f2_ f3_; subst f4_; subst f5_))
                        have p748 : 0 ≤ (x8_1 : Int) := of_decide_eq_true ah_
                        have q748 : x8_1 < (x6_2.length : Int) := of_decide_eq_true ah_
                        obtain ⟨ad748, e748, hx748_0⟩ := Kd.at_int (Kd.R_reads' HO_6.out).2.2 x8_1 p748 q748
                        cases e748
                        replace p748 := eq_true p748
                        replace q748 := eq_true q748
                        have p749 : 0 ≤ ((rd x6_2 x8_1) : Int) := of_decide_eq_true ah_
                        have q749 : (rd x6_2 x8_1) < (l0_1.length : Int) := of_decide_eq_true ah_
                        obtain ⟨ad749, A749_0, c749_0, e749, hx749_0, hl749_0, hi749_0⟩ := at_L1 HR0_1.out (rd x6_2 x8_1) p749 q749
                        have hw749_0 := hx749_0
                        cases e749
                        replace hx749_0 := (HB.out.cell (World.block_lt_of_cell? w _ hx749_0)).trans hx749_0
                        have HR749_0 := am_ hi749_0
                        have HC749_0 := am_ hl749_0
                        clear hi749_0 hl749_0
                        replace p749 := eq_true p749
                        replace q749 := eq_true q749
                        have p750 : 0 ≤ (x9_2 : Int) := of_decide_eq_true ah_
                        have q750 : x9_2 < ((rd_L1 l0_1 (rd x6_2 x8_1)).length : Int) := of_decide_eq_true ah_
                        obtain ⟨ad750, e750, hx750_0⟩ := Kd.at_int HR749_0.out x9_2 p750 q750
                        have hw750_0 := hx750_0
                        cases e750
                        replace hx750_0 := (HB.out.cell (World.block_lt_of_cell? w _ hx750_0)).trans hx750_0
                        replace p750 := eq_true p750
                        replace q750 := eq_true q750
                        refine start_ (n := 12) (S := fun w' => w'.cell? ⟨gb738, 0, none⟩ = some (.slice A0_0 l0_0.length c0_0) ∧ w'.cell? ⟨gb738, 1, none⟩ = some (.slice (some ad749) l0_1.length c0_1) ∧ w'.cell? (ad748.add (x8_1).toNat) = some (.int .i64 (rd x6_2 x8_1)) ∧ w'.cell? (ad749.add ((rd x6_2 x8_1)).toNat) = some (.slice (some ad750) (rd_L1 l0_1 (rd x6_2 x8_1)).length c749_0) ∧ w'.cell? (ad750.add (x9_2).toNat) = some (.int .i64 (rd (rd_L1 l0_1 (rd x6_2 x8_1)) x9_2))) (ds := []) (bl 12 0) (by kernel_rfl) rfl rfl ⟨(blk_cell BK738.out 0).trans rfl, (blk_cell BK738.out 1).trans rfl, hx748_0, ((HB.out.cell (World.block_lt_of_cell? w _ hw749_0)).trans hw749_0), ((HB.out.cell (World.block_lt_of_cell? w _ hw750_0)).trans hw750_0)⟩ (fun hHeld => ?_); refine with_tabW spec_l7First.tab11 spec_l7First.bits11 (fun HT_ HW_ => ?_)
                        generalize wr.drew = w34 at HO_6 HO_7 BK738 HB HR749_0 hx748_0 hx749_0 hx750_0 hHeld ⊢
                        refine pu_ 0 34 (bl 12 1) HT_ ?_
                        refine pu_ 2 36 (bl 12 5) HT_ ?_
                        refine pu_ 3 37 (bl 12 13) HT_ ?_
                        refine pu_ 4 38 (bl 12 29) HT_ ?_
                        refine pu_ 8 42 (bl 12 285) HT_ ?_
                        refine tk_ 1 35 (bl 12 287) HT_ HW_ hHeld ?_
                        refine tk_ 5 39 (bl 12 319) HT_ HW_ hHeld ?_
                        refine pu_ 6 40 (bl 12 383) HT_ ?_
                        refine tk_ 7 41 (bl 12 511) HT_ HW_ hHeld ?_
                        refine pu_ 9 43 (bl 12 1023) HT_ ?_
                        refine tk_ 10 44 (bl 12 2047) HT_ HW_ hHeld ?_
                        refine pu_ 11 10 (bl 12 4095) HT_ ?_
                        refine done_ (done_of HT_.out (by kernel_rfl)) ?_
                        try go_wp2_with (first | ((with_reducible refine gate_callee (f := 63) rfl ?_); refine gL_ (some 47) Try.func63 #[.slice (some ad748) x6_2.length co35, .int .i64 (rd (rd_L1 l0_1 (rd x6_2 x8_1)) x9_2)] ?_; (with_reducible refine (spec_l5Find.calls k2 _ _ x6_2 (rd (rd_L1 l0_1 (rd x6_2 x8_1)) x9_2) t751 _ ?side1 ?side2 A25.out).mono ?_); (case side1 => exact rc_ ((Kd.R_reads' HO_6.out).2.2)); (case side2 => exact (Kd.R_reads' HO_6.out).2.1); rintro e w' ⟨rfl, ⟨nd, rfl⟩⟩; refine ⟨_, rfl, ?_⟩) | ((with_reducible refine gate_builtin (b := .append) (xs := #[.tmp 49, .tmp 51]) rfl ?_); at_builtin; refine Kd.R_append (Kd.int .i64) (w0 := w) w.heap.size rfl (.tmp 49) (.tmp 51) 67 3 (.int .i64 0) 8 rfl Try.underlying67 info3 rfl (by decide) (by omega) (.slice (some ad748) x6_2.length co35) x6_2 (rd (rd_L1 l0_1 (rd x6_2 x8_1)) x9_2) [.int .i64 (rd (rd_L1 l0_1 (rd x6_2 x8_1)) x9_2)] (fun _ => True) (fun _ => False) rfl rfl ?aP (fun _ hk => hk.elim) ?aF ?aO ?aB ?aS ?aL ?_; (case aP => exact rfl); (case aB => exact (b1_ HB.out GE738.out)); (case aF => exact (fun _ _ => trivial)); (case aO => exact (rr_ HO_6.out)); (case aS => exact (below_size (b1_ HB.out GE738.out))); (case aL => have := LMc27.out; omega); intro v753 w36 ho hb hg hat; rw [← Ny752.out] at ho; have n0_ := am_ (Kd.R_over' (rr_ HO_7.out) (Kd.R_typed (rr_ HO_6.out)) (by decide) hg); have n1_ := am_ (blk_grown (g := gb738) (o := .cells #[.slice A0_0 l0_0.length c0_0, .slice (some ad749) l0_1.length c0_1] 27 (0, 0)) (rb_ BK738.out) hg (Kd.R_ne HO_6.out BK738.out (by decide))); have n2_ := am_ (hb); have n3_ := am_ (ho); clear HO_7; clear BK738; clear HB; clear HO_6; have HO_7 := n0_; have BK738 := n1_; have HB := n2_; have HO754 := n3_; clear n0_ n1_ n2_ n3_; clear ho hb hg hat))
                        replace HO_7 := am_ (Kd.R_drew HO_7.out)
                        replace HO754 := am_ (Kd.R_drew HO754.out)
                        replace BK738 := am_ (blk_drew BK738.out)
                        replace HB := am_ (below_drew1 HB.out)
                        obtain ⟨Ao38, co38, eo38⟩ := Kd.R_slice HO_7.out
                        (first | subst eo38 | (injection eo38 with f1_ f2_ f3_; have f4_ := f1_.symm; have f5_ := f3_.symm; clear f1_ f2_ f3_; subst f4_; subst f5_))
                        have p755 : 0 ≤ (x8_1 : Int) := of_decide_eq_true ah_
                        have q755 : x8_1 < (x7_2.length : Int) := of_decide_eq_true ah_
                        obtain ⟨ad755, e755, hx755_0⟩ := Kd.at_string (Kd.R_reads' HO_7.out).2.2 x8_1 p755 q755
                        cases e755
                        replace p755 := eq_true p755
                        replace q755 := eq_true q755
                        refine start_ (n := 13) (S := fun w' => w'.cell? (ad755.add (x8_1).toNat) = some (.string (rdOf ByteArray.empty x7_2 x8_1))) (ds := [10, 11]) (bl 13 0) (by kernel_rfl) rfl rfl (hx755_0) (fun hHeld => ?_); refine with_tabW spec_l7First.tab14 spec_l7First.bits14 (fun HT_ HW_ => ?_)
                        generalize w36.drew = w37 at HO_7 HO754 BK738 HB hx755_0 hHeld ⊢
                        refine pu_ 0 53 (bl 13 1) HT_ ?_
                        refine pu_ 1 54 (bl 13 3) HT_ ?_
                        refine pu_ 2 55 (bl 13 7) HT_ ?_
                        refine pu_ 3 56 (bl 13 15) HT_ ?_
                        refine pu_ 5 58 (bl 13 47) HT_ ?_
                        refine pu_ 6 59 (bl 13 111) HT_ ?_
                        refine pu_ 7 60 (bl 13 239) HT_ ?_
                        refine pu_ 8 61 (bl 13 495) HT_ ?_
                        refine tk_ 4 57 (bl 13 511) HT_ HW_ hHeld ?_
                        refine pu_ 9 62 (bl 13 1023) HT_ ?_
                        refine last_ (i := 10) (N := some 63) (bl 13 2047) rfl rfl (one_of HT_.out (by kernel_rfl)) (by decide) (fun K hK => ?_)
                        refine value_ (w1 := ?_) (v := ?_) (by rfl) rfl ?_ ?_
                        rotate_left 2
                        ·go_simp
                         constructor
                         ·rfl
                         ·rfl
                        refine hK.out _ _ ?_
                        clear hK K
                        refine norm_ (a' := ?_) ?_ ?_
                        rotate_left
                        ·show Act.put _ (some 63) _ = _
                         simp only [pn_, sz_, ss_, i64_w, i32_w]
                         rfl
                        refine last_ (i := 11) (N := some 64) (bl 13 4095) rfl rfl (one_of HT_.out (by kernel_rfl)) (by decide) (fun K hK => ?_)
                        refine Kd.R_append_step Kd.string (w0 := w) w.heap.size (by rfl) (.tmp 53) (.tmp 63) 52 9 (.string ⟨#[]⟩) 16 rfl Try.underlying52 info9 rfl (by decide) (by omega) (.slice (some ad755) x7_2.length co38) x7_2 ((rdOf ByteArray.empty x7_2 x8_1) ++ ((⟨#[97, 98, 99]⟩ : ByteArray).extract (x9_2 : Int).toNat ((wrap64 (x9_2 + 1)) : Int).toNat)) [.string ((rdOf ByteArray.empty x7_2 x8_1) ++ ((⟨#[97, 98, 99]⟩ : ByteArray).extract (x9_2 : Int).toNat ((wrap64 (x9_2 + 1)) : Int).toNat))] (fun _ => True) (fun _ => False) rfl rfl ?aP (fun _ hk => hk.elim) ?aF ?aO ?aB ?aS ?aL ?_
                        (case aP => exact rfl)
                        (case aB => exact (b1_ HB.out GE738.out))
                        (case aF => exact (fun _ _ => trivial))
                        (case aO => exact (rr_ HO_7.out))
                        (case aS => exact (below_size (b1_ HB.out GE738.out)))
                        (case aL => have := LMc33.out; omega)
                        intro v757 w39 ho hb hg hat
                        rw [← Ny756.out] at ho
                        replace BK738 := am_ (blk_grown (g := gb738) (o := .cells #[.slice A0_0 l0_0.length c0_0, .slice (some ad749) l0_1.length c0_1] 27 (0, 0)) (rb_ BK738.out) hg (Kd.R_ne HO_7.out BK738.out (by decide)))
                        replace HO754 := am_ (Kd.R_over' (rr_ HO754.out) (Kd.R_typed (rr_ HO_7.out)) (by decide) hg)
                        replace HB := am_ (hb)
                        replace HO758 := am_ (ho)
                        clear HO_7 ho hb hg hat
                        refine hK.out _ _ ?_
                        clear hK K
                        refine norm_ (a' := ?_) ?_ ?_
                        rotate_left
                        ·show Act.put _ (some 64) _ = _
                         simp only [pn_, sz_, ss_, i64_w, i32_w]
                         rfl
                        refine pu_ 12 7 (bl 13 8191) HT_ ?_
                        refine done_ (done_of HT_.out (by kernel_rfl)) ?_
                        try go_wp2
                        go_roundg k2
                        case measure => have := HK1.out; have := HK2.out; omega
                        case rel => exact ⟨(y752), (y756), (wrap64 (x9_2 + 1)), (by first | rfl | (simp; done) | (simp [*]; done)), H', ⟨by have := HK1.out; have := HK2.out; omega⟩, ⟨by refine rr_ ?_; exact HO754.out⟩, ⟨by refine rr_ ?_; exact HO758.out⟩, ⟨by refine rb_ ?_; exact BK738.out⟩, ⟨by exact zp35_0_ HB.out GE738.out⟩⟩
                       ·rw [if_neg c33] at H
                        exact absurd H (by simp)
                      ·rw [if_neg c32] at H
                       exact absurd H (by simp)
                     ·rw [if_neg c31] at H
                      exact absurd H (by simp)
                    ·rw [if_neg c30] at H
                     exact absurd H (by simp)
                   ·rw [if_neg c28] at H
                    exact absurd H (by simp)
                  ·rw [if_neg c27] at H
                   exact absurd H (by simp)
                 ·rw [if_neg c26] at H
                  have c26b0 : decide (t751 < 0) = false := decide_eq_false c26
                  clear c26
                  have H' := am_ H
                  clear H
                  try go_wp2
                  replace HO_6 := am_ (Kd.R_drew HO_6.out)
                  replace HO_7 := am_ (Kd.R_drew HO_7.out)
                  replace BK738 := am_ (blk_drew BK738.out)
                  replace HB := am_ (below_drew1 HB.out)
                  obtain ⟨Ao41, co41, eo41⟩ := Kd.R_slice HO_6.out
                  (first | subst eo41 | (injection eo41 with f1_ f2_ f3_; have f4_ := f1_.symm; have f5_ := f3_.symm; clear f1_ f2_ f3_; subst f4_; subst f5_))
                  have p748 : 0 ≤ (x8_1 : Int) := of_decide_eq_true ah_
                  have q748 : x8_1 < (x6_2.length : Int) := of_decide_eq_true ah_
                  obtain ⟨ad748, e748, hx748_0⟩ := Kd.at_int (Kd.R_reads' HO_6.out).2.2 x8_1 p748 q748
                  cases e748
                  replace p748 := eq_true p748
                  replace q748 := eq_true q748
                  have p749 : 0 ≤ ((rd x6_2 x8_1) : Int) := of_decide_eq_true ah_
                  have q749 : (rd x6_2 x8_1) < (l0_1.length : Int) := of_decide_eq_true ah_
                  obtain ⟨ad749, A749_0, c749_0, e749, hx749_0, hl749_0, hi749_0⟩ := at_L1 HR0_1.out (rd x6_2 x8_1) p749 q749
                  have hw749_0 := hx749_0
                  cases e749
                  replace hx749_0 := (HB.out.cell (World.block_lt_of_cell? w _ hx749_0)).trans hx749_0
                  have HR749_0 := am_ hi749_0
                  have HC749_0 := am_ hl749_0
                  clear hi749_0 hl749_0
                  replace p749 := eq_true p749
                  replace q749 := eq_true q749
                  have p750 : 0 ≤ (x9_2 : Int) := of_decide_eq_true ah_
                  have q750 : x9_2 < ((rd_L1 l0_1 (rd x6_2 x8_1)).length : Int) := of_decide_eq_true ah_
                  obtain ⟨ad750, e750, hx750_0⟩ := Kd.at_int HR749_0.out x9_2 p750 q750
                  have hw750_0 := hx750_0
                  cases e750
                  replace hx750_0 := (HB.out.cell (World.block_lt_of_cell? w _ hx750_0)).trans hx750_0
                  replace p750 := eq_true p750
                  replace q750 := eq_true q750
                  refine start_ (n := 12) (S := fun w' => w'.cell? ⟨gb738, 0, none⟩ = some (.slice A0_0 l0_0.length c0_0) ∧ w'.cell? ⟨gb738, 1, none⟩ = some (.slice (some ad749) l0_1.length c0_1) ∧ w'.cell? (ad748.add (x8_1).toNat) = some (.int .i64 (rd x6_2 x8_1)) ∧ w'.cell? (ad749.add ((rd x6_2 x8_1)).toNat) = some (.slice (some ad750) (rd_L1 l0_1 (rd x6_2 x8_1)).length c749_0) ∧ w'.cell? (ad750.add (x9_2).toNat) = some (.int .i64 (rd (rd_L1 l0_1 (rd x6_2 x8_1)) x9_2))) (ds := []) (bl 12 0) (by kernel_rfl) rfl rfl ⟨(blk_cell BK738.out 0).trans rfl, (blk_cell BK738.out 1).trans rfl, hx748_0, ((HB.out.cell (World.block_lt_of_cell? w _ hw749_0)).trans hw749_0), ((HB.out.cell (World.block_lt_of_cell? w _ hw750_0)).trans hw750_0)⟩ (fun hHeld => ?_); refine with_tabW spec_l7First.tab11 spec_l7First.bits11 (fun HT_ HW_ => ?_)
                  generalize wr.drew = w40 at HO_6 HO_7 BK738 HB HR749_0 hx748_0 hx749_0 hx750_0 hHeld ⊢
                  refine pu_ 0 34 (bl 12 1) HT_ ?_
                  refine pu_ 2 36 (bl 12 5) HT_ ?_
                  refine pu_ 3 37 (bl 12 13) HT_ ?_
                  refine pu_ 4 38 (bl 12 29) HT_ ?_
                  refine pu_ 8 42 (bl 12 285) HT_ ?_
                  refine tk_ 1 35 (bl 12 287) HT_ HW_ hHeld ?_
                  refine tk_ 5 39 (bl 12 319) HT_ HW_ hHeld ?_
                  refine pu_ 6 40 (bl 12 383) HT_ ?_
                  refine tk_ 7 41 (bl 12 511) HT_ HW_ hHeld ?_
                  refine pu_ 9 43 (bl 12 1023) HT_ ?_
                  refine tk_ 10 44 (bl 12 2047) HT_ HW_ hHeld ?_
                  refine pu_ 11 10 (bl 12 4095) HT_ ?_
                  refine done_ (done_of HT_.out (by kernel_rfl)) ?_
                  try go_wp2_with (first | ((with_reducible refine gate_callee (f := 63) rfl ?_); refine gL_ (some 47) Try.func63 #[.slice (some ad748) x6_2.length co41, .int .i64 (rd (rd_L1 l0_1 (rd x6_2 x8_1)) x9_2)] ?_; (with_reducible refine (spec_l5Find.calls k2 _ _ x6_2 (rd (rd_L1 l0_1 (rd x6_2 x8_1)) x9_2) t751 _ ?side1 ?side2 A25.out).mono ?_); (case side1 => exact rc_ ((Kd.R_reads' HO_6.out).2.2)); (case side2 => exact (Kd.R_reads' HO_6.out).2.1); rintro e w' ⟨rfl, ⟨nd, rfl⟩⟩; refine ⟨_, rfl, ?_⟩))
                  go_roundg k2
                  case measure => have := HK1.out; have := HK2.out; omega
                  case rel => exact ⟨(x6_2), (x7_2), (wrap64 (x9_2 + 1)), (by first | rfl | (simp; done) | (simp [*]; done)), H', ⟨by have := HK1.out; have := HK2.out; omega⟩, ⟨by refine rr_ ?_; exact HO_6.out⟩, ⟨by refine rr_ ?_; exact HO_7.out⟩, ⟨by refine rb_ ?_; exact BK738.out⟩, ⟨by exact zp35_0_ HB.out GE738.out⟩⟩
                ·rw [if_neg c24] at H
                 exact absurd H (by simp)
               ·rw [if_neg c23] at H
                exact absurd H (by simp)
              ·rw [if_neg c22] at H
               exact absurd H (by simp)
             ·rw [if_neg c21] at H
              exact absurd H (by simp)
            ·rw [if_neg c20] at H
             exact absurd H (by simp)
           ·rw [if_neg c19] at H
            exact absurd H (by simp)
          ·rw [if_neg c18] at H
           have c18b0 : decide (x9_2 < 3) = false := decide_eq_false c18
           clear c18
           have H' := am_ H
           clear H
           go_wp2
           go_roundg k2
           case measure => have := HK1.out; have := HK2.out; omega
           case rel => exact ⟨(x6_2), (x7_2), (wrap64 (x8_1 + 1)), (by first | rfl | (simp; done) | (simp [*]; done)), H', ⟨by have := HK1.out; have := HK2.out; omega⟩, ⟨by refine rr_ ?_; exact HO_6.out⟩, ⟨by refine rr_ ?_; exact HO_7.out⟩, ⟨by refine rb_ ?_; exact BK738.out⟩, ⟨by exact zp35_0_ HB.out GE738.out⟩⟩
      ·rw [if_neg c11] at H
       exact absurd H (by simp)
     ·rw [if_neg c10] at H
      exact absurd H (by simp)
    ·rw [if_neg c9] at H
     exact absurd H (by simp)
   ·rw [if_neg c8] at H
    have c8b0 : decide (x8_1 < (x6_1.length : Int)) = false := decide_eq_false c8
    clear c8
    simp only [Option.some.injEq, Prod.mk.injEq] at H
    obtain ⟨rfl, rfl⟩ := H
    obtain ⟨Ao42, co42, eo42⟩ := Kd.R_slice HO_6.out
    subst eo42
    go_wp2
    go_ret2
    exact ⟨by first | rfl | (simp [errW_none, errW_some] <;> rfl) | (simp [*, errW_none, errW_some] <;> rfl), by exact zp35_0_ HB.out GE738.out⟩
end Go.Proofs.Ytogamkblkoobkaa.P
end
section
namespace Go.Proofs.Ytogamkblkoobkaa.P
open Go.RowKit Go.Proofs.YtogamkblkoobkaaW.PrintWords Go.Proofs.YtogamkblkoobkaaW.PrintLast Go.Proofs.YtogamkblkoobkaaW.PrintMore
attribute [local go_sem] max2_int min2_int max_two min_two max_three min_three max_four min_four
set_option linter.unusedVariables false
set_option linter.unusedSimpArgs false
def spec_DifferWord.j0 : Nat → Bool → List Bool → List (List Int) → List Bool → List (List Int) → Option (ByteArray × Bool)
  | 0, _, _, _, _, _ => none
  | k + 1, x16, x760000, x760001, x761000, x761001 => if x16 = true then (some ((⟨#[]⟩ : ByteArray), false)) else ((spec_l7Pairs.f k x760000 x760001 x761000 x761001 true).bind fun bt763 => ((spec_l7First.f k bt763.1 bt763.2 bt763.1).bind fun bt770 => (some (bt770.1, bt770.2))))
def spec_DifferWord.f (k : Nat) (l0_0 : List Bool) (l0_1 : List (List Int)) (l1_0 : List Bool) (l1_1 : List (List Int)) : Option (ByteArray × Bool) := (spec_IsValidDfa.f k l0_0 l0_1).bind fun t761 => (if t761 = true then ((spec_IsValidDfa.f k l1_0 l1_1).bind fun t762 => (spec_DifferWord.j0 k (!t762) l0_0 l0_1 l1_0 l1_1)) else (spec_DifferWord.j0 k true l0_0 l0_1 l1_0 l1_1))
theorem spec_DifferWord.mono_l : ∀ k, (∀ y0 y1 y2 y3 y4, LeO (spec_DifferWord.j0 k y0 y1 y2 y3 y4) (spec_DifferWord.j0 (k + 1) y0 y1 y2 y3 y4))
 | 0 => fun _ _ _ _ _ r h => by simp [spec_DifferWord.j0] at h
 | k + 1 => by
  have ih0 := spec_DifferWord.mono_l k
  ·intro y0 y1 y2 y3 y4
   unfold spec_DifferWord.j0
   repeat' first
   | (with_reducible exact ih0 _ _ _ _ _)
   | (with_reducible exact spec_IsValidDfa.mono _ _ _)
   | (with_reducible exact spec_l7First.mono _ _ _ _)
   | (with_reducible exact spec_l7Pairs.mono _ _ _ _ _ _)
   | (with_reducible exact LeO.refl _)
   | (with_reducible exact LeO.none _)
   | (with_reducible refine LeO.ite ?_ ?_)
   | (with_reducible refine LeO.bind ?_ (fun _ => ?_))
   | exact ih0 _ _ _ _ _
   | exact spec_IsValidDfa.mono _ _ _
   | exact spec_l7First.mono _ _ _ _
   | exact spec_l7Pairs.mono _ _ _ _ _ _
   | exact LeO.none _
   | refine LeO.ite ?_ ?_
   | refine LeO.bind ?_ (fun _ => ?_)
theorem spec_DifferWord.mono : ∀ a0 a1 a2 a3 k, LeO (spec_DifferWord.f k a0 a1 a2 a3) (spec_DifferWord.f (k + 1) a0 a1 a2 a3) := by
 intro a0 a1 a2 a3 k
 have ih0 := spec_DifferWord.mono_l k
 unfold spec_DifferWord.f
 repeat' first
   | (with_reducible exact ih0 _ _ _ _ _)
   | (with_reducible exact spec_IsValidDfa.mono _ _ _)
   | (with_reducible exact spec_l7First.mono _ _ _ _)
   | (with_reducible exact spec_l7Pairs.mono _ _ _ _ _ _)
   | (with_reducible exact LeO.refl _)
   | (with_reducible exact LeO.none _)
   | (with_reducible refine LeO.ite ?_ ?_)
   | (with_reducible refine LeO.bind ?_ (fun _ => ?_))
   | exact ih0 _ _ _ _ _
   | exact spec_IsValidDfa.mono _ _ _
   | exact spec_l7First.mono _ _ _ _
   | exact spec_l7Pairs.mono _ _ _ _ _ _
   | exact LeO.none _
   | refine LeO.ite ?_ ?_
   | refine LeO.bind ?_ (fun _ => ?_)
set_option maxHeartbeats 8000000 in
set_option maxRecDepth 100000 in
theorem spec_DifferWord.calls (k : Nat) (A0_0 : Option Addr) (c0_0 : Nat) (l0_0 : List Bool) (A0_1 : Option Addr) (c0_1 : Nat) (l0_1 : List (List Int)) (A1_0 : Option Addr) (c1_0 : Nat) (l1_0 : List Bool) (A1_1 : Option Addr) (c1_1 : Nat) (l1_1 : List (List Int)) (r1 : ByteArray) (r2 : Bool) (w : World) (hr0_0 : Kd.C Kd.bool w A0_0 l0_0.length l0_0) (hc0_0 : l0_0.length ≤ c0_0) (hr0_1 : Kd.C (Kd.slice 3 (Kd.int .i64)) w A0_1 l0_1.length l0_1) (hc0_1 : l0_1.length ≤ c0_1) (hr1_0 : Kd.C Kd.bool w A1_0 l1_0.length l1_0) (hc1_0 : l1_0.length ≤ c1_0) (hr1_1 : Kd.C (Kd.slice 3 (Kd.int .i64)) w A1_1 l1_1.length l1_1) (hc1_1 : l1_1.length ≤ c1_1) (h : spec_DifferWord.f k l0_0 l0_1 l1_0 l1_1 = some (r1, r2)) :
  Calls Try.prog 31 #[.agg #[.slice A0_0 l0_0.length c0_0, .slice A0_1 l0_1.length c0_1], .agg #[.slice A1_0 l1_0.length c1_0, .slice A1_1 l1_1.length c1_1]] w fun e w' => e = .returned (.tuple #[.string r1, .bool r2]) ∧ Below w.heap.size w w' := by
 have hu27 := Try.underlying27
 have HR0_0 := am_ hr0_0
 have HC0_0 := am_ hc0_0
 clear hr0_0 hc0_0
 have HR0_1 := am_ hr0_1
 have HC0_1 := am_ hc0_1
 clear hr0_1 hc0_1
 have HR1_0 := am_ hr1_0
 have HC1_0 := am_ hc1_0
 clear hr1_0 hc1_0
 have HR1_1 := am_ hr1_1
 have HC1_1 := am_ hc1_1
 clear hr1_1 hc1_1
 have HB := am_ (Below.refl w.heap.size w)
 have H : ((spec_IsValidDfa.f k l0_0 l0_1).bind fun t761 => (if t761 = true then ((spec_IsValidDfa.f k l1_0 l1_1).bind fun t762 => (spec_DifferWord.j0 k (!t762) l0_0 l0_1 l1_0 l1_1)) else (spec_DifferWord.j0 k true l0_0 l0_1 l1_0 l1_1))) = some (r1, r2) := h
 clear h
 have HC3 := am_ H
 clear H
 go_enter Try.func31, Try.ntmps31
 go_upto_region 1 with (first | ((with_reducible refine gate_dst (N := 2) rfl ?_); refine box_event ?hg (N := 2) ?hd (cs := #[.slice A0_0 l0_0.length c0_0, .slice A0_1 l0_1.length c0_1]) (t := 27) ?hr ?_; (case hd => rfl); (case hg => rfl); (case hr => first | (go_simp; done) | (go_simp; rfl)); intro gb759 hg w4 hbox hb; replace BK759 := am_ (hbox); replace GW759 := am_ ((by rw [hg]; exact (below_size (b0_ HB.out)) : w.heap.size ≤ gb759)); replace GE759 := am_ ((by rw [hg]; exact (below_size (b0_ HB.out)) : w.heap.size ≤ gb759)); replace HB := am_ (below_step (b0_ HB.out) hb); clear hb hbox hg) | ((with_reducible refine gate_dst (N := 3) rfl ?_); refine box_event ?hg (N := 3) ?hd (cs := #[.slice A1_0 l1_0.length c1_0, .slice A1_1 l1_1.length c1_1]) (t := 27) ?hr ?_; (case hd => rfl); (case hg => rfl); (case hr => first | (go_simp; done) | (go_simp; rfl)); intro gb760 hg w5 hbox hb; have n0_ := am_ (blk_below (rb_ BK759.out) hb); have n1_ := am_ (below_step (b1_ HB.out GE759.out) hb); have n2_ := am_ (hbox); have n3_ := am_ ((by rw [hg]; exact (below_size (b1_ HB.out GE759.out)) : w.heap.size ≤ gb760)); have n4_ := am_ ((by rw [hg]; exact (below_size (b1_ HB.out GE759.out)) : w.heap.size ≤ gb760)); have n5_ := am_ ((by rw [hg]; exact Nat.ne_of_lt (blk_lt (rb_ BK759.out)) : gb759 ≠ gb760)); have n6_ := am_ ((by rw [hg]; exact Nat.ne_of_gt (blk_lt (rb_ BK759.out)) : gb760 ≠ gb759)); clear BK759; clear HB; have BK759 := n0_; have HB := n1_; have BK760 := n2_; have GW760 := n3_; have GE760 := n4_; have NB759_760 := n5_; have NB760_759 := n6_; clear n0_ n1_ n2_ n3_ n4_ n5_ n6_; clear hb hbox hg))
 (try simp only [Act.put, List.setIfInBounds_toArray, List.set_cons_zero, List.set_cons_succ])
 go_cut [16] (fun v16 wc => ∃ (kq : Nat) (x16_2 : Bool), v16 = .bool x16_2 ∧ Aside0 (spec_DifferWord.j0 kq x16_2 l0_0 l0_1 l1_0 l1_1 = some (r1, r2)) ∧ Aside0 (kq ≤ k) ∧ Aside0 (wc.heap[gb759]? = some (.cells #[(.slice A0_0 l0_0.length c0_0), (.slice A0_1 l0_1.length c0_1)] 27 (0, 0))) ∧ Aside0 (wc.heap[gb760]? = some (.cells #[(.slice A1_0 l1_0.length c1_0), (.slice A1_1 l1_1.length c1_1)] 27 (0, 0))) ∧ Aside0 (Below w.heap.size w wc))
 case first =>
  have H := HC3.out
  clear HC3
  replace H := Option.bind_eq_some_iff.mp H
  obtain ⟨t761, A60, H⟩ := H
  have A6 := am_ A60
  clear A60
  by_cases c7 : t761 = true
  ·subst c7
   have H1 : ((spec_IsValidDfa.f k l1_0 l1_1).bind fun t762 => (spec_DifferWord.j0 k (!t762) l0_0 l0_1 l1_0 l1_1)) = some (r1, r2) := by rw [if_pos rfl] at H; exact H
   clear H
   have H := H1
   clear H1
   replace H := Option.bind_eq_some_iff.mp H
   obtain ⟨t762, A80, H⟩ := H
   replace H : (spec_DifferWord.j0 k (!t762) l0_0 l0_1 l1_0 l1_1) = some (r1, r2) := H
   have A8 := am_ A80
   clear A80
   have H' := am_ H
   clear H
   have hnb9 := NB759_760.out
   have hnc9 := NB760_759.out
   have hcz10_0 : w5.cell? ⟨gb759, 0, none⟩ = some (.slice A0_0 l0_0.length c0_0) := (blk_cell BK759.out 0).trans rfl
   have hcz10_1 : w5.cell? ⟨gb759, 1, none⟩ = some (.slice A0_1 l0_1.length c0_1) := (blk_cell BK759.out 1).trans rfl
   have hfz10_0 := blk_frozen BK759.out 0
   have hfz10_1 := blk_frozen BK759.out 1
   go_wp2_with (first | ((with_reducible refine gate_callee (f := 35) rfl ?_); refine gL_ (some 10) Try.func35 #[.agg #[.slice A0_0 l0_0.length c0_0, .slice A0_1 l0_1.length c0_1]] ?_; (with_reducible refine (spec_IsValidDfa.calls k _ _ l0_0 _ _ l0_1 true _ ?side1 ?side2 ?side3 ?side4 A6.out).mono ?_); (case side1 => exact rc_ (Kd.C_below HR0_0.out HB.out)); (case side2 => exact HC0_0.out); (case side3 => exact rc_ (Kd.C_below HR0_1.out HB.out)); (case side4 => exact HC0_1.out); rintro e w11 ⟨rfl, hb⟩; refine ⟨_, rfl, ?_⟩; have n0_ := am_ (blk_below (rb_ BK759.out) hb); have n1_ := am_ (blk_below (rb_ BK760.out) hb); have n2_ := am_ (below_step (b2_ HB.out GE759.out GE760.out) hb); clear BK759; clear BK760; clear HB; have BK759 := n0_; have BK760 := n1_; have HB := n2_; clear n0_ n1_ n2_; (try clear hb); (try clear hb2); (try clear hk); (try clear hi); have hcz12_0 : w11.cell? ⟨gb760, 0, none⟩ = some (.slice A1_0 l1_0.length c1_0) := (blk_cell BK760.out 0).trans rfl; have hcz12_1 : w11.cell? ⟨gb760, 1, none⟩ = some (.slice A1_1 l1_1.length c1_1) := (blk_cell BK760.out 1).trans rfl; have hfz12_0 := blk_frozen BK760.out 0; have hfz12_1 := blk_frozen BK760.out 1) | (go_at_call 35; (with_reducible refine (spec_IsValidDfa.calls k _ _ l1_0 _ _ l1_1 t762 _ ?side1 ?side2 ?side3 ?side4 A8.out).mono ?_); (case side1 => exact rc_ (Kd.C_below HR1_0.out HB.out)); (case side2 => exact HC1_0.out); (case side3 => exact rc_ (Kd.C_below HR1_1.out HB.out)); (case side4 => exact HC1_1.out); rintro e w13 ⟨rfl, hb⟩; have n0_ := am_ (blk_below (rb_ BK759.out) hb); have n1_ := am_ (blk_below (rb_ BK760.out) hb); have n2_ := am_ (below_step (b2_ HB.out GE759.out GE760.out) hb); clear BK759; clear BK760; clear HB; have BK759 := n0_; have BK760 := n1_; have HB := n2_; clear n0_ n1_ n2_; (try clear hb); (try clear hb2); (try clear hk); (try clear hi)))
   go_meet
   case rel => exact ⟨_, (!t762), (by first | rfl | (simp; done) | (simp [*]; done)), H', ⟨by first | omega | exact Nat.le_refl _⟩, ⟨by refine rb_ ?_; exact BK759.out⟩, ⟨by refine rb_ ?_; exact BK760.out⟩, ⟨by repeat (first | (with_reducible first | exact HB.out | apply below_alloc | apply pw_below_drewN | apply below_drew1 | refine below_set ?_ GE759.out | refine below_set ?_ GE760.out) | exact HB.out)⟩⟩
  ·replace c7 := Bool.eq_false_iff.mpr c7
   subst c7
   have H1 : (spec_DifferWord.j0 k true l0_0 l0_1 l1_0 l1_1) = some (r1, r2) := by rw [if_neg (show ¬ (false = true) by decide)] at H; exact H
   clear H
   have H := H1
   clear H1
   have H' := am_ H
   clear H
   have hnb14 := NB759_760.out
   have hnc14 := NB760_759.out
   have hcz15_0 : w5.cell? ⟨gb759, 0, none⟩ = some (.slice A0_0 l0_0.length c0_0) := (blk_cell BK759.out 0).trans rfl
   have hcz15_1 : w5.cell? ⟨gb759, 1, none⟩ = some (.slice A0_1 l0_1.length c0_1) := (blk_cell BK759.out 1).trans rfl
   have hfz15_0 := blk_frozen BK759.out 0
   have hfz15_1 := blk_frozen BK759.out 1
   go_wp2_with (first | ((with_reducible refine gate_callee (f := 35) rfl ?_); refine gL_ (some 10) Try.func35 #[.agg #[.slice A0_0 l0_0.length c0_0, .slice A0_1 l0_1.length c0_1]] ?_; (with_reducible refine (spec_IsValidDfa.calls k _ _ l0_0 _ _ l0_1 false _ ?side1 ?side2 ?side3 ?side4 A6.out).mono ?_); (case side1 => exact rc_ (Kd.C_below HR0_0.out HB.out)); (case side2 => exact HC0_0.out); (case side3 => exact rc_ (Kd.C_below HR0_1.out HB.out)); (case side4 => exact HC0_1.out); rintro e w16 ⟨rfl, hb⟩; refine ⟨_, rfl, ?_⟩; have n0_ := am_ (blk_below (rb_ BK759.out) hb); have n1_ := am_ (blk_below (rb_ BK760.out) hb); have n2_ := am_ (below_step (b2_ HB.out GE759.out GE760.out) hb); clear BK759; clear BK760; clear HB; have BK759 := n0_; have BK760 := n1_; have HB := n2_; clear n0_ n1_ n2_; (try clear hb); (try clear hb2); (try clear hk); (try clear hi)))
   go_meet
   case rel => exact ⟨_, (true), (by first | rfl | (simp; done) | (simp [*]; done)), H', ⟨by first | omega | exact Nat.le_refl _⟩, ⟨by refine rb_ ?_; exact BK759.out⟩, ⟨by refine rb_ ?_; exact BK760.out⟩, ⟨by repeat (first | (with_reducible first | exact HB.out | apply below_alloc | apply pw_below_drewN | apply below_drew1 | refine below_set ?_ GE759.out | refine below_set ?_ GE760.out) | exact HB.out)⟩⟩
 case rest =>
  clear HC3
  try clear c1
  try clear p2
  try clear c3
  try clear c7
  try clear c9
  try clear c14
  try clear hcz10_0
  try clear hcz10_1
  try clear hcz12_0
  try clear hcz12_1
  try clear hcz15_0
  try clear hcz15_1
  try clear hfz10_0
  try clear hfz10_1
  try clear hfz12_0
  try clear hfz12_1
  try clear hfz15_0
  try clear hfz15_1
  obtain ⟨kq, x16_2, rfl, HA, HJ2, BK759, BK760, HB⟩ := hcut
  cases kq with
  | zero => exact absurd HA.out (by simp [spec_DifferWord.j0])
  | succ kj2 =>
   have H := HA.out
   clear HA
   simp only [spec_DifferWord.j0] at H
   by_cases c17 : x16_2 = true
   ·subst c17
    have H1 : (some ((⟨#[]⟩ : ByteArray), false)) = some (r1, r2) := by rw [if_pos rfl] at H; exact H
    clear H
    have H := H1
    clear H1
    simp only [Option.some.injEq, Prod.mk.injEq] at H
    obtain ⟨rfl, rfl⟩ := H
    go_wp2
    go_ret2
    exact ⟨by first | rfl | (simp [errW_none, errW_some] <;> rfl) | (simp [*, errW_none, errW_some] <;> rfl), by repeat (first | (with_reducible first | exact HB.out | apply below_alloc | apply pw_below_drewN | apply below_drew1 | refine below_set ?_ GE759.out | refine below_set ?_ GE760.out) | exact HB.out)⟩
   ·replace c17 := Bool.eq_false_iff.mpr c17
    subst c17
    have H1 : ((spec_l7Pairs.f kj2 l0_0 l0_1 l1_0 l1_1 true).bind fun bt763 => ((spec_l7First.f kj2 bt763.1 bt763.2 bt763.1).bind fun bt770 => (some (bt770.1, bt770.2)))) = some (r1, r2) := by rw [if_neg (show ¬ (false = true) by decide)] at H; exact H
    clear H
    have H := H1
    clear H1
    replace H := Option.bind_eq_some_iff.mp H
    obtain ⟨⟨t763, t766⟩, A180, H⟩ := H
    have A18 := am_ A180
    clear A180
    replace H := Option.bind_eq_some_iff.mp H
    obtain ⟨⟨t770, t771⟩, A190, H⟩ := H
    replace H : (some (t770, t771)) = some (r1, r2) := H
    have A19 := am_ A190
    clear A190
    simp only [Option.some.injEq, Prod.mk.injEq] at H
    obtain ⟨rfl, rfl⟩ := H
    have hnb20 := NB759_760.out
    have hnc20 := NB760_759.out
    have hcz21_0 : wc.cell? ⟨gb759, 0, none⟩ = some (.slice A0_0 l0_0.length c0_0) := (blk_cell BK759.out 0).trans rfl
    have hcz21_1 : wc.cell? ⟨gb759, 1, none⟩ = some (.slice A0_1 l0_1.length c0_1) := (blk_cell BK759.out 1).trans rfl
    have hfz21_0 := blk_frozen BK759.out 0
    have hfz21_1 := blk_frozen BK759.out 1
    have hcz22_0 : wc.cell? ⟨gb760, 0, none⟩ = some (.slice A1_0 l1_0.length c1_0) := (blk_cell BK760.out 0).trans rfl
    have hcz22_1 : wc.cell? ⟨gb760, 1, none⟩ = some (.slice A1_1 l1_1.length c1_1) := (blk_cell BK760.out 1).trans rfl
    have hfz22_0 := blk_frozen BK760.out 0
    have hfz22_1 := blk_frozen BK760.out 1
    go_wp2_with (first | ((with_reducible refine gate_callee (f := 91) rfl ?_); refine gL_ (some 19) Try.func91 #[.agg #[.slice A0_0 l0_0.length c0_0, .slice A0_1 l0_1.length c0_1], .agg #[.slice A1_0 l1_0.length c1_0, .slice A1_1 l1_1.length c1_1], .bool true] ?_; (with_reducible refine (spec_l7Pairs.calls kj2 _ _ l0_0 _ _ l0_1 _ _ l1_0 _ _ l1_1 true t763 t766 _ ?side1 ?side2 ?side3 ?side4 ?side5 ?side6 ?side7 ?side8 A18.out).mono ?_); (case side1 => exact rc_ (Kd.C_below HR0_0.out HB.out)); (case side2 => exact HC0_0.out); (case side3 => exact rc_ (Kd.C_below HR0_1.out HB.out)); (case side4 => exact HC0_1.out); (case side5 => exact rc_ (Kd.C_below HR1_0.out HB.out)); (case side6 => exact HC1_0.out); (case side7 => exact rc_ (Kd.C_below HR1_1.out HB.out)); (case side8 => exact HC1_1.out); rintro e w23 ⟨v764, v767, rfl, ho0, ho1, hb⟩; refine ⟨_, rfl, ?_⟩; have n0_ := am_ (Kd.R_lower ho0 (below_size (b2_ HB.out GE759.out GE760.out))); have n1_ := am_ (Kd.S_lower ho1 (below_size (b2_ HB.out GE759.out GE760.out))); have n2_ := am_ (blk_below (rb_ BK759.out) hb); have n3_ := am_ (blk_below (rb_ BK760.out) hb); have n4_ := am_ (below_step (b2_ HB.out GE759.out GE760.out) hb); clear BK759; clear BK760; clear HB; have HO765 := n0_; have HO768 := n1_; have BK759 := n2_; have BK760 := n3_; have HB := n4_; clear n0_ n1_ n2_ n3_ n4_; (try clear hb); (try clear hb2); (try clear hk); (try clear hi); (try clear ho0); (try clear ho1)) | ((with_reducible refine gate_dst (N := 6) rfl ?_); refine box_event ?hg (N := 6) ?hd (cs := #[.slice none 0 0, .slice none 0 0]) (t := 27) ?hr ?_; (case hd => rfl); (case hg => rfl); (case hr => first | (go_simp; done) | (go_simp; rfl)); intro gb769 hg w24 hbox hb; have n0_ := am_ (Kd.R_below (rr_ HO765.out) hb); have n1_ := am_ (Kd.S_below (rs_ HO768.out) hb); have n2_ := am_ (blk_below (rb_ BK759.out) hb); have n3_ := am_ (blk_below (rb_ BK760.out) hb); have n4_ := am_ (below_step (b2_ HB.out GE759.out GE760.out) hb); have n5_ := am_ (hbox); have n6_ := am_ ((by rw [hg]; exact (below_size (b2_ HB.out GE759.out GE760.out)) : w.heap.size ≤ gb769)); have n7_ := am_ ((by rw [hg]; exact (below_size (b2_ HB.out GE759.out GE760.out)) : w.heap.size ≤ gb769)); have n8_ := am_ ((by rw [hg]; exact Nat.ne_of_lt (blk_lt (rb_ BK759.out)) : gb759 ≠ gb769)); have n9_ := am_ ((by rw [hg]; exact Nat.ne_of_gt (blk_lt (rb_ BK759.out)) : gb769 ≠ gb759)); have n10_ := am_ ((by rw [hg]; exact Nat.ne_of_lt (blk_lt (rb_ BK760.out)) : gb760 ≠ gb769)); have n11_ := am_ ((by rw [hg]; exact Nat.ne_of_gt (blk_lt (rb_ BK760.out)) : gb769 ≠ gb760)); clear HO765; clear HO768; clear BK759; clear BK760; clear HB; have HO765 := n0_; have HO768 := n1_; have BK759 := n2_; have BK760 := n3_; have HB := n4_; have BK769 := n5_; have GW769 := n6_; have GE769 := n7_; have NB759_769 := n8_; have NB769_759 := n9_; have NB760_769 := n10_; have NB769_760 := n11_; clear n0_ n1_ n2_ n3_ n4_ n5_ n6_ n7_ n8_ n9_ n10_ n11_; clear hb hbox hg; obtain ⟨Ao25, co25, eo25⟩ := Kd.R_slice HO765.out; subst eo25; have hnb26 := NB769_759.out; have hnc26 := NB759_769.out; have hnb27 := NB769_760.out; have hnc27 := NB760_769.out; have hcz28_0 : w24.cell? ⟨gb769, 0, none⟩ = some (.slice none 0 0) := (blk_cell BK769.out 0).trans rfl; have hcz28_1 : w24.cell? ⟨gb769, 1, none⟩ = some (.slice none 0 0) := (blk_cell BK769.out 1).trans rfl; have hfz28_0 := blk_frozen BK769.out 0; have hfz28_1 := blk_frozen BK769.out 1; obtain ⟨Ao29, co29, eo29⟩ := Kd.S_slice HO768.out; subst eo29) | ((with_reducible refine gate_callee (f := 92) rfl ?_); refine gL_ (some 24) Try.func92 #[.agg #[.slice Ao25 t763.length co25, .slice Ao29 t766.length co29], .slice Ao25 t763.length co25] ?_; (with_reducible refine (spec_l7First.calls kj2 _ _ t763 _ _ t766 _ _ t763 t770 t771 _ ?side1 ?side2 ?side3 ?side4 ?side5 ?side6 A19.out).mono ?_); (case side1 => refine (Kd.R_reads' (e := 4) (base := w.heap.size) (ok := fun k_ => True) (n := t763.length) (c := co25) ?_).2.2; exact (rr_ (Kd.R_mono (Kd.R_far (p := ⟨gb769, 1, none⟩) (Kd.R_far (p := ⟨gb769, 0, none⟩) (Kd.R_types HO765.out BK769.out (by decide)) (fun _ hk => hk.2) (.slice Ao25 t763.length co25)) (fun _ hk => hk.2) (.slice Ao29 t766.length co29)) (fun _ h_ => h_.1)))); (case side2 => exact (Kd.R_reads' HO765.out).2.1); (case side3 => refine (Kd.S_reads' (e := 67) (base := w.heap.size) (ok := fun k_ => True) (n := t766.length) (c := co29) ?_).2.2; exact (rs_ (Kd.S_mono (Kd.S_far (p := ⟨gb769, 1, none⟩) (Kd.S_far (p := ⟨gb769, 0, none⟩) (Kd.S_types HO768.out BK769.out (by decide)) (fun _ hk => hk.2) (.slice Ao25 t763.length co25)) (fun _ hk => hk.2) (.slice Ao29 t766.length co29)) (fun _ h_ => h_.1)))); (case side4 => exact (Kd.S_reads' HO768.out).2.1); (case side5 => refine (Kd.R_reads' (e := 4) (base := w.heap.size) (ok := fun k_ => True) (n := t763.length) (c := co25) ?_).2.2; exact (rr_ (Kd.R_mono (Kd.R_far (p := ⟨gb769, 1, none⟩) (Kd.R_far (p := ⟨gb769, 0, none⟩) (Kd.R_types HO765.out BK769.out (by decide)) (fun _ hk => hk.2) (.slice Ao25 t763.length co25)) (fun _ hk => hk.2) (.slice Ao29 t766.length co29)) (fun _ h_ => h_.1)))); (case side6 => exact (Kd.R_reads' HO765.out).2.1); rintro e w30 ⟨rfl, hb⟩; refine ⟨_, rfl, ?_⟩; have n0_ := am_ (Kd.R_below (rr_ (Kd.R_mono (Kd.R_far (p := ⟨gb769, 1, none⟩) (Kd.R_far (p := ⟨gb769, 0, none⟩) (Kd.R_types HO765.out BK769.out (by decide)) (fun _ hk => hk.2) (.slice Ao25 t763.length co25)) (fun _ hk => hk.2) (.slice Ao29 t766.length co29)) (fun _ h_ => h_.1))) hb); have n1_ := am_ (Kd.S_below (rs_ (Kd.S_mono (Kd.S_far (p := ⟨gb769, 1, none⟩) (Kd.S_far (p := ⟨gb769, 0, none⟩) (Kd.S_types HO768.out BK769.out (by decide)) (fun _ hk => hk.2) (.slice Ao25 t763.length co25)) (fun _ hk => hk.2) (.slice Ao29 t766.length co29)) (fun _ h_ => h_.1))) hb); have n2_ := am_ (blk_below (g := gb759) (o := .cells #[.slice A0_0 l0_0.length c0_0, .slice A0_1 l0_1.length c0_1] 27 (0, 0)) (by refine rb_ ?_; refine blk_far ?_ NB759_769.out _; refine rb_ ?_; refine blk_far ?_ NB759_769.out _; refine rb_ ?_; exact BK759.out) hb); have n3_ := am_ (blk_below (g := gb760) (o := .cells #[.slice A1_0 l1_0.length c1_0, .slice A1_1 l1_1.length c1_1] 27 (0, 0)) (by refine rb_ ?_; refine blk_far ?_ NB760_769.out _; refine rb_ ?_; refine blk_far ?_ NB760_769.out _; refine rb_ ?_; exact BK760.out) hb); have n4_ := am_ (blk_below (g := gb769) (o := .cells #[.slice Ao25 t763.length co25, .slice Ao29 t766.length co29] 27 (0, 0)) (by refine rb_ ?_; refine blk_put (cs := #[.slice Ao25 t763.length co25, .slice none 0 0]) ?_ 1 _ rfl; refine rb_ ?_; refine blk_put (cs := #[.slice none 0 0, .slice none 0 0]) ?_ 0 _ rfl; refine rb_ ?_; exact BK769.out) hb); have n5_ := am_ (below_step (b3_ HB.out GE759.out GE760.out GE769.out) hb); clear HO765; clear HO768; clear BK759; clear BK760; clear BK769; clear HB; have HO765 := n0_; have HO768 := n1_; have BK759 := n2_; have BK760 := n3_; have BK769 := n4_; have HB := n5_; clear n0_ n1_ n2_ n3_ n4_ n5_; (try clear hb); (try clear hb2); (try clear hk); (try clear hi)))
    go_ret2
    exact ⟨by first | rfl | (simp [errW_none, errW_some] <;> rfl) | (simp [*, errW_none, errW_some] <;> rfl), by repeat (first | (with_reducible first | exact HB.out | apply below_alloc | apply pw_below_drewN | apply below_drew1 | refine below_set ?_ GE759.out | refine below_set ?_ GE760.out | refine below_set ?_ GE769.out) | exact HB.out)⟩
end Go.Proofs.Ytogamkblkoobkaa.P
end
section
namespace Go.Proofs.Ytogamkblkoobkaa.P
open Go.RowKit Go.Proofs.YtogamkblkoobkaaW.PrintWords Go.Proofs.YtogamkblkoobkaaW.PrintLast Go.Proofs.YtogamkblkoobkaaW.PrintMore
attribute [local go_sem] max2_int min2_int max_two min_two max_three min_three max_four min_four
set_option linter.unusedVariables false
set_option linter.unusedSimpArgs false
end Go.Proofs.Ytogamkblkoobkaa.P
end
section
namespace Go.Proofs.Ytogamkblkoobkaa.P
open Go.RowKit Go.Proofs.YtogamkblkoobkaaW.PrintWords Go.Proofs.YtogamkblkoobkaaW.PrintLast Go.Proofs.YtogamkblkoobkaaW.PrintMore
attribute [local go_sem] max2_int min2_int max_two min_two max_three min_three max_four min_four
set_option linter.unusedVariables false
set_option linter.unusedSimpArgs false
def spec_l5Ints.l0 : Nat → List Int → List Int → Int → Option (Bool)
  | 0, _, _, _ => none
  | k + 1, x0, x1, x5 => if x5 < (x0.length : Int) then (if 0 ≤ x5 then (if x5 < (x1.length : Int) then (if (rd x0 x5) = (rd x1 x5) then (spec_l5Ints.l0 k x0 x1 (wrap64 (x5 + 1))) else (some false)) else (none)) else (none)) else (some true)
def spec_l5Ints.f (k : Nat) (l0 : List Int) (l1 : List Int) : Option (Bool) := if (l0.length : Int) = (l1.length : Int) then (spec_l5Ints.l0 k l0 l1 0) else (some false)
theorem spec_l5Ints.mono_l : ∀ k, (∀ y0 y1 y2, LeO (spec_l5Ints.l0 k y0 y1 y2) (spec_l5Ints.l0 (k + 1) y0 y1 y2))
  | 0 => fun _ _ _ r h => by simp [spec_l5Ints.l0] at h
  | k + 1 => by
    have ih0 := spec_l5Ints.mono_l k
    · intro y0 y1 y2
      unfold spec_l5Ints.l0
      repeat' first
      | (with_reducible exact ih0 _ _ _)
      | (with_reducible exact LeO.refl _)
      | (with_reducible exact LeO.none _)
      | (with_reducible refine LeO.ite ?_ ?_)
      | (with_reducible refine LeO.bind ?_ (fun _ => ?_))
      | exact ih0 _ _ _
      | exact LeO.none _
      | refine LeO.ite ?_ ?_
      | refine LeO.bind ?_ (fun _ => ?_)
theorem spec_l5Ints.mono : ∀ a0 a1 k, LeO (spec_l5Ints.f k a0 a1) (spec_l5Ints.f (k + 1) a0 a1) := by
  intro a0 a1 k
  have ih0 := spec_l5Ints.mono_l k
  unfold spec_l5Ints.f
  repeat' first
      | (with_reducible exact ih0 _ _ _)
      | (with_reducible exact LeO.refl _)
      | (with_reducible exact LeO.none _)
      | (with_reducible refine LeO.ite ?_ ?_)
      | (with_reducible refine LeO.bind ?_ (fun _ => ?_))
      | exact ih0 _ _ _
      | exact LeO.none _
      | refine LeO.ite ?_ ?_
      | refine LeO.bind ?_ (fun _ => ?_)
set_option maxHeartbeats 8000000 in
set_option maxRecDepth 100000 in
theorem spec_l5Ints.calls (k : Nat) (A0 : Option Addr) (c0 : Nat) (l0 : List Int) (A1 : Option Addr) (c1 : Nat) (l1 : List Int) (r : Bool) (w : World) (hr0 : Kd.C (Kd.int .i64) w A0 l0.length l0) (hc0 : l0.length ≤ c0) (hr1 : Kd.C (Kd.int .i64) w A1 l1.length l1) (hc1 : l1.length ≤ c1) (h : spec_l5Ints.f k l0 l1 = some r) :
    Calls Try.prog 93 #[.slice A0 l0.length c0, .slice A1 l1.length c1] w fun e w' => e = .returned (.bool r) ∧ Drawn0 w w' := by
  have HR0 := am_ hr0
  have HC0 := am_ hc0
  clear hr0 hc0
  have HR1 := am_ hr1
  have HC1 := am_ hc1
  clear hr1 hc1
  have H : (if (l0.length : Int) = (l1.length : Int) then (spec_l5Ints.l0 k l0 l1 0) else (some false)) = some r := h
  clear h
  by_cases c3 : (l0.length : Int) = (l1.length : Int)
  · rw [if_pos c3] at H
    have c3b0 : ((l0.length : Int) == (l1.length : Int)) = true := beq_iff_eq.mpr c3
    have c3b1 : ((l0.length : Int) != (l1.length : Int)) = false := bne_eq_false_iff_eq.mpr c3
    have c3b2 : (l0.length == l1.length) = true := by first | simpa using c3 | (simp at c3 ⊢; omega)
    clear c3
    have H' := am_ H
    clear H
    go_enter Try.func93, Try.ntmps93
    go_wp2
    repeat (go_quiet (fail); try go_wp2)
    go_loopg [5] k (fun kq v5 w' => ∃ (x5_1 : Int), v5 = .int .i64 x5_1 ∧ Aside0 (spec_l5Ints.l0 kq l0 l1 x5_1 = some r) ∧ Aside0 (kq ≤ k) ∧ Drawn0 w w')
    case atStart => exact ⟨(0), (by first | rfl | (simp; done) | (simp [*]; done)), H', ⟨Nat.le_refl _⟩, by repeat (first | exact Drawn0.refl _ | apply Drawn0.step)⟩
    case round =>
      clear H'
      try clear c1
      try clear p2
      try clear c3
      try clear c3b0
      try clear c3b1
      try clear c3b2
      obtain ⟨x5_1, rfl, HA, HK1, ⟨m1, rfl⟩⟩ := hrel
      cases gk with
      | zero => exact absurd HA.out (by simp [spec_l5Ints.l0])
      | succ k1 =>
        have H := HA.out
        clear HA
        simp only [spec_l5Ints.l0] at H
        by_cases c4 : x5_1 < (l0.length : Int)
        · rw [if_pos c4] at H
          have c4b0 : decide (x5_1 < (l0.length : Int)) = true := decide_eq_true c4
          clear c4
          by_cases c5 : 0 ≤ x5_1
          · rw [if_pos c5] at H
            have c5b0 : decide (0 ≤ x5_1) = true := decide_eq_true c5
            clear c5
            by_cases c6 : x5_1 < (l1.length : Int)
            · rw [if_pos c6] at H
              have c6b0 : decide (x5_1 < (l1.length : Int)) = true := decide_eq_true c6
              clear c6
              by_cases c7 : (rd l0 x5_1) = (rd l1 x5_1)
              · rw [if_pos c7] at H
                have c7b0 : ((rd l0 x5_1) == (rd l1 x5_1)) = true := beq_iff_eq.mpr c7
                have c7b1 : ((rd l0 x5_1) != (rd l1 x5_1)) = false := bne_eq_false_iff_eq.mpr c7
                clear c7
                have H' := am_ H
                clear H
                have p400 : 0 ≤ (x5_1 : Int) := of_decide_eq_true ah_
                have q400 : x5_1 < (l0.length : Int) := of_decide_eq_true ah_
                obtain ⟨ad400, e400, hx400_0⟩ := Kd.at_int HR0.out x5_1 p400 q400
                cases e400
                replace p400 := eq_true p400
                replace q400 := eq_true q400
                have p401 : 0 ≤ (x5_1 : Int) := of_decide_eq_true ah_
                have q401 : x5_1 < (l1.length : Int) := of_decide_eq_true ah_
                obtain ⟨ad401, e401, hx401_0⟩ := Kd.at_int HR1.out x5_1 p401 q401
                cases e401
                replace p401 := eq_true p401
                replace q401 := eq_true q401
                go_wp2
                repeat (go_quiet (fail); try go_wp2)
                go_roundg k1
                case measure => have := HK1.out; omega
                case rel => exact ⟨(wrap64 (x5_1 + 1)), (by first | rfl | (simp; done) | (simp [*]; done)), H', ⟨by have := HK1.out; omega⟩, by repeat (first | exact Drawn0.refl _ | apply Drawn0.step)⟩
              · rw [if_neg c7] at H
                have c7b0 : ((rd l0 x5_1) == (rd l1 x5_1)) = false := beq_eq_false_iff_ne.mpr c7
                have c7b1 : ((rd l0 x5_1) != (rd l1 x5_1)) = true := bne_iff_ne.mpr c7
                obtain rfl := Option.some.inj H
                simp only [Option.some.injEq, Prod.mk.injEq] at H
                obtain ⟨rfl⟩ := H
                have p400 : 0 ≤ (x5_1 : Int) := of_decide_eq_true ah_
                have q400 : x5_1 < (l0.length : Int) := of_decide_eq_true ah_
                obtain ⟨ad400, e400, hx400_0⟩ := Kd.at_int HR0.out x5_1 p400 q400
                cases e400
                replace p400 := eq_true p400
                replace q400 := eq_true q400
                have p401 : 0 ≤ (x5_1 : Int) := of_decide_eq_true ah_
                have q401 : x5_1 < (l1.length : Int) := of_decide_eq_true ah_
                obtain ⟨ad401, e401, hx401_0⟩ := Kd.at_int HR1.out x5_1 p401 q401
                cases e401
                replace p401 := eq_true p401
                replace q401 := eq_true q401
                go_wp2
                repeat (go_quiet (fail); try go_wp2)
                go_ret
                exact ⟨by first | rfl | (simp; done) | (simp [*]; done), by repeat (first | exact Drawn0.refl _ | apply Drawn0.step)⟩
            · rw [if_neg c6] at H
              exact absurd H (by simp)
          · rw [if_neg c5] at H
            exact absurd H (by simp)
        · rw [if_neg c4] at H
          have c4b0 : decide (x5_1 < (l0.length : Int)) = false := decide_eq_false c4
          clear c4
          obtain rfl := Option.some.inj H
          simp only [Option.some.injEq, Prod.mk.injEq] at H
          obtain ⟨rfl⟩ := H
          go_wp2
          repeat (go_quiet (fail); try go_wp2)
          go_ret
          exact ⟨by first | rfl | (simp; done) | (simp [*]; done), by repeat (first | exact Drawn0.refl _ | apply Drawn0.step)⟩
  · rw [if_neg c3] at H
    have c3b0 : ((l0.length : Int) == (l1.length : Int)) = false := beq_eq_false_iff_ne.mpr c3
    have c3b1 : ((l0.length : Int) != (l1.length : Int)) = true := bne_iff_ne.mpr c3
    have c3b2 : (l0.length == l1.length) = false := by first | simpa using c3 | (simp at c3 ⊢; omega)
    obtain rfl := Option.some.inj H
    simp only [Option.some.injEq, Prod.mk.injEq] at H
    obtain ⟨rfl⟩ := H
    go_enter Try.func93, Try.ntmps93
    go_wp2
    repeat (go_quiet (fail); try go_wp2)
    go_ret
    exact ⟨by first | rfl | (simp; done) | (simp [*]; done), by repeat (first | exact Drawn0.refl _ | apply Drawn0.step)⟩
end Go.Proofs.Ytogamkblkoobkaa.P
end
section
namespace Go.Proofs.Ytogamkblkoobkaa.P
open Go.RowKit Go.Proofs.YtogamkblkoobkaaW.PrintWords Go.Proofs.YtogamkblkoobkaaW.PrintLast Go.Proofs.YtogamkblkoobkaaW.PrintMore
attribute [local go_sem] max2_int min2_int max_two min_two max_three min_three max_four min_four
set_option linter.unusedVariables false
set_option linter.unusedSimpArgs false
mutual
def spec_EqualDfa.j0 : Nat → Bool → List Bool → List (List Int) → List Bool → List (List Int) → Option (Bool)
  | 0, _, _, _, _, _ => none
  | k + 1, x22, x773000, x773001, x774000, x774001 => if x22 = true then (some false) else (spec_EqualDfa.l0 k 0 x773000 x773001 x774000 x774001)
def spec_EqualDfa.l0 : Nat → Int → List Bool → List (List Int) → List Bool → List (List Int) → Option (Bool)
  | 0, _, _, _, _, _ => none
  | k + 1, x5, x773000, x773001, x774000, x774001 => if x5 < (x773000.length : Int) then (if 0 ≤ x5 then (if x5 < (x774000.length : Int) then (if ((rdOf false x773000 x5) != (rdOf false x774000 x5)) = true then (some false) else (spec_EqualDfa.l0 k (wrap64 (x5 + 1)) x773000 x773001 x774000 x774001)) else (none)) else (none)) else (spec_EqualDfa.l1 k 0 x773000 x773001 x774000 x774001)
def spec_EqualDfa.l1 : Nat → Int → List Bool → List (List Int) → List Bool → List (List Int) → Option (Bool)
  | 0, _, _, _, _, _ => none
  | k + 1, x6, x773000, x773001, x774000, x774001 => if x6 < (x773001.length : Int) then (if 0 ≤ x6 then (if x6 < (x774001.length : Int) then ((spec_l5Ints.f k (rd_L1 x773001 x6) (rd_L1 x774001 x6)).bind fun t778 => (if t778 = true then (spec_EqualDfa.l1 k (wrap64 (x6 + 1)) x773000 x773001 x774000 x774001) else (some false))) else (none)) else (none)) else (some true)
end
def spec_EqualDfa.f (k : Nat) (l0_0 : List Bool) (l0_1 : List (List Int)) (l1_0 : List Bool) (l1_1 : List (List Int)) : Option (Bool) := if (l0_0.length : Int) = (l1_0.length : Int) then (spec_EqualDfa.j0 k ((l0_1.length : Int) != (l1_1.length : Int)) l0_0 l0_1 l1_0 l1_1) else (spec_EqualDfa.j0 k true l0_0 l0_1 l1_0 l1_1)
theorem spec_EqualDfa.mono_l : ∀ k, (∀ y0 y1 y2 y3 y4, LeO (spec_EqualDfa.j0 k y0 y1 y2 y3 y4) (spec_EqualDfa.j0 (k + 1) y0 y1 y2 y3 y4)) ∧ (∀ y0 y1 y2 y3 y4, LeO (spec_EqualDfa.l0 k y0 y1 y2 y3 y4) (spec_EqualDfa.l0 (k + 1) y0 y1 y2 y3 y4)) ∧ (∀ y0 y1 y2 y3 y4, LeO (spec_EqualDfa.l1 k y0 y1 y2 y3 y4) (spec_EqualDfa.l1 (k + 1) y0 y1 y2 y3 y4))
 | 0 => ⟨fun _ _ _ _ _ r h => by simp [spec_EqualDfa.j0] at h, fun _ _ _ _ _ r h => by simp [spec_EqualDfa.l0] at h, fun _ _ _ _ _ r h => by simp [spec_EqualDfa.l1] at h⟩
 | k + 1 => by
  obtain ⟨ih0, ih1, ih2⟩ := spec_EqualDfa.mono_l k
  refine ⟨?_, ?_, ?_⟩
  ·intro y0 y1 y2 y3 y4
   unfold spec_EqualDfa.j0
   repeat' first
   | (with_reducible exact ih0 _ _ _ _ _)
   | (with_reducible exact ih1 _ _ _ _ _)
   | (with_reducible exact ih2 _ _ _ _ _)
   | (with_reducible exact spec_l5Ints.mono _ _ _)
   | (with_reducible exact LeO.refl _)
   | (with_reducible exact LeO.none _)
   | (with_reducible refine LeO.ite ?_ ?_)
   | (with_reducible refine LeO.bind ?_ (fun _ => ?_))
   | exact ih0 _ _ _ _ _
   | exact ih1 _ _ _ _ _
   | exact ih2 _ _ _ _ _
   | exact spec_l5Ints.mono _ _ _
   | exact LeO.none _
   | refine LeO.ite ?_ ?_
   | refine LeO.bind ?_ (fun _ => ?_)
  ·intro y0 y1 y2 y3 y4
   unfold spec_EqualDfa.l0
   repeat' first
   | (with_reducible exact ih0 _ _ _ _ _)
   | (with_reducible exact ih1 _ _ _ _ _)
   | (with_reducible exact ih2 _ _ _ _ _)
   | (with_reducible exact spec_l5Ints.mono _ _ _)
   | (with_reducible exact LeO.refl _)
   | (with_reducible exact LeO.none _)
   | (with_reducible refine LeO.ite ?_ ?_)
   | (with_reducible refine LeO.bind ?_ (fun _ => ?_))
   | exact ih0 _ _ _ _ _
   | exact ih1 _ _ _ _ _
   | exact ih2 _ _ _ _ _
   | exact spec_l5Ints.mono _ _ _
   | exact LeO.none _
   | refine LeO.ite ?_ ?_
   | refine LeO.bind ?_ (fun _ => ?_)
  ·intro y0 y1 y2 y3 y4
   unfold spec_EqualDfa.l1
   repeat' first
   | (with_reducible exact ih0 _ _ _ _ _)
   | (with_reducible exact ih1 _ _ _ _ _)
   | (with_reducible exact ih2 _ _ _ _ _)
   | (with_reducible exact spec_l5Ints.mono _ _ _)
   | (with_reducible exact LeO.refl _)
   | (with_reducible exact LeO.none _)
   | (with_reducible refine LeO.ite ?_ ?_)
   | (with_reducible refine LeO.bind ?_ (fun _ => ?_))
   | exact ih0 _ _ _ _ _
   | exact ih1 _ _ _ _ _
   | exact ih2 _ _ _ _ _
   | exact spec_l5Ints.mono _ _ _
   | exact LeO.none _
   | refine LeO.ite ?_ ?_
   | refine LeO.bind ?_ (fun _ => ?_)
theorem spec_EqualDfa.mono : ∀ a0 a1 a2 a3 k, LeO (spec_EqualDfa.f k a0 a1 a2 a3) (spec_EqualDfa.f (k + 1) a0 a1 a2 a3) := by
 intro a0 a1 a2 a3 k
 obtain ⟨ih0, ih1, ih2⟩ := spec_EqualDfa.mono_l k
 unfold spec_EqualDfa.f
 repeat' first
   | (with_reducible exact ih0 _ _ _ _ _)
   | (with_reducible exact ih1 _ _ _ _ _)
   | (with_reducible exact ih2 _ _ _ _ _)
   | (with_reducible exact spec_l5Ints.mono _ _ _)
   | (with_reducible exact LeO.refl _)
   | (with_reducible exact LeO.none _)
   | (with_reducible refine LeO.ite ?_ ?_)
   | (with_reducible refine LeO.bind ?_ (fun _ => ?_))
   | exact ih0 _ _ _ _ _
   | exact ih1 _ _ _ _ _
   | exact ih2 _ _ _ _ _
   | exact spec_l5Ints.mono _ _ _
   | exact LeO.none _
   | refine LeO.ite ?_ ?_
   | refine LeO.bind ?_ (fun _ => ?_)
theorem zp37_0_ {p q g1 g2 : Prop} (h : p) (h1 : g1) (h2 : g2) (c : p → g1 → g2 → q := by intro h_ h1_ h2_; repeat (first | (with_reducible first | exact h_ | apply below_alloc | apply pw_below_drewN | apply below_drew1 | refine below_set ?_ h1_ | refine below_set ?_ h2_) | exact h_)) : q := c h h1 h2
set_option maxHeartbeats 8000000 in
set_option maxRecDepth 100000 in
theorem spec_EqualDfa.calls (k : Nat) (A0_0 : Option Addr) (c0_0 : Nat) (l0_0 : List Bool) (A0_1 : Option Addr) (c0_1 : Nat) (l0_1 : List (List Int)) (A1_0 : Option Addr) (c1_0 : Nat) (l1_0 : List Bool) (A1_1 : Option Addr) (c1_1 : Nat) (l1_1 : List (List Int)) (r : Bool) (w : World) (hr0_0 : Kd.C Kd.bool w A0_0 l0_0.length l0_0) (hc0_0 : l0_0.length ≤ c0_0) (hr0_1 : Kd.C (Kd.slice 3 (Kd.int .i64)) w A0_1 l0_1.length l0_1) (hc0_1 : l0_1.length ≤ c0_1) (hr1_0 : Kd.C Kd.bool w A1_0 l1_0.length l1_0) (hc1_0 : l1_0.length ≤ c1_0) (hr1_1 : Kd.C (Kd.slice 3 (Kd.int .i64)) w A1_1 l1_1.length l1_1) (hc1_1 : l1_1.length ≤ c1_1) (h : spec_EqualDfa.f k l0_0 l0_1 l1_0 l1_1 = some r) :
  Calls Try.prog 32 #[.agg #[.slice A0_0 l0_0.length c0_0, .slice A0_1 l0_1.length c0_1], .agg #[.slice A1_0 l1_0.length c1_0, .slice A1_1 l1_1.length c1_1]] w fun e w' => e = .returned (.bool r) ∧ Below w.heap.size w w' := by
 have hu27 := Try.underlying27
 have HR0_0 := am_ hr0_0
 have HC0_0 := am_ hc0_0
 clear hr0_0 hc0_0
 have HR0_1 := am_ hr0_1
 have HC0_1 := am_ hc0_1
 clear hr0_1 hc0_1
 have HR1_0 := am_ hr1_0
 have HC1_0 := am_ hc1_0
 clear hr1_0 hc1_0
 have HR1_1 := am_ hr1_1
 have HC1_1 := am_ hc1_1
 clear hr1_1 hc1_1
 have HB := am_ (Below.refl w.heap.size w)
 have H : (if (l0_0.length : Int) = (l1_0.length : Int) then (spec_EqualDfa.j0 k ((l0_1.length : Int) != (l1_1.length : Int)) l0_0 l0_1 l1_0 l1_1) else (spec_EqualDfa.j0 k true l0_0 l0_1 l1_0 l1_1)) = some r := h
 clear h
 have HC3 := am_ H
 clear H
 go_enter Try.func32, Try.ntmps32
 go_upto_region 1 with (first | ((with_reducible refine gate_dst (N := 2) rfl ?_); (try (refine gate_guard (by rfl) ?_; dsimp only)); refine box_event ?hg (N := 2) ?hd (cs := #[.slice A0_0 l0_0.length c0_0, .slice A0_1 l0_1.length c0_1]) (t := 27) ?hr ?_; (case hd => rfl); (case hg => rfl); (case hr => first | (go_simp; done) | (go_simp; rfl)); intro gb772 hg w4 hbox hb; replace BK772 := am_ (hbox); replace GW772 := am_ ((by rw [hg]; exact (below_size (b0_ HB.out)) : w.heap.size ≤ gb772)); replace GE772 := am_ ((by rw [hg]; exact (below_size (b0_ HB.out)) : w.heap.size ≤ gb772)); replace HB := am_ (below_step (b0_ HB.out) hb); clear hb hbox hg) | ((with_reducible refine gate_dst (N := 3) rfl ?_); (try (refine gate_guard (by rfl) ?_; dsimp only)); refine box_event ?hg (N := 3) ?hd (cs := #[.slice A1_0 l1_0.length c1_0, .slice A1_1 l1_1.length c1_1]) (t := 27) ?hr ?_; (case hd => rfl); (case hg => rfl); (case hr => first | (go_simp; done) | (go_simp; rfl)); intro gb773 hg w5 hbox hb; have n0_ := am_ (blk_below (rb_ BK772.out) hb); have n1_ := am_ (below_step (b1_ HB.out GE772.out) hb); have n2_ := am_ (hbox); have n3_ := am_ ((by rw [hg]; exact (below_size (b1_ HB.out GE772.out)) : w.heap.size ≤ gb773)); have n4_ := am_ ((by rw [hg]; exact (below_size (b1_ HB.out GE772.out)) : w.heap.size ≤ gb773)); have n5_ := am_ ((by rw [hg]; exact Nat.ne_of_lt (blk_lt (rb_ BK772.out)) : gb772 ≠ gb773)); have n6_ := am_ ((by rw [hg]; exact Nat.ne_of_gt (blk_lt (rb_ BK772.out)) : gb773 ≠ gb772)); clear BK772; clear HB; have BK772 := n0_; have HB := n1_; have BK773 := n2_; have GW773 := n3_; have GE773 := n4_; have NB772_773 := n5_; have NB773_772 := n6_; clear n0_ n1_ n2_ n3_ n4_ n5_ n6_; clear hb hbox hg))
 repeat (go_quiet (first | ((with_reducible refine gate_dst (N := 2) rfl ?_); (try (refine gate_guard (by rfl) ?_; dsimp only)); refine box_event ?hg (N := 2) ?hd (cs := #[.slice A0_0 l0_0.length c0_0, .slice A0_1 l0_1.length c0_1]) (t := 27) ?hr ?_; (case hd => rfl); (case hg => rfl); (case hr => first | (go_simp; done) | (go_simp; rfl)); intro gb772 hg w4 hbox hb; replace BK772 := am_ (hbox); replace GW772 := am_ ((by rw [hg]; exact (below_size (b0_ HB.out)) : w.heap.size ≤ gb772)); replace GE772 := am_ ((by rw [hg]; exact (below_size (b0_ HB.out)) : w.heap.size ≤ gb772)); replace HB := am_ (below_step (b0_ HB.out) hb); clear hb hbox hg) | ((with_reducible refine gate_dst (N := 3) rfl ?_); (try (refine gate_guard (by rfl) ?_; dsimp only)); refine box_event ?hg (N := 3) ?hd (cs := #[.slice A1_0 l1_0.length c1_0, .slice A1_1 l1_1.length c1_1]) (t := 27) ?hr ?_; (case hd => rfl); (case hg => rfl); (case hr => first | (go_simp; done) | (go_simp; rfl)); intro gb773 hg w5 hbox hb; have n0_ := am_ (blk_below (rb_ BK772.out) hb); have n1_ := am_ (below_step (b1_ HB.out GE772.out) hb); have n2_ := am_ (hbox); have n3_ := am_ ((by rw [hg]; exact (below_size (b1_ HB.out GE772.out)) : w.heap.size ≤ gb773)); have n4_ := am_ ((by rw [hg]; exact (below_size (b1_ HB.out GE772.out)) : w.heap.size ≤ gb773)); have n5_ := am_ ((by rw [hg]; exact Nat.ne_of_lt (blk_lt (rb_ BK772.out)) : gb772 ≠ gb773)); have n6_ := am_ ((by rw [hg]; exact Nat.ne_of_gt (blk_lt (rb_ BK772.out)) : gb773 ≠ gb772)); clear BK772; clear HB; have BK772 := n0_; have HB := n1_; have BK773 := n2_; have GW773 := n3_; have GE773 := n4_; have NB772_773 := n5_; have NB773_772 := n6_; clear n0_ n1_ n2_ n3_ n4_ n5_ n6_; clear hb hbox hg)); go_upto_region 1 with (first | ((with_reducible refine gate_dst (N := 2) rfl ?_); (try (refine gate_guard (by rfl) ?_; dsimp only)); refine box_event ?hg (N := 2) ?hd (cs := #[.slice A0_0 l0_0.length c0_0, .slice A0_1 l0_1.length c0_1]) (t := 27) ?hr ?_; (case hd => rfl); (case hg => rfl); (case hr => first | (go_simp; done) | (go_simp; rfl)); intro gb772 hg w4 hbox hb; replace BK772 := am_ (hbox); replace GW772 := am_ ((by rw [hg]; exact (below_size (b0_ HB.out)) : w.heap.size ≤ gb772)); replace GE772 := am_ ((by rw [hg]; exact (below_size (b0_ HB.out)) : w.heap.size ≤ gb772)); replace HB := am_ (below_step (b0_ HB.out) hb); clear hb hbox hg) | ((with_reducible refine gate_dst (N := 3) rfl ?_); (try (refine gate_guard (by rfl) ?_; dsimp only)); refine box_event ?hg (N := 3) ?hd (cs := #[.slice A1_0 l1_0.length c1_0, .slice A1_1 l1_1.length c1_1]) (t := 27) ?hr ?_; (case hd => rfl); (case hg => rfl); (case hr => first | (go_simp; done) | (go_simp; rfl)); intro gb773 hg w5 hbox hb; have n0_ := am_ (blk_below (rb_ BK772.out) hb); have n1_ := am_ (below_step (b1_ HB.out GE772.out) hb); have n2_ := am_ (hbox); have n3_ := am_ ((by rw [hg]; exact (below_size (b1_ HB.out GE772.out)) : w.heap.size ≤ gb773)); have n4_ := am_ ((by rw [hg]; exact (below_size (b1_ HB.out GE772.out)) : w.heap.size ≤ gb773)); have n5_ := am_ ((by rw [hg]; exact Nat.ne_of_lt (blk_lt (rb_ BK772.out)) : gb772 ≠ gb773)); have n6_ := am_ ((by rw [hg]; exact Nat.ne_of_gt (blk_lt (rb_ BK772.out)) : gb773 ≠ gb772)); clear BK772; clear HB; have BK772 := n0_; have HB := n1_; have BK773 := n2_; have GW773 := n3_; have GE773 := n4_; have NB772_773 := n5_; have NB773_772 := n6_; clear n0_ n1_ n2_ n3_ n4_ n5_ n6_; clear hb hbox hg)))
 (try simp only [Act.put, List.setIfInBounds_toArray, List.set_cons_zero, List.set_cons_succ])
 go_cut [22] (fun v22 wc => ∃ (kq : Nat) (x22_2 : Bool), v22 = .bool x22_2 ∧ Aside0 (spec_EqualDfa.j0 kq x22_2 l0_0 l0_1 l1_0 l1_1 = some r) ∧ Aside0 (kq ≤ k) ∧ Aside0 (wc.heap[gb772]? = some (.cells #[(.slice A0_0 l0_0.length c0_0), (.slice A0_1 l0_1.length c0_1)] 27 (0, 0))) ∧ Aside0 (wc.heap[gb773]? = some (.cells #[(.slice A1_0 l1_0.length c1_0), (.slice A1_1 l1_1.length c1_1)] 27 (0, 0))) ∧ Aside0 (Below w.heap.size w wc))
 case first =>
  have H := HC3.out
  clear HC3
  by_cases c6 : (l0_0.length : Int) = (l1_0.length : Int)
  ·rw [if_pos c6] at H
   have c6b0 : ((l0_0.length : Int) == (l1_0.length : Int)) = true := beq_iff_eq.mpr c6
   have c6b1 : ((l0_0.length : Int) != (l1_0.length : Int)) = false := bne_eq_false_iff_eq.mpr c6
   have c6b2 : (l0_0.length == l1_0.length) = true := by first | simpa using c6 | (simp at c6 ⊢; omega)
   clear c6
   (first | rw [c6b0] | (simp only [i64_w, i32_w]; rw [c6b0]) | skip)
   have H' := am_ H
   clear H
   have hnb7 := NB772_773.out
   have hnc7 := NB773_772.out
   have hcz8_0 : w5.cell? ⟨gb772, 0, none⟩ = some (.slice A0_0 l0_0.length c0_0) := (blk_cell BK772.out 0).trans rfl
   have hcz8_1 : w5.cell? ⟨gb772, 1, none⟩ = some (.slice A0_1 l0_1.length c0_1) := (blk_cell BK772.out 1).trans rfl
   have hfz8_0 := blk_frozen BK772.out 0
   have hfz8_1 := blk_frozen BK772.out 1
   have hcz9_0 : w5.cell? ⟨gb773, 0, none⟩ = some (.slice A1_0 l1_0.length c1_0) := (blk_cell BK773.out 0).trans rfl
   have hcz9_1 : w5.cell? ⟨gb773, 1, none⟩ = some (.slice A1_1 l1_1.length c1_1) := (blk_cell BK773.out 1).trans rfl
   have hfz9_0 := blk_frozen BK773.out 0
   have hfz9_1 := blk_frozen BK773.out 1
   go_wp2
   repeat (go_quiet (fail); try go_wp2)
   go_meet
   case rel => exact ⟨_, (((l0_1.length : Int) != (l1_1.length : Int))), (by first | rfl | (simp; done) | (simp [*]; done)), H', ⟨by first | omega | exact Nat.le_refl _⟩, ⟨by refine rb_ ?_; exact BK772.out⟩, ⟨by refine rb_ ?_; exact BK773.out⟩, ⟨by exact zp37_0_ HB.out GE772.out GE773.out⟩⟩
  ·rw [if_neg c6] at H
   have c6b0 : ((l0_0.length : Int) == (l1_0.length : Int)) = false := beq_eq_false_iff_ne.mpr c6
   have c6b1 : ((l0_0.length : Int) != (l1_0.length : Int)) = true := bne_iff_ne.mpr c6
   have c6b2 : (l0_0.length == l1_0.length) = false := by first | simpa using c6 | (simp at c6 ⊢; omega)
   (first | rw [c6b0] | (simp only [i64_w, i32_w]; rw [c6b0]) | skip)
   have H' := am_ H
   clear H
   have hnb10 := NB772_773.out
   have hnc10 := NB773_772.out
   have hcz11_0 : w5.cell? ⟨gb772, 0, none⟩ = some (.slice A0_0 l0_0.length c0_0) := (blk_cell BK772.out 0).trans rfl
   have hcz11_1 : w5.cell? ⟨gb772, 1, none⟩ = some (.slice A0_1 l0_1.length c0_1) := (blk_cell BK772.out 1).trans rfl
   have hfz11_0 := blk_frozen BK772.out 0
   have hfz11_1 := blk_frozen BK772.out 1
   have hcz12_0 : w5.cell? ⟨gb773, 0, none⟩ = some (.slice A1_0 l1_0.length c1_0) := (blk_cell BK773.out 0).trans rfl
   have hcz12_1 : w5.cell? ⟨gb773, 1, none⟩ = some (.slice A1_1 l1_1.length c1_1) := (blk_cell BK773.out 1).trans rfl
   have hfz12_0 := blk_frozen BK773.out 0
   have hfz12_1 := blk_frozen BK773.out 1
   go_wp2
   repeat (go_quiet (fail); try go_wp2)
   go_meet
   case rel => exact ⟨_, (true), (by first | rfl | (simp; done) | (simp [*]; done)), H', ⟨by first | omega | exact Nat.le_refl _⟩, ⟨by refine rb_ ?_; exact BK772.out⟩, ⟨by refine rb_ ?_; exact BK773.out⟩, ⟨by exact zp37_0_ HB.out GE772.out GE773.out⟩⟩
 case rest =>
  clear HC3
  try clear c1
  try clear p2
  try clear c3
  try clear c6
  try clear c6b0
  try clear c6b1
  try clear c6b2
  try clear c7
  try clear c10
  try clear hcz11_0
  try clear hcz11_1
  try clear hcz12_0
  try clear hcz12_1
  try clear hcz8_0
  try clear hcz8_1
  try clear hcz9_0
  try clear hcz9_1
  try clear hfz11_0
  try clear hfz11_1
  try clear hfz12_0
  try clear hfz12_1
  try clear hfz8_0
  try clear hfz8_1
  try clear hfz9_0
  try clear hfz9_1
  obtain ⟨kq, x22_2, rfl, HA, HJ2, BK772, BK773, HB⟩ := hcut
  cases kq with
  | zero => exact absurd HA.out (by simp [spec_EqualDfa.j0])
  | succ kj2 =>
   have H := HA.out
   clear HA
   simp only [spec_EqualDfa.j0] at H
   by_cases c13 : x22_2 = true
   ·subst c13
    have H1 : (some false) = some r := by rw [if_pos rfl] at H; exact H
    clear H
    have H := H1
    clear H1
    obtain rfl := Option.some.inj H
    simp only [Option.some.injEq, Prod.mk.injEq] at H
    obtain ⟨rfl⟩ := H
    go_wp2
    repeat (go_quiet (fail); try go_wp2)
    go_ret
    exact ⟨by first | rfl | (simp [errW_none, errW_some] <;> rfl) | (simp [*, errW_none, errW_some] <;> rfl), by exact zp37_0_ HB.out GE772.out GE773.out⟩
   ·replace c13 := Bool.eq_false_iff.mpr c13
    subst c13
    have H1 : (spec_EqualDfa.l0 kj2 0 l0_0 l0_1 l1_0 l1_1) = some r := by rw [if_neg (show ¬ (false = true) by decide)] at H; exact H
    clear H
    have H := H1
    clear H1
    have H' := am_ H
    clear H
    go_wp2
    repeat (go_quiet (fail); try go_wp2)
    go_loopg [5] kj2 (fun kq v5 w' => ∃ (x5_2 : Int), v5 = .int .i64 x5_2 ∧ Aside0 (spec_EqualDfa.l0 kq x5_2 l0_0 l0_1 l1_0 l1_1 = some r) ∧ Aside0 (kq ≤ kj2) ∧ Aside0 (w'.heap[gb772]? = some (.cells #[(.slice A0_0 l0_0.length c0_0), (.slice A0_1 l0_1.length c0_1)] 27 (0, 0))) ∧ Aside0 (w'.heap[gb773]? = some (.cells #[(.slice A1_0 l1_0.length c1_0), (.slice A1_1 l1_1.length c1_1)] 27 (0, 0))) ∧ Aside0 (Below w.heap.size w w'))
    case atStart => exact ⟨(0), (by first | rfl | (simp; done) | (simp [*]; done)), H', ⟨Nat.le_refl _⟩, ⟨by refine rb_ ?_; exact BK772.out⟩, ⟨by refine rb_ ?_; exact BK773.out⟩, ⟨by exact zp37_0_ HB.out GE772.out GE773.out⟩⟩
    case round =>
     clear H'
     try clear c1
     try clear p2
     try clear c3
     try clear c6
     try clear c6b0
     try clear c6b1
     try clear c6b2
     try clear c7
     try clear c10
     try clear c13
     try clear hcz11_0
     try clear hcz11_1
     try clear hcz12_0
     try clear hcz12_1
     try clear hcz8_0
     try clear hcz8_1
     try clear hcz9_0
     try clear hcz9_1
     try clear hfz11_0
     try clear hfz11_1
     try clear hfz12_0
     try clear hfz12_1
     try clear hfz8_0
     try clear hfz8_1
     try clear hfz9_0
     try clear hfz9_1
     try clear p2
     obtain ⟨x5_2, rfl, HA, HK2, BK772, BK773, HB⟩ := hrel
     cases gk with
     | zero => exact absurd HA.out (by simp [spec_EqualDfa.l0])
     | succ k2 =>
      have H := HA.out
      clear HA
      simp only [spec_EqualDfa.l0] at H
      by_cases c14 : x5_2 < (l0_0.length : Int)
      ·rw [if_pos c14] at H
       have c14b0 : decide (x5_2 < (l0_0.length : Int)) = true := decide_eq_true c14
       clear c14
       by_cases c15 : 0 ≤ x5_2
       ·rw [if_pos c15] at H
        have c15b0 : decide (0 ≤ x5_2) = true := decide_eq_true c15
        clear c15
        by_cases c16 : x5_2 < (l1_0.length : Int)
        ·rw [if_pos c16] at H
         have c16b0 : decide (x5_2 < (l1_0.length : Int)) = true := decide_eq_true c16
         clear c16
         by_cases c17 : ((rdOf false l0_0 x5_2) != (rdOf false l1_0 x5_2)) = true
         ·rw [if_pos c17] at H
          have c17b0 : ((rdOf false l0_0 x5_2) != (rdOf false l1_0 x5_2)) = true := c17
          (try (have c17b1 : decide ((rdOf false l0_0 x5_2) = (rdOf false l1_0 x5_2)) = false := by simpa using c17))
          (try (have c17b2 : ((rdOf false l0_0 x5_2) == (rdOf false l1_0 x5_2)) = false := by simpa using c17))
          (try (have c17b3 : ¬ ((rdOf false l0_0 x5_2) = (rdOf false l1_0 x5_2)) := by simpa using c17))
          clear c17
          obtain rfl := Option.some.inj H
          simp only [Option.some.injEq, Prod.mk.injEq] at H
          obtain ⟨rfl⟩ := H
          have hnb18 := NB772_773.out
          have hnc18 := NB773_772.out
          have hcz19_0 : wr.cell? ⟨gb772, 0, none⟩ = some (.slice A0_0 l0_0.length c0_0) := (blk_cell BK772.out 0).trans rfl
          have hcz19_1 : wr.cell? ⟨gb772, 1, none⟩ = some (.slice A0_1 l0_1.length c0_1) := (blk_cell BK772.out 1).trans rfl
          have hfz19_0 := blk_frozen BK772.out 0
          have hfz19_1 := blk_frozen BK772.out 1
          have p774 : 0 ≤ (x5_2 : Int) := of_decide_eq_true ah_
          have q774 : x5_2 < (l0_0.length : Int) := of_decide_eq_true ah_
          obtain ⟨ad774, e774, hx774_0⟩ := Kd.at_bool HR0_0.out x5_2 p774 q774
          cases e774
          replace hx774_0 := (HB.out.cell (World.block_lt_of_cell? w _ hx774_0)).trans hx774_0
          replace p774 := eq_true p774
          replace q774 := eq_true q774
          have hcz20_0 : wr.cell? ⟨gb773, 0, none⟩ = some (.slice A1_0 l1_0.length c1_0) := (blk_cell BK773.out 0).trans rfl
          have hcz20_1 : wr.cell? ⟨gb773, 1, none⟩ = some (.slice A1_1 l1_1.length c1_1) := (blk_cell BK773.out 1).trans rfl
          have hfz20_0 := blk_frozen BK773.out 0
          have hfz20_1 := blk_frozen BK773.out 1
          have p775 : 0 ≤ (x5_2 : Int) := of_decide_eq_true ah_
          have q775 : x5_2 < (l1_0.length : Int) := of_decide_eq_true ah_
          obtain ⟨ad775, e775, hx775_0⟩ := Kd.at_bool HR1_0.out x5_2 p775 q775
          cases e775
          replace hx775_0 := (HB.out.cell (World.block_lt_of_cell? w _ hx775_0)).trans hx775_0
          replace p775 := eq_true p775
          replace q775 := eq_true q775
          go_wp2
          repeat (go_quiet (fail); try go_wp2)
          go_ret
          exact ⟨by first | rfl | (simp [errW_none, errW_some] <;> rfl) | (simp [*, errW_none, errW_some] <;> rfl), by exact zp37_0_ HB.out GE772.out GE773.out⟩
         ·rw [if_neg c17] at H
          have c17b0 : ((rdOf false l0_0 x5_2) != (rdOf false l1_0 x5_2)) = false := by simpa using c17
          (try (have c17b1 : decide ((rdOf false l0_0 x5_2) = (rdOf false l1_0 x5_2)) = true := by simpa using c17))
          (try (have c17b2 : ((rdOf false l0_0 x5_2) == (rdOf false l1_0 x5_2)) = true := by simpa using c17))
          clear c17
          have H' := am_ H
          clear H
          have hnb21 := NB772_773.out
          have hnc21 := NB773_772.out
          have hcz22_0 : wr.cell? ⟨gb772, 0, none⟩ = some (.slice A0_0 l0_0.length c0_0) := (blk_cell BK772.out 0).trans rfl
          have hcz22_1 : wr.cell? ⟨gb772, 1, none⟩ = some (.slice A0_1 l0_1.length c0_1) := (blk_cell BK772.out 1).trans rfl
          have hfz22_0 := blk_frozen BK772.out 0
          have hfz22_1 := blk_frozen BK772.out 1
          have p774 : 0 ≤ (x5_2 : Int) := of_decide_eq_true ah_
          have q774 : x5_2 < (l0_0.length : Int) := of_decide_eq_true ah_
          obtain ⟨ad774, e774, hx774_0⟩ := Kd.at_bool HR0_0.out x5_2 p774 q774
          cases e774
          replace hx774_0 := (HB.out.cell (World.block_lt_of_cell? w _ hx774_0)).trans hx774_0
          replace p774 := eq_true p774
          replace q774 := eq_true q774
          have hcz23_0 : wr.cell? ⟨gb773, 0, none⟩ = some (.slice A1_0 l1_0.length c1_0) := (blk_cell BK773.out 0).trans rfl
          have hcz23_1 : wr.cell? ⟨gb773, 1, none⟩ = some (.slice A1_1 l1_1.length c1_1) := (blk_cell BK773.out 1).trans rfl
          have hfz23_0 := blk_frozen BK773.out 0
          have hfz23_1 := blk_frozen BK773.out 1
          have p775 : 0 ≤ (x5_2 : Int) := of_decide_eq_true ah_
          have q775 : x5_2 < (l1_0.length : Int) := of_decide_eq_true ah_
          obtain ⟨ad775, e775, hx775_0⟩ := Kd.at_bool HR1_0.out x5_2 p775 q775
          cases e775
          replace hx775_0 := (HB.out.cell (World.block_lt_of_cell? w _ hx775_0)).trans hx775_0
          replace p775 := eq_true p775
          replace q775 := eq_true q775
          go_wp2
          repeat (go_quiet (fail); try go_wp2)
          go_roundg k2
          case measure => have := HJ2.out; have := HK2.out; omega
          case rel => exact ⟨(wrap64 (x5_2 + 1)), (by first | rfl | (simp; done) | (simp [*]; done)), H', ⟨by have := HJ2.out; have := HK2.out; omega⟩, ⟨by refine rb_ ?_; exact BK772.out⟩, ⟨by refine rb_ ?_; exact BK773.out⟩, ⟨by exact zp37_0_ HB.out GE772.out GE773.out⟩⟩
        ·rw [if_neg c16] at H
         exact absurd H (by simp)
       ·rw [if_neg c15] at H
        exact absurd H (by simp)
      ·rw [if_neg c14] at H
       have c14b0 : decide (x5_2 < (l0_0.length : Int)) = false := decide_eq_false c14
       clear c14
       have H' := am_ H
       clear H
       have hnb24 := NB772_773.out
       have hnc24 := NB773_772.out
       have hcz25_0 : wr.cell? ⟨gb772, 0, none⟩ = some (.slice A0_0 l0_0.length c0_0) := (blk_cell BK772.out 0).trans rfl
       have hcz25_1 : wr.cell? ⟨gb772, 1, none⟩ = some (.slice A0_1 l0_1.length c0_1) := (blk_cell BK772.out 1).trans rfl
       have hfz25_0 := blk_frozen BK772.out 0
       have hfz25_1 := blk_frozen BK772.out 1
       go_wp2
       repeat (go_quiet (fail); try go_wp2)
       go_loopg [6] k2 (fun kq v6 w' => ∃ (x6_3 : Int), v6 = .int .i64 x6_3 ∧ Aside0 (spec_EqualDfa.l1 kq x6_3 l0_0 l0_1 l1_0 l1_1 = some r) ∧ Aside0 (kq ≤ k2) ∧ Aside0 (w'.heap[gb772]? = some (.cells #[(.slice A0_0 l0_0.length c0_0), (.slice A0_1 l0_1.length c0_1)] 27 (0, 0))) ∧ Aside0 (w'.heap[gb773]? = some (.cells #[(.slice A1_0 l1_0.length c1_0), (.slice A1_1 l1_1.length c1_1)] 27 (0, 0))) ∧ Aside0 (Below w.heap.size w w'))
       case atStart => exact ⟨(0), (by first | rfl | (simp; done) | (simp [*]; done)), H', ⟨Nat.le_refl _⟩, ⟨by refine rb_ ?_; exact BK772.out⟩, ⟨by refine rb_ ?_; exact BK773.out⟩, ⟨by exact zp37_0_ HB.out GE772.out GE773.out⟩⟩
       case round =>
        clear H'
        try clear c1
        try clear c2
        try clear p2
        try clear c3
        try clear c6
        try clear c6b0
        try clear c6b1
        try clear c6b2
        try clear p6
        try clear c7
        try clear p7
        try clear q7
        try clear hx7
        try clear c10
        try clear c13
        try clear c14
        try clear c14b0
        try clear c15
        try clear c15b0
        try clear c16
        try clear c16b0
        try clear c17
        try clear c17b0
        try clear c17b1
        try clear c17b2
        try clear c18
        try clear c21
        try clear c24
        try clear hcz11_0
        try clear hcz11_1
        try clear hcz12_0
        try clear hcz12_1
        try clear hcz19_0
        try clear hcz19_1
        try clear hcz20_0
        try clear hcz20_1
        try clear hcz22_0
        try clear hcz22_1
        try clear hcz23_0
        try clear hcz23_1
        try clear hcz25_0
        try clear hcz25_1
        try clear hcz8_0
        try clear hcz8_1
        try clear hcz9_0
        try clear hcz9_1
        try clear hfz11_0
        try clear hfz11_1
        try clear hfz12_0
        try clear hfz12_1
        try clear hfz19_0
        try clear hfz19_1
        try clear hfz20_0
        try clear hfz20_1
        try clear hfz22_0
        try clear hfz22_1
        try clear hfz23_0
        try clear hfz23_1
        try clear hfz25_0
        try clear hfz25_1
        try clear hfz8_0
        try clear hfz8_1
        try clear hfz9_0
        try clear hfz9_1
        try clear hx774_0
        try clear hx775_0
        try clear p2
        try clear p774
        try clear p775
        try clear q774
        try clear q775
        obtain ⟨x6_3, rfl, HA, HK3, BK772, BK773, HB⟩ := hrel
        cases gk with
        | zero => exact absurd HA.out (by simp [spec_EqualDfa.l1])
        | succ k3 =>
         have H := HA.out
         clear HA
         simp only [spec_EqualDfa.l1] at H
         by_cases c26 : x6_3 < (l0_1.length : Int)
         ·rw [if_pos c26] at H
          have c26b0 : decide (x6_3 < (l0_1.length : Int)) = true := decide_eq_true c26
          clear c26
          by_cases c27 : 0 ≤ x6_3
          ·rw [if_pos c27] at H
           have c27b0 : decide (0 ≤ x6_3) = true := decide_eq_true c27
           clear c27
           by_cases c28 : x6_3 < (l1_1.length : Int)
           ·rw [if_pos c28] at H
            have c28b0 : decide (x6_3 < (l1_1.length : Int)) = true := decide_eq_true c28
            clear c28
            replace H := Option.bind_eq_some_iff.mp H
            obtain ⟨t778, A290, H⟩ := H
            have A29 := am_ A290
            clear A290
            by_cases c30 : t778 = true
            ·subst c30
             have H1 : (spec_EqualDfa.l1 k3 (wrap64 (x6_3 + 1)) l0_0 l0_1 l1_0 l1_1) = some r := by rw [if_pos rfl] at H; exact H
             clear H
             have H := H1
             clear H1
             have H' := am_ H
             clear H
             have hnb31 := NB772_773.out
             have hnc31 := NB773_772.out
             have hcz32_0 : wr.cell? ⟨gb772, 0, none⟩ = some (.slice A0_0 l0_0.length c0_0) := (blk_cell BK772.out 0).trans rfl
             have hcz32_1 : wr.cell? ⟨gb772, 1, none⟩ = some (.slice A0_1 l0_1.length c0_1) := (blk_cell BK772.out 1).trans rfl
             have hfz32_0 := blk_frozen BK772.out 0
             have hfz32_1 := blk_frozen BK772.out 1
             have p776 : 0 ≤ (x6_3 : Int) := of_decide_eq_true ah_
             have q776 : x6_3 < (l0_1.length : Int) := of_decide_eq_true ah_
             obtain ⟨ad776, A776_0, c776_0, e776, hx776_0, hl776_0, hi776_0⟩ := at_L1 HR0_1.out x6_3 p776 q776
             cases e776
             replace hx776_0 := (HB.out.cell (World.block_lt_of_cell? w _ hx776_0)).trans hx776_0
             have HR776_0 := am_ hi776_0
             have HC776_0 := am_ hl776_0
             clear hi776_0 hl776_0
             replace p776 := eq_true p776
             replace q776 := eq_true q776
             have hcz33_0 : wr.cell? ⟨gb773, 0, none⟩ = some (.slice A1_0 l1_0.length c1_0) := (blk_cell BK773.out 0).trans rfl
             have hcz33_1 : wr.cell? ⟨gb773, 1, none⟩ = some (.slice A1_1 l1_1.length c1_1) := (blk_cell BK773.out 1).trans rfl
             have hfz33_0 := blk_frozen BK773.out 0
             have hfz33_1 := blk_frozen BK773.out 1
             have p777 : 0 ≤ (x6_3 : Int) := of_decide_eq_true ah_
             have q777 : x6_3 < (l1_1.length : Int) := of_decide_eq_true ah_
             obtain ⟨ad777, A777_0, c777_0, e777, hx777_0, hl777_0, hi777_0⟩ := at_L1 HR1_1.out x6_3 p777 q777
             cases e777
             replace hx777_0 := (HB.out.cell (World.block_lt_of_cell? w _ hx777_0)).trans hx777_0
             have HR777_0 := am_ hi777_0
             have HC777_0 := am_ hl777_0
             clear hi777_0 hl777_0
             replace p777 := eq_true p777
             replace q777 := eq_true q777
             go_wp2_with (first | (go_at_call 93; (with_reducible refine (spec_l5Ints.calls k3 _ _ (rd_L1 l0_1 x6_3) _ _ (rd_L1 l1_1 x6_3) true _ ?side1 ?side2 ?side3 ?side4 A29.out).mono ?_); (case side1 => exact rc_ (Kd.C_below HR776_0.out HB.out)); (case side2 => exact HC776_0.out); (case side3 => exact rc_ (Kd.C_below HR777_0.out HB.out)); (case side4 => exact HC777_0.out); rintro e w' ⟨rfl, ⟨nd, rfl⟩⟩; (try first | exact ⟨rfl, _, World.drewN_drewN _ _ _⟩ | exact ⟨rfl, _, Eq.trans (World.drewN_drewN _ _ _) (congrArg (World.drewN _) (Nat.add_assoc _ _ _))⟩)))
             repeat (go_quiet (first | (go_at_call 93; (with_reducible refine (spec_l5Ints.calls k3 _ _ (rd_L1 l0_1 x6_3) _ _ (rd_L1 l1_1 x6_3) true _ ?side1 ?side2 ?side3 ?side4 A29.out).mono ?_); (case side1 => exact rc_ (Kd.C_below HR776_0.out HB.out)); (case side2 => exact HC776_0.out); (case side3 => exact rc_ (Kd.C_below HR777_0.out HB.out)); (case side4 => exact HC777_0.out); rintro e w' ⟨rfl, ⟨nd, rfl⟩⟩; (try first | exact ⟨rfl, _, World.drewN_drewN _ _ _⟩ | exact ⟨rfl, _, Eq.trans (World.drewN_drewN _ _ _) (congrArg (World.drewN _) (Nat.add_assoc _ _ _))⟩))); try go_wp2_with (first | (go_at_call 93; (with_reducible refine (spec_l5Ints.calls k3 _ _ (rd_L1 l0_1 x6_3) _ _ (rd_L1 l1_1 x6_3) true _ ?side1 ?side2 ?side3 ?side4 A29.out).mono ?_); (case side1 => exact rc_ (Kd.C_below HR776_0.out HB.out)); (case side2 => exact HC776_0.out); (case side3 => exact rc_ (Kd.C_below HR777_0.out HB.out)); (case side4 => exact HC777_0.out); rintro e w' ⟨rfl, ⟨nd, rfl⟩⟩; (try first | exact ⟨rfl, _, World.drewN_drewN _ _ _⟩ | exact ⟨rfl, _, Eq.trans (World.drewN_drewN _ _ _) (congrArg (World.drewN _) (Nat.add_assoc _ _ _))⟩))))
             go_roundg k3
             case measure => have := HJ2.out; have := HK2.out; have := HK3.out; omega
             case rel => exact ⟨(wrap64 (x6_3 + 1)), (by first | rfl | (simp; done) | (simp [*]; done)), H', ⟨by have := HJ2.out; have := HK2.out; have := HK3.out; omega⟩, ⟨by refine rb_ ?_; exact BK772.out⟩, ⟨by refine rb_ ?_; exact BK773.out⟩, ⟨by exact zp37_0_ HB.out GE772.out GE773.out⟩⟩
            ·replace c30 := Bool.eq_false_iff.mpr c30
             subst c30
             have H1 : (some false) = some r := by rw [if_neg (show ¬ (false = true) by decide)] at H; exact H
             clear H
             have H := H1
             clear H1
             obtain rfl := Option.some.inj H
             simp only [Option.some.injEq, Prod.mk.injEq] at H
             obtain ⟨rfl⟩ := H
             have hnb34 := NB772_773.out
             have hnc34 := NB773_772.out
             have hcz35_0 : wr.cell? ⟨gb772, 0, none⟩ = some (.slice A0_0 l0_0.length c0_0) := (blk_cell BK772.out 0).trans rfl
             have hcz35_1 : wr.cell? ⟨gb772, 1, none⟩ = some (.slice A0_1 l0_1.length c0_1) := (blk_cell BK772.out 1).trans rfl
             have hfz35_0 := blk_frozen BK772.out 0
             have hfz35_1 := blk_frozen BK772.out 1
             have p776 : 0 ≤ (x6_3 : Int) := of_decide_eq_true ah_
             have q776 : x6_3 < (l0_1.length : Int) := of_decide_eq_true ah_
             obtain ⟨ad776, A776_0, c776_0, e776, hx776_0, hl776_0, hi776_0⟩ := at_L1 HR0_1.out x6_3 p776 q776
             cases e776
             replace hx776_0 := (HB.out.cell (World.block_lt_of_cell? w _ hx776_0)).trans hx776_0
             have HR776_0 := am_ hi776_0
             have HC776_0 := am_ hl776_0
             clear hi776_0 hl776_0
             replace p776 := eq_true p776
             replace q776 := eq_true q776
             have hcz36_0 : wr.cell? ⟨gb773, 0, none⟩ = some (.slice A1_0 l1_0.length c1_0) := (blk_cell BK773.out 0).trans rfl
             have hcz36_1 : wr.cell? ⟨gb773, 1, none⟩ = some (.slice A1_1 l1_1.length c1_1) := (blk_cell BK773.out 1).trans rfl
             have hfz36_0 := blk_frozen BK773.out 0
             have hfz36_1 := blk_frozen BK773.out 1
             have p777 : 0 ≤ (x6_3 : Int) := of_decide_eq_true ah_
             have q777 : x6_3 < (l1_1.length : Int) := of_decide_eq_true ah_
             obtain ⟨ad777, A777_0, c777_0, e777, hx777_0, hl777_0, hi777_0⟩ := at_L1 HR1_1.out x6_3 p777 q777
             cases e777
             replace hx777_0 := (HB.out.cell (World.block_lt_of_cell? w _ hx777_0)).trans hx777_0
             have HR777_0 := am_ hi777_0
             have HC777_0 := am_ hl777_0
             clear hi777_0 hl777_0
             replace p777 := eq_true p777
             replace q777 := eq_true q777
             go_wp2_with (first | (go_at_call 93; (with_reducible refine (spec_l5Ints.calls k3 _ _ (rd_L1 l0_1 x6_3) _ _ (rd_L1 l1_1 x6_3) false _ ?side1 ?side2 ?side3 ?side4 A29.out).mono ?_); (case side1 => exact rc_ (Kd.C_below HR776_0.out HB.out)); (case side2 => exact HC776_0.out); (case side3 => exact rc_ (Kd.C_below HR777_0.out HB.out)); (case side4 => exact HC777_0.out); rintro e w' ⟨rfl, ⟨nd, rfl⟩⟩; (try first | exact ⟨rfl, _, World.drewN_drewN _ _ _⟩ | exact ⟨rfl, _, Eq.trans (World.drewN_drewN _ _ _) (congrArg (World.drewN _) (Nat.add_assoc _ _ _))⟩)))
             repeat (go_quiet (first | (go_at_call 93; (with_reducible refine (spec_l5Ints.calls k3 _ _ (rd_L1 l0_1 x6_3) _ _ (rd_L1 l1_1 x6_3) false _ ?side1 ?side2 ?side3 ?side4 A29.out).mono ?_); (case side1 => exact rc_ (Kd.C_below HR776_0.out HB.out)); (case side2 => exact HC776_0.out); (case side3 => exact rc_ (Kd.C_below HR777_0.out HB.out)); (case side4 => exact HC777_0.out); rintro e w' ⟨rfl, ⟨nd, rfl⟩⟩; (try first | exact ⟨rfl, _, World.drewN_drewN _ _ _⟩ | exact ⟨rfl, _, Eq.trans (World.drewN_drewN _ _ _) (congrArg (World.drewN _) (Nat.add_assoc _ _ _))⟩))); try go_wp2_with (first | (go_at_call 93; (with_reducible refine (spec_l5Ints.calls k3 _ _ (rd_L1 l0_1 x6_3) _ _ (rd_L1 l1_1 x6_3) false _ ?side1 ?side2 ?side3 ?side4 A29.out).mono ?_); (case side1 => exact rc_ (Kd.C_below HR776_0.out HB.out)); (case side2 => exact HC776_0.out); (case side3 => exact rc_ (Kd.C_below HR777_0.out HB.out)); (case side4 => exact HC777_0.out); rintro e w' ⟨rfl, ⟨nd, rfl⟩⟩; (try first | exact ⟨rfl, _, World.drewN_drewN _ _ _⟩ | exact ⟨rfl, _, Eq.trans (World.drewN_drewN _ _ _) (congrArg (World.drewN _) (Nat.add_assoc _ _ _))⟩))))
             go_ret
             exact ⟨by first | rfl | (simp [errW_none, errW_some] <;> rfl) | (simp [*, errW_none, errW_some] <;> rfl), by exact zp37_0_ HB.out GE772.out GE773.out⟩
           ·rw [if_neg c28] at H
            exact absurd H (by simp)
          ·rw [if_neg c27] at H
           exact absurd H (by simp)
         ·rw [if_neg c26] at H
          have c26b0 : decide (x6_3 < (l0_1.length : Int)) = false := decide_eq_false c26
          clear c26
          obtain rfl := Option.some.inj H
          simp only [Option.some.injEq, Prod.mk.injEq] at H
          obtain ⟨rfl⟩ := H
          have hnb37 := NB772_773.out
          have hnc37 := NB773_772.out
          have hcz38_0 : wr.cell? ⟨gb772, 0, none⟩ = some (.slice A0_0 l0_0.length c0_0) := (blk_cell BK772.out 0).trans rfl
          have hcz38_1 : wr.cell? ⟨gb772, 1, none⟩ = some (.slice A0_1 l0_1.length c0_1) := (blk_cell BK772.out 1).trans rfl
          have hfz38_0 := blk_frozen BK772.out 0
          have hfz38_1 := blk_frozen BK772.out 1
          go_wp2
          repeat (go_quiet (fail); try go_wp2)
          go_ret
          exact ⟨by first | rfl | (simp [errW_none, errW_some] <;> rfl) | (simp [*, errW_none, errW_some] <;> rfl), by exact zp37_0_ HB.out GE772.out GE773.out⟩
end Go.Proofs.Ytogamkblkoobkaa.P
end
section
namespace Go.Proofs.Ytogamkblkoobkaa.P
open Go.RowKit Go.Proofs.YtogamkblkoobkaaW.PrintWords Go.Proofs.YtogamkblkoobkaaW.PrintLast Go.Proofs.YtogamkblkoobkaaW.PrintMore
attribute [local go_sem] max2_int min2_int max_two min_two max_three min_three max_four min_four
set_option linter.unusedVariables false
set_option linter.unusedSimpArgs false
end Go.Proofs.Ytogamkblkoobkaa.P
end
section
namespace Go.Proofs.Ytogamkblkoobkaa.P
open Go.RowKit Go.Proofs.YtogamkblkoobkaaW.PrintWords Go.Proofs.YtogamkblkoobkaaW.PrintLast Go.Proofs.YtogamkblkoobkaaW.PrintMore
attribute [local go_sem] max2_int min2_int max_two min_two max_three min_three max_four min_four
set_option linter.unusedVariables false
set_option linter.unusedSimpArgs false
end Go.Proofs.Ytogamkblkoobkaa.P
end
section
namespace Go.Proofs
open Go.Shelf
def Try.lays137_ren : Go.Shelf.Ren := ⟨fun | 137 => 122 | 217 => 132 | 266 => 134 | n => n, fun | 9 => 9 | 5 => 5 | 3 => 3 | n => n, fun | n => n⟩
theorem Try.lays137 : Go.Proofs.Lays.n137 Try.prog Try.lays137_ren := {
  mixed := by kernel_rfl
  f137 := Try.func122.trans (congrArg some (by kernel_rfl))
  f217 := Try.func132.trans (congrArg some (by kernel_rfl))
  f266 := Try.func134.trans (congrArg some (by kernel_rfl))
  t3 := Try.underlying3
  a3 := Try.isAgg3
  z3 := Try.sizeOf3
  v3 := Try.zeroValue3
  t5 := Try.underlying5
  a5 := Try.isAgg5
  z5 := Try.sizeOf5
  v5 := Try.zeroValue5
  t9 := Try.underlying9
  a9 := Try.isAgg9
  z9 := Try.sizeOf9
  v9 := Try.zeroValue9 }
open Go.RowKit in
theorem Try.strings_IndexByte (s : ByteArray) (c : Int) (w : World) :
    Calls Try.prog 122 #[.string s, .int .u8 c] w fun e w' => e = .returned (.int .i64 (Lib.indexByte s.data.toList c.toNat.toUInt8)) ∧ w' = w := Any.strings_IndexByte Try.lays137 s c w
end Go.Proofs
end
section
namespace Go.Proofs.Ytogamkblkoobkaa.P
open Go.RowKit Go.Proofs.YtogamkblkoobkaaW.PrintWords Go.Proofs.YtogamkblkoobkaaW.PrintLast Go.Proofs.YtogamkblkoobkaaW.PrintMore
attribute [local go_sem] max2_int min2_int max_two min_two max_three min_three max_four min_four
set_option linter.unusedVariables false
set_option linter.unusedSimpArgs false
def strings_IndexByte.f (a0 : ByteArray) (a1 : Int) : Option (Int) := some (Lib.indexByte a0.data.toList a1.toNat.toUInt8)
theorem strings_IndexByte.calls (a0 : ByteArray) (a1 : Int) (r : Int) (w : World) (h : strings_IndexByte.f a0 a1 = some r) :
    Calls Try.prog 122 #[.string a0, .int .u8 a1] w fun e w' => e = .returned (.int .i64 r) ∧ Drawn0 w w' := by
  refine (Try.strings_IndexByte a0 a1 w).mono ?_
  rintro e w' ⟨rfl, rfl⟩
  obtain rfl := Option.some.inj h
  exact ⟨rfl, Drawn0.refl _⟩
def impl_LetterIndex.f (a0 : Int) : Option (Int) := (strings_IndexByte.f (⟨#[97, 98, 99]⟩ : ByteArray) a0).bind fun t319 => (some t319)
set_option maxHeartbeats 8000000 in
set_option maxRecDepth 100000 in
theorem impl_LetterIndex.calls (a0 : Int) (r : Int) (w : World) (h : impl_LetterIndex.f a0 = some r) :
    Calls Try.prog 72 #[.int .u8 a0] w fun e w' => e = .returned (.int .i64 r) ∧ Drawn0 w w' := by
  have H : ((strings_IndexByte.f (⟨#[97, 98, 99]⟩ : ByteArray) a0).bind fun t319 => (some t319)) = some r := h
  clear h
  replace H := Option.bind_eq_some_iff.mp H
  obtain ⟨t319, A20, H⟩ := H
  replace H : (some t319) = some r := H
  have A2 := am_ A20
  clear A20
  obtain rfl := Option.some.inj H
  simp only [Option.some.injEq, Prod.mk.injEq] at H
  obtain ⟨rfl⟩ := H
  go_enter Try.func72, Try.ntmps72
  go_wp2_with (first | ((with_reducible refine gate_callee (f := 122) rfl ?_); refine gL_ (some 4) Try.func122 #[.string (⟨#[97, 98, 99]⟩ : ByteArray), .int .u8 a0] ?_; (with_reducible refine (strings_IndexByte.calls (⟨#[97, 98, 99]⟩ : ByteArray) a0 t319 _ A2.out).mono ?_); rintro e w' ⟨rfl, ⟨nd, rfl⟩⟩; refine ⟨_, rfl, ?_⟩))
  go_ret
  exact ⟨by first | rfl | (simp; done) | (simp [*]; done), by repeat (first | exact Drawn0.refl _ | apply Drawn0.step)⟩
def impl_isLetters.l0 : Nat → ByteArray → Int → Option (Bool)
  | 0, _, _ => none
  | k + 1, x0, x3 => if x3 < (x0.size : Int) then (if 0 ≤ x3 then ((impl_LetterIndex.f (bt x0 x3)).bind fun t320 => (if t320 < 0 then (some false) else (impl_isLetters.l0 k x0 (wrap64 (x3 + 1))))) else (none)) else (some true)
def impl_isLetters.f (k : Nat) (a0 : ByteArray) : Option (Bool) := impl_isLetters.l0 k a0 0
theorem impl_isLetters.mono_l : ∀ k, (∀ y0 y1, LeO (impl_isLetters.l0 k y0 y1) (impl_isLetters.l0 (k + 1) y0 y1))
  | 0 => fun _ _ r h => by simp [impl_isLetters.l0] at h
  | k + 1 => by
    have ih0 := impl_isLetters.mono_l k
    · intro y0 y1
      unfold impl_isLetters.l0
      repeat' first
      | (with_reducible exact ih0 _ _)
      | (with_reducible exact LeO.refl _)
      | (with_reducible exact LeO.none _)
      | (with_reducible refine LeO.ite ?_ ?_)
      | (with_reducible refine LeO.bind ?_ (fun _ => ?_))
      | exact ih0 _ _
      | exact LeO.none _
      | refine LeO.ite ?_ ?_
      | refine LeO.bind ?_ (fun _ => ?_)
theorem impl_isLetters.mono : ∀ a0 k, LeO (impl_isLetters.f k a0) (impl_isLetters.f (k + 1) a0) := by
  intro a0 k
  have ih0 := impl_isLetters.mono_l k
  unfold impl_isLetters.f
  repeat' first
      | (with_reducible exact ih0 _ _)
      | (with_reducible exact LeO.refl _)
      | (with_reducible exact LeO.none _)
      | (with_reducible refine LeO.ite ?_ ?_)
      | (with_reducible refine LeO.bind ?_ (fun _ => ?_))
      | exact ih0 _ _
      | exact LeO.none _
      | refine LeO.ite ?_ ?_
      | refine LeO.bind ?_ (fun _ => ?_)
set_option maxHeartbeats 8000000 in
set_option maxRecDepth 100000 in
theorem impl_isLetters.calls (k : Nat) (a0 : ByteArray) (r : Bool) (w : World) (h : impl_isLetters.f k a0 = some r) :
    Calls Try.prog 121 #[.string a0] w fun e w' => e = .returned (.bool r) ∧ Drawn0 w w' := by
  have H : (impl_isLetters.l0 k a0 0) = some r := h
  clear h
  have H' := am_ H
  clear H
  go_enter Try.func121, Try.ntmps121
  go_wp2
  go_loopg [3] k (fun kq v3 w' => ∃ (x3_1 : Int), v3 = .int .i64 x3_1 ∧ Aside0 (impl_isLetters.l0 kq a0 x3_1 = some r) ∧ Aside0 (kq ≤ k) ∧ Drawn0 w w')
  case atStart => exact ⟨(0), (by first | rfl | (simp; done) | (simp [*]; done)), H', ⟨Nat.le_refl _⟩, by repeat (first | exact Drawn0.refl _ | apply Drawn0.step)⟩
  case round =>
    clear H'
    try clear c1
    obtain ⟨x3_1, rfl, HA, HK1, ⟨m1, rfl⟩⟩ := hrel
    cases gk with
    | zero => exact absurd HA.out (by simp [impl_isLetters.l0])
    | succ k1 =>
      have H := HA.out
      clear HA
      simp only [impl_isLetters.l0] at H
      by_cases c2 : x3_1 < (a0.size : Int)
      · rw [if_pos c2] at H
        have c2b0 : decide (x3_1 < (a0.size : Int)) = true := decide_eq_true c2
        clear c2
        by_cases c3 : 0 ≤ x3_1
        · rw [if_pos c3] at H
          have c3b0 : decide (0 ≤ x3_1) = true := decide_eq_true c3
          clear c3
          replace H := Option.bind_eq_some_iff.mp H
          obtain ⟨t320, A50, H⟩ := H
          have A5 := am_ A50
          clear A50
          by_cases c6 : t320 < 0
          · rw [if_pos c6] at H
            have c6b0 : decide (t320 < 0) = true := decide_eq_true c6
            clear c6
            obtain rfl := Option.some.inj H
            simp only [Option.some.injEq, Prod.mk.injEq] at H
            obtain ⟨rfl⟩ := H
            have p4 : 0 ≤ (x3_1 : Int) := of_decide_eq_true ah_
            have q4 : x3_1 < (a0.size : Int) := of_decide_eq_true ah_
            have hx4 := bt_at a0 x3_1
            replace p4 := eq_true p4
            replace q4 := eq_true q4
            go_wp2_with (first | ((with_reducible refine gate_callee (f := 72) rfl ?_); refine gL_ (some 13) Try.func72 #[.int .u8 (bt a0 x3_1)] ?_; (with_reducible refine (impl_LetterIndex.calls (bt a0 x3_1) t320 _ A5.out).mono ?_); rintro e w' ⟨rfl, ⟨nd, rfl⟩⟩; refine ⟨_, rfl, ?_⟩))
            go_ret
            exact ⟨by first | rfl | (simp; done) | (simp [*]; done), by repeat (first | exact Drawn0.refl _ | apply Drawn0.step)⟩
          · rw [if_neg c6] at H
            have c6b0 : decide (t320 < 0) = false := decide_eq_false c6
            clear c6
            have H' := am_ H
            clear H
            have p4 : 0 ≤ (x3_1 : Int) := of_decide_eq_true ah_
            have q4 : x3_1 < (a0.size : Int) := of_decide_eq_true ah_
            have hx4 := bt_at a0 x3_1
            replace p4 := eq_true p4
            replace q4 := eq_true q4
            go_wp2_with (first | ((with_reducible refine gate_callee (f := 72) rfl ?_); refine gL_ (some 13) Try.func72 #[.int .u8 (bt a0 x3_1)] ?_; (with_reducible refine (impl_LetterIndex.calls (bt a0 x3_1) t320 _ A5.out).mono ?_); rintro e w' ⟨rfl, ⟨nd, rfl⟩⟩; refine ⟨_, rfl, ?_⟩))
            go_roundg k1
            case measure => have := HK1.out; omega
            case rel => exact ⟨(wrap64 (x3_1 + 1)), (by first | rfl | (simp; done) | (simp [*]; done)), H', ⟨by have := HK1.out; omega⟩, by repeat (first | exact Drawn0.refl _ | apply Drawn0.step)⟩
        · rw [if_neg c3] at H
          exact absurd H (by simp)
      · rw [if_neg c2] at H
        have c2b0 : decide (x3_1 < (a0.size : Int)) = false := decide_eq_false c2
        clear c2
        obtain rfl := Option.some.inj H
        simp only [Option.some.injEq, Prod.mk.injEq] at H
        obtain ⟨rfl⟩ := H
        go_wp2
        go_ret
        exact ⟨by first | rfl | (simp; done) | (simp [*]; done), by repeat (first | exact Drawn0.refl _ | apply Drawn0.step)⟩
def impl_IsWord.f (k : Nat) (a0 : ByteArray) : Option (Bool) := if (a0.size : Int) ≤ 30 then ((impl_isLetters.f k a0).bind fun t321 => (some t321)) else (some false)
theorem impl_IsWord.mono : ∀ a0 k, LeO (impl_IsWord.f k a0) (impl_IsWord.f (k + 1) a0) := by
  intro a0 k
  unfold impl_IsWord.f
  repeat' first
      | (with_reducible exact impl_isLetters.mono _ _)
      | (with_reducible exact LeO.refl _)
      | (with_reducible exact LeO.none _)
      | (with_reducible refine LeO.ite ?_ ?_)
      | (with_reducible refine LeO.bind ?_ (fun _ => ?_))
      | exact impl_isLetters.mono _ _
      | exact LeO.none _
      | refine LeO.ite ?_ ?_
      | refine LeO.bind ?_ (fun _ => ?_)
set_option maxHeartbeats 8000000 in
set_option maxRecDepth 100000 in
theorem impl_IsWord.calls (k : Nat) (a0 : ByteArray) (r : Bool) (w : World) (h : impl_IsWord.f k a0 = some r) :
    Calls Try.prog 71 #[.string a0] w fun e w' => e = .returned (.bool r) ∧ Drawn0 w w' := by
  have H : (if (a0.size : Int) ≤ 30 then ((impl_isLetters.f k a0).bind fun t321 => (some t321)) else (some false)) = some r := h
  clear h
  by_cases c2 : (a0.size : Int) ≤ 30
  · rw [if_pos c2] at H
    have c2b0 : decide ((a0.size : Int) ≤ 30) = true := decide_eq_true c2
    have c2b1 : decide (a0.size ≤ 30) = true := decide_eq_true (by omega)
    clear c2
    replace H := Option.bind_eq_some_iff.mp H
    obtain ⟨t321, A30, H⟩ := H
    replace H : (some t321) = some r := H
    have A3 := am_ A30
    clear A30
    obtain rfl := Option.some.inj H
    simp only [Option.some.injEq, Prod.mk.injEq] at H
    obtain ⟨rfl⟩ := H
    go_enter Try.func71, Try.ntmps71
    go_wp2_with (first | (go_at_call 121; (with_reducible refine (impl_isLetters.calls k a0 t321 _ A3.out).mono ?_); rintro e w' ⟨rfl, ⟨nd, rfl⟩⟩))
    go_ret
    exact ⟨by first | rfl | (simp; done) | (simp [*]; done), by repeat (first | exact Drawn0.refl _ | apply Drawn0.step)⟩
  · rw [if_neg c2] at H
    have c2b0 : decide ((a0.size : Int) ≤ 30) = false := decide_eq_false c2
    have c2b1 : decide (a0.size ≤ 30) = false := decide_eq_false (by omega)
    clear c2
    obtain rfl := Option.some.inj H
    simp only [Option.some.injEq, Prod.mk.injEq] at H
    obtain ⟨rfl⟩ := H
    go_enter Try.func71, Try.ntmps71
    go_wp2
    go_ret
    exact ⟨by first | rfl | (simp; done) | (simp [*]; done), by repeat (first | exact Drawn0.refl _ | apply Drawn0.step)⟩
end Go.Proofs.Ytogamkblkoobkaa.P
end
section
namespace Go.Proofs.Ytogamkblkoobkaa.P
open Go.RowKit Go.Proofs.YtogamkblkoobkaaW.PrintWords Go.Proofs.YtogamkblkoobkaaW.PrintLast Go.Proofs.YtogamkblkoobkaaW.PrintMore
attribute [local go_sem] max2_int min2_int max_two min_two max_three min_three max_four min_four
set_option linter.unusedVariables false
set_option linter.unusedSimpArgs false
def impl_after.l0 : Nat → Int → ByteArray → Int → List Bool → List (List Int) → Option (Int)
  | 0, _, _, _, _, _ => none
  | k + 1, x1, x2, x7, x780000, x780001 => if x7 < (x2.size : Int) then (if 0 ≤ x1 then (if x1 < (x780001.length : Int) then (if 0 ≤ x7 then ((impl_LetterIndex.f (bt x2 x7)).bind fun t781 => (if 0 ≤ t781 then (if t781 < ((rd_L1 x780001 x1).length : Int) then (impl_after.l0 k (rd (rd_L1 x780001 x1) t781) x2 (wrap64 (x7 + 1)) x780000 x780001) else (none)) else (none))) else (none)) else (none)) else (none)) else (some x1)
def impl_after.f (k : Nat) (l0_0 : List Bool) (l0_1 : List (List Int)) (a1 : Int) (a2 : ByteArray) : Option (Int) := impl_after.l0 k a1 a2 0 l0_0 l0_1
theorem impl_after.mono_l : ∀ k, (∀ y0 y1 y2 y3 y4, LeO (impl_after.l0 k y0 y1 y2 y3 y4) (impl_after.l0 (k + 1) y0 y1 y2 y3 y4))
  | 0 => fun _ _ _ _ _ r h => by simp [impl_after.l0] at h
  | k + 1 => by
    have ih0 := impl_after.mono_l k
    · intro y0 y1 y2 y3 y4
      unfold impl_after.l0
      repeat' first
      | (with_reducible exact ih0 _ _ _ _ _)
      | (with_reducible exact LeO.refl _)
      | (with_reducible exact LeO.none _)
      | (with_reducible refine LeO.ite ?_ ?_)
      | (with_reducible refine LeO.bind ?_ (fun _ => ?_))
      | exact ih0 _ _ _ _ _
      | exact LeO.none _
      | refine LeO.ite ?_ ?_
      | refine LeO.bind ?_ (fun _ => ?_)
theorem impl_after.mono : ∀ a0 a1 a2 a3 k, LeO (impl_after.f k a0 a1 a2 a3) (impl_after.f (k + 1) a0 a1 a2 a3) := by
  intro a0 a1 a2 a3 k
  have ih0 := impl_after.mono_l k
  unfold impl_after.f
  repeat' first
      | (with_reducible exact ih0 _ _ _ _ _)
      | (with_reducible exact LeO.refl _)
      | (with_reducible exact LeO.none _)
      | (with_reducible refine LeO.ite ?_ ?_)
      | (with_reducible refine LeO.bind ?_ (fun _ => ?_))
      | exact ih0 _ _ _ _ _
      | exact LeO.none _
      | refine LeO.ite ?_ ?_
      | refine LeO.bind ?_ (fun _ => ?_)
theorem zp38_0_ {p q g1 : Prop} (h : p) (h1 : g1) (c : p → g1 → q := by intro h_ h1_; repeat (first | (with_reducible first | exact h_ | apply below_alloc | apply pw_below_drewN | apply below_drew1 | refine below_set ?_ h1_) | exact h_)) : q := c h h1
set_option maxHeartbeats 8000000 in
set_option maxRecDepth 100000 in
theorem impl_after.calls (k : Nat) (A0_0 : Option Addr) (c0_0 : Nat) (l0_0 : List Bool) (A0_1 : Option Addr) (c0_1 : Nat) (l0_1 : List (List Int)) (a1 : Int) (a2 : ByteArray) (r : Int) (w : World) (hr0_0 : Kd.C Kd.bool w A0_0 l0_0.length l0_0) (hc0_0 : l0_0.length ≤ c0_0) (hr0_1 : Kd.C (Kd.slice 3 (Kd.int .i64)) w A0_1 l0_1.length l0_1) (hc0_1 : l0_1.length ≤ c0_1) (h : impl_after.f k l0_0 l0_1 a1 a2 = some r) :
    Calls Try.prog 109 #[.agg #[.slice A0_0 l0_0.length c0_0, .slice A0_1 l0_1.length c0_1], .int .i64 a1, .string a2] w fun e w' => e = .returned (.int .i64 r) ∧ Below w.heap.size w w' := by
  have hu27 := Try.underlying27
  have HR0_0 := am_ hr0_0
  have HC0_0 := am_ hc0_0
  clear hr0_0 hc0_0
  have HR0_1 := am_ hr0_1
  have HC0_1 := am_ hc0_1
  clear hr0_1 hc0_1
  have HB := am_ (Below.refl w.heap.size w)
  have H : (impl_after.l0 k a1 a2 0 l0_0 l0_1) = some r := h
  clear h
  have H' := am_ H
  clear H
  go_enter Try.func109, Try.ntmps109
  go_wp2_with (first | ((with_reducible refine gate_dst (N := 3) rfl ?_); refine box_event ?hg (N := 3) ?hd (cs := #[.slice A0_0 l0_0.length c0_0, .slice A0_1 l0_1.length c0_1]) (t := 27) ?hr ?_; (case hd => rfl); (case hg => rfl); (case hr => first | (go_simp; done) | (go_simp; rfl)); intro gb779 hg w4 hbox hb; replace BK779 := am_ (hbox); replace GW779 := am_ ((by rw [hg]; exact (below_size (b0_ HB.out)) : w.heap.size ≤ gb779)); replace GE779 := am_ ((by rw [hg]; exact (below_size (b0_ HB.out)) : w.heap.size ≤ gb779)); replace HB := am_ (below_step (b0_ HB.out) hb); clear hb hbox hg))
  repeat (go_quiet (first | ((with_reducible refine gate_dst (N := 3) rfl ?_); refine box_event ?hg (N := 3) ?hd (cs := #[.slice A0_0 l0_0.length c0_0, .slice A0_1 l0_1.length c0_1]) (t := 27) ?hr ?_; (case hd => rfl); (case hg => rfl); (case hr => first | (go_simp; done) | (go_simp; rfl)); intro gb779 hg w4 hbox hb; replace BK779 := am_ (hbox); replace GW779 := am_ ((by rw [hg]; exact (below_size (b0_ HB.out)) : w.heap.size ≤ gb779)); replace GE779 := am_ ((by rw [hg]; exact (below_size (b0_ HB.out)) : w.heap.size ≤ gb779)); replace HB := am_ (below_step (b0_ HB.out) hb); clear hb hbox hg)); try go_wp2_with (first | ((with_reducible refine gate_dst (N := 3) rfl ?_); refine box_event ?hg (N := 3) ?hd (cs := #[.slice A0_0 l0_0.length c0_0, .slice A0_1 l0_1.length c0_1]) (t := 27) ?hr ?_; (case hd => rfl); (case hg => rfl); (case hr => first | (go_simp; done) | (go_simp; rfl)); intro gb779 hg w4 hbox hb; replace BK779 := am_ (hbox); replace GW779 := am_ ((by rw [hg]; exact (below_size (b0_ HB.out)) : w.heap.size ≤ gb779)); replace GE779 := am_ ((by rw [hg]; exact (below_size (b0_ HB.out)) : w.heap.size ≤ gb779)); replace HB := am_ (below_step (b0_ HB.out) hb); clear hb hbox hg)))
  go_loopg [1, 7] k (fun kq v1 v7 w' => ∃ (x1_1 : Int) (x7_1 : Int), v1 = .int .i64 x1_1 ∧ v7 = .int .i64 x7_1 ∧ Aside0 (impl_after.l0 kq x1_1 a2 x7_1 l0_0 l0_1 = some r) ∧ Aside0 (kq ≤ k) ∧ Aside0 (w'.heap[gb779]? = some (.cells #[(.slice A0_0 l0_0.length c0_0), (.slice A0_1 l0_1.length c0_1)] 27 (0, 0))) ∧ Aside0 (Below w.heap.size w w'))
  case atStart => exact ⟨(a1), (0), (by first | rfl | (simp; done) | (simp [*]; done)), (by first | rfl | (simp; done) | (simp [*]; done)), H', ⟨Nat.le_refl _⟩, ⟨by refine rb_ ?_; exact BK779.out⟩, ⟨by exact zp38_0_ HB.out GE779.out⟩⟩
  case round =>
    clear H'
    try clear c1
    try clear p2
    obtain ⟨x1_1, x7_1, rfl, rfl, HA, HK1, BK779, HB⟩ := hrel
    cases gk with
    | zero => exact absurd HA.out (by simp [impl_after.l0])
    | succ k1 =>
      have H := HA.out
      clear HA
      simp only [impl_after.l0] at H
      by_cases c5 : x7_1 < (a2.size : Int)
      · rw [if_pos c5] at H
        have c5b0 : decide (x7_1 < (a2.size : Int)) = true := decide_eq_true c5
        clear c5
        by_cases c6 : 0 ≤ x1_1
        · rw [if_pos c6] at H
          have c6b0 : decide (0 ≤ x1_1) = true := decide_eq_true c6
          clear c6
          by_cases c7 : x1_1 < (l0_1.length : Int)
          · rw [if_pos c7] at H
            have c7b0 : decide (x1_1 < (l0_1.length : Int)) = true := decide_eq_true c7
            clear c7
            by_cases c8 : 0 ≤ x7_1
            · rw [if_pos c8] at H
              have c8b0 : decide (0 ≤ x7_1) = true := decide_eq_true c8
              clear c8
              replace H := Option.bind_eq_some_iff.mp H
              obtain ⟨t781, A100, H⟩ := H
              have A10 := am_ A100
              clear A100
              by_cases c11 : 0 ≤ t781
              · rw [if_pos c11] at H
                have c11b0 : decide (0 ≤ t781) = true := decide_eq_true c11
                clear c11
                by_cases c12 : t781 < ((rd_L1 l0_1 x1_1).length : Int)
                · rw [if_pos c12] at H
                  have c12b0 : decide (t781 < ((rd_L1 l0_1 x1_1).length : Int)) = true := decide_eq_true c12
                  clear c12
                  have H' := am_ H
                  clear H
                  have hcz13_0 : wr.cell? ⟨gb779, 0, none⟩ = some (.slice A0_0 l0_0.length c0_0) := (blk_cell BK779.out 0).trans rfl
                  have hcz13_1 : wr.cell? ⟨gb779, 1, none⟩ = some (.slice A0_1 l0_1.length c0_1) := (blk_cell BK779.out 1).trans rfl
                  have hfz13_0 := blk_frozen BK779.out 0
                  have hfz13_1 := blk_frozen BK779.out 1
                  have p780 : 0 ≤ (x1_1 : Int) := of_decide_eq_true ah_
                  have q780 : x1_1 < (l0_1.length : Int) := of_decide_eq_true ah_
                  obtain ⟨ad780, A780_0, c780_0, e780, hx780_0, hl780_0, hi780_0⟩ := at_L1 HR0_1.out x1_1 p780 q780
                  cases e780
                  replace hx780_0 := (HB.out.cell (World.block_lt_of_cell? w _ hx780_0)).trans hx780_0
                  have HR780_0 := am_ hi780_0
                  have HC780_0 := am_ hl780_0
                  clear hi780_0 hl780_0
                  replace p780 := eq_true p780
                  replace q780 := eq_true q780
                  have p9 : 0 ≤ (x7_1 : Int) := of_decide_eq_true ah_
                  have q9 : x7_1 < (a2.size : Int) := of_decide_eq_true ah_
                  have hx9 := bt_at a2 x7_1
                  replace p9 := eq_true p9
                  replace q9 := eq_true q9
                  go_wp2_with (first | (go_at_call 72; (with_reducible refine (impl_LetterIndex.calls (bt a2 x7_1) t781 _ A10.out).mono ?_); rintro e w' ⟨rfl, ⟨nd, rfl⟩⟩; (try first | exact ⟨rfl, _, World.drewN_drewN _ _ _⟩ | exact ⟨rfl, _, Eq.trans (World.drewN_drewN _ _ _) (congrArg (World.drewN _) (Nat.add_assoc _ _ _))⟩); have p782 : 0 ≤ (t781 : Int) := of_decide_eq_true ah_; have q782 : t781 < ((rd_L1 l0_1 x1_1).length : Int) := of_decide_eq_true ah_; obtain ⟨ad782, e782, hx782_0⟩ := Kd.at_int HR780_0.out t781 p782 q782; cases e782; replace hx782_0 := (HB.out.cell (World.block_lt_of_cell? w _ hx782_0)).trans hx782_0; replace p782 := eq_true p782; replace q782 := eq_true q782))
                  repeat (go_quiet (first | (go_at_call 72; (with_reducible refine (impl_LetterIndex.calls (bt a2 x7_1) t781 _ A10.out).mono ?_); rintro e w' ⟨rfl, ⟨nd, rfl⟩⟩; (try first | exact ⟨rfl, _, World.drewN_drewN _ _ _⟩ | exact ⟨rfl, _, Eq.trans (World.drewN_drewN _ _ _) (congrArg (World.drewN _) (Nat.add_assoc _ _ _))⟩); have p782 : 0 ≤ (t781 : Int) := of_decide_eq_true ah_; have q782 : t781 < ((rd_L1 l0_1 x1_1).length : Int) := of_decide_eq_true ah_; obtain ⟨ad782, e782, hx782_0⟩ := Kd.at_int HR780_0.out t781 p782 q782; cases e782; replace hx782_0 := (HB.out.cell (World.block_lt_of_cell? w _ hx782_0)).trans hx782_0; replace p782 := eq_true p782; replace q782 := eq_true q782)); try go_wp2_with (first | (go_at_call 72; (with_reducible refine (impl_LetterIndex.calls (bt a2 x7_1) t781 _ A10.out).mono ?_); rintro e w' ⟨rfl, ⟨nd, rfl⟩⟩; (try first | exact ⟨rfl, _, World.drewN_drewN _ _ _⟩ | exact ⟨rfl, _, Eq.trans (World.drewN_drewN _ _ _) (congrArg (World.drewN _) (Nat.add_assoc _ _ _))⟩); have p782 : 0 ≤ (t781 : Int) := of_decide_eq_true ah_; have q782 : t781 < ((rd_L1 l0_1 x1_1).length : Int) := of_decide_eq_true ah_; obtain ⟨ad782, e782, hx782_0⟩ := Kd.at_int HR780_0.out t781 p782 q782; cases e782; replace hx782_0 := (HB.out.cell (World.block_lt_of_cell? w _ hx782_0)).trans hx782_0; replace p782 := eq_true p782; replace q782 := eq_true q782)))
                  go_roundg k1
                  case measure => have := HK1.out; omega
                  case rel => exact ⟨(rd (rd_L1 l0_1 x1_1) t781), (wrap64 (x7_1 + 1)), (by first | rfl | (simp; done) | (simp [*]; done)), (by first | rfl | (simp; done) | (simp [*]; done)), H', ⟨by have := HK1.out; omega⟩, ⟨by refine rb_ ?_; exact BK779.out⟩, ⟨by exact zp38_0_ HB.out GE779.out⟩⟩
                · rw [if_neg c12] at H
                  exact absurd H (by simp)
              · rw [if_neg c11] at H
                exact absurd H (by simp)
            · rw [if_neg c8] at H
              exact absurd H (by simp)
          · rw [if_neg c7] at H
            exact absurd H (by simp)
        · rw [if_neg c6] at H
          exact absurd H (by simp)
      · rw [if_neg c5] at H
        have c5b0 : decide (x7_1 < (a2.size : Int)) = false := decide_eq_false c5
        clear c5
        obtain rfl := Option.some.inj H
        simp only [Option.some.injEq, Prod.mk.injEq] at H
        obtain ⟨rfl⟩ := H
        go_wp2
        repeat (go_quiet (fail); try go_wp2)
        go_ret
        exact ⟨by first | rfl | (simp [errW_none, errW_some] <;> rfl) | (simp [*, errW_none, errW_some] <;> rfl), by exact zp38_0_ HB.out GE779.out⟩
def impl_RunDfa.f (k : Nat) (l0_0 : List Bool) (l0_1 : List (List Int)) (a1 : Int) (a2 : ByteArray) : Option (Int × Bool) := (impl_IsValidDfa.f l0_0 l0_1).bind fun t784 => (if t784 = true then ((impl_within.f a1 0 (wrap64 ((l0_0.length : Int) - 1))).bind fun t785 => (if t785 = true then ((impl_IsWord.f k a2).bind fun t786 => (if t786 = true then ((impl_after.f k l0_0 l0_1 a1 a2).bind fun t787 => (some (t787, true))) else (some (0, false)))) else (some (0, false)))) else (some (0, false)))
theorem impl_RunDfa.mono : ∀ a0 a1 a2 a3 k, LeO (impl_RunDfa.f k a0 a1 a2 a3) (impl_RunDfa.f (k + 1) a0 a1 a2 a3) := by
 intro a0 a1 a2 a3 k
 unfold impl_RunDfa.f
 repeat' first
   | (with_reducible exact impl_IsWord.mono _ _)
   | (with_reducible exact impl_after.mono _ _ _ _ _)
   | (with_reducible exact LeO.refl _)
   | (with_reducible exact LeO.none _)
   | (with_reducible refine LeO.ite ?_ ?_)
   | (with_reducible refine LeO.bind ?_ (fun _ => ?_))
   | exact impl_IsWord.mono _ _
   | exact impl_after.mono _ _ _ _ _
   | exact LeO.none _
   | refine LeO.ite ?_ ?_
   | refine LeO.bind ?_ (fun _ => ?_)
set_option maxHeartbeats 8000000 in
set_option maxRecDepth 100000 in
theorem impl_RunDfa.calls (k : Nat) (A0_0 : Option Addr) (c0_0 : Nat) (l0_0 : List Bool) (A0_1 : Option Addr) (c0_1 : Nat) (l0_1 : List (List Int)) (a1 : Int) (a2 : ByteArray) (r1 : Int) (r2 : Bool) (w : World) (hr0_0 : Kd.C Kd.bool w A0_0 l0_0.length l0_0) (hc0_0 : l0_0.length ≤ c0_0) (hr0_1 : Kd.C (Kd.slice 3 (Kd.int .i64)) w A0_1 l0_1.length l0_1) (hc0_1 : l0_1.length ≤ c0_1) (h : impl_RunDfa.f k l0_0 l0_1 a1 a2 = some (r1, r2)) :
  Calls Try.prog 42 #[.agg #[.slice A0_0 l0_0.length c0_0, .slice A0_1 l0_1.length c0_1], .int .i64 a1, .string a2] w fun e w' => e = .returned (.tuple #[.int .i64 r1, .bool r2]) ∧ Below w.heap.size w w' := by
 have hu27 := Try.underlying27
 have HR0_0 := am_ hr0_0
 have HC0_0 := am_ hc0_0
 clear hr0_0 hc0_0
 have HR0_1 := am_ hr0_1
 have HC0_1 := am_ hc0_1
 clear hr0_1 hc0_1
 have HB := am_ (Below.refl w.heap.size w)
 have H : ((impl_IsValidDfa.f l0_0 l0_1).bind fun t784 => (if t784 = true then ((impl_within.f a1 0 (wrap64 ((l0_0.length : Int) - 1))).bind fun t785 => (if t785 = true then ((impl_IsWord.f k a2).bind fun t786 => (if t786 = true then ((impl_after.f k l0_0 l0_1 a1 a2).bind fun t787 => (some (t787, true))) else (some (0, false)))) else (some (0, false)))) else (some (0, false)))) = some (r1, r2) := h
 clear h
 replace H := Option.bind_eq_some_iff.mp H
 obtain ⟨t784, A40, H⟩ := H
 have A4 := am_ A40
 clear A40
 by_cases c5 : t784 = true
 ·subst c5
  have H1 : ((impl_within.f a1 0 (wrap64 ((l0_0.length : Int) - 1))).bind fun t785 => (if t785 = true then ((impl_IsWord.f k a2).bind fun t786 => (if t786 = true then ((impl_after.f k l0_0 l0_1 a1 a2).bind fun t787 => (some (t787, true))) else (some (0, false)))) else (some (0, false)))) = some (r1, r2) := by rw [if_pos rfl] at H; exact H
  clear H
  have H := H1
  clear H1
  replace H := Option.bind_eq_some_iff.mp H
  obtain ⟨t785, A60, H⟩ := H
  have A6 := am_ A60
  clear A60
  by_cases c7 : t785 = true
  ·subst c7
   have H1 : ((impl_IsWord.f k a2).bind fun t786 => (if t786 = true then ((impl_after.f k l0_0 l0_1 a1 a2).bind fun t787 => (some (t787, true))) else (some (0, false)))) = some (r1, r2) := by rw [if_pos rfl] at H; exact H
   clear H
   have H := H1
   clear H1
   replace H := Option.bind_eq_some_iff.mp H
   obtain ⟨t786, A80, H⟩ := H
   have A8 := am_ A80
   clear A80
   by_cases c9 : t786 = true
   ·subst c9
    have H1 : ((impl_after.f k l0_0 l0_1 a1 a2).bind fun t787 => (some (t787, true))) = some (r1, r2) := by rw [if_pos rfl] at H; exact H
    clear H
    have H := H1
    clear H1
    replace H := Option.bind_eq_some_iff.mp H
    obtain ⟨t787, A100, H⟩ := H
    replace H : (some (t787, true)) = some (r1, r2) := H
    have A10 := am_ A100
    clear A100
    simp only [Option.some.injEq, Prod.mk.injEq] at H
    obtain ⟨rfl, rfl⟩ := H
    go_enter Try.func42, Try.ntmps42
    go_wp2_with (first | ((with_reducible refine gate_dst (N := 3) rfl ?_); (try (refine gate_guard (by rfl) ?_; dsimp only)); refine box_event ?hg (N := 3) ?hd (cs := #[.slice A0_0 l0_0.length c0_0, .slice A0_1 l0_1.length c0_1]) (t := 27) ?hr ?_; (case hd => rfl); (case hg => rfl); (case hr => first | (go_simp; done) | (go_simp; rfl)); intro gb783 hg w11 hbox hb; replace BK783 := am_ (hbox); replace GW783 := am_ ((by rw [hg]; exact (below_size (b0_ HB.out)) : w.heap.size ≤ gb783)); replace GE783 := am_ ((by rw [hg]; exact (below_size (b0_ HB.out)) : w.heap.size ≤ gb783)); replace HB := am_ (below_step (b0_ HB.out) hb); clear hb hbox hg; have hcz12_0 : w11.cell? ⟨gb783, 0, none⟩ = some (.slice A0_0 l0_0.length c0_0) := (blk_cell BK783.out 0).trans rfl; have hcz12_1 : w11.cell? ⟨gb783, 1, none⟩ = some (.slice A0_1 l0_1.length c0_1) := (blk_cell BK783.out 1).trans rfl; have hfz12_0 := blk_frozen BK783.out 0; have hfz12_1 := blk_frozen BK783.out 1) | ((with_reducible refine gate_callee (f := 39) rfl ?_); refine gL_ (some 9) Try.func39 #[.agg #[.slice A0_0 l0_0.length c0_0, .slice A0_1 l0_1.length c0_1]] ?_; (with_reducible refine (impl_IsValidDfa.calls _ _ l0_0 _ _ l0_1 true _ ?side1 ?side2 ?side3 ?side4 A4.out).mono ?_); (case side1 => exact rc_ (Kd.C_below HR0_0.out HB.out)); (case side2 => exact HC0_0.out); (case side3 => exact rc_ (Kd.C_below HR0_1.out HB.out)); (case side4 => exact HC0_1.out); rintro e w13 ⟨rfl, hb⟩; refine ⟨_, rfl, ?_⟩; have n0_ := am_ (blk_below (rb_ BK783.out) hb); have n1_ := am_ (below_step (b1_ HB.out GE783.out) hb); clear BK783; clear HB; have BK783 := n0_; have HB := n1_; clear n0_ n1_; (try clear hb); (try clear hb2); (try clear hk); (try clear hi); have hcz14_0 : w13.cell? ⟨gb783, 0, none⟩ = some (.slice A0_0 l0_0.length c0_0) := (blk_cell BK783.out 0).trans rfl; have hcz14_1 : w13.cell? ⟨gb783, 1, none⟩ = some (.slice A0_1 l0_1.length c0_1) := (blk_cell BK783.out 1).trans rfl; have hfz14_0 := blk_frozen BK783.out 0; have hfz14_1 := blk_frozen BK783.out 1) | (go_at_call 101; (with_reducible refine (impl_within.calls a1 0 (wrap64 ((l0_0.length : Int) - 1)) true _ A6.out).mono ?_); rintro e w' ⟨rfl, ⟨nd, rfl⟩⟩) | (go_at_call 71; (with_reducible refine (impl_IsWord.calls k a2 true _ A8.out).mono ?_); rintro e w' ⟨rfl, ⟨nd, rfl⟩⟩) | ((with_reducible refine gate_callee (f := 109) rfl ?_); refine gL_ (some 28) Try.func109 #[.agg #[.slice A0_0 l0_0.length c0_0, .slice A0_1 l0_1.length c0_1], .int .i64 a1, .string a2] ?_; (with_reducible refine (impl_after.calls k _ _ l0_0 _ _ l0_1 a1 a2 t787 _ ?side1 ?side2 ?side3 ?side4 A10.out).mono ?_); (case side1 => exact rc_ (Kd.C_below HR0_0.out (b1_ HB.out GE783.out))); (case side2 => exact HC0_0.out); (case side3 => exact rc_ (Kd.C_below HR0_1.out (b1_ HB.out GE783.out))); (case side4 => exact HC0_1.out); rintro e w15 ⟨rfl, hb⟩; refine ⟨_, rfl, ?_⟩; have n0_ := am_ (blk_below (rb_ BK783.out) hb); have n1_ := am_ (below_step (b1_ HB.out GE783.out) hb); clear BK783; clear HB; have BK783 := n0_; have HB := n1_; clear n0_ n1_; (try clear hb); (try clear hb2); (try clear hk); (try clear hi)))
    go_ret2
    exact ⟨by first | rfl | (simp [errW_none, errW_some] <;> rfl) | (simp [*, errW_none, errW_some] <;> rfl), by exact zp38_0_ HB.out GE783.out⟩
   ·replace c9 := Bool.eq_false_iff.mpr c9
    subst c9
    have H1 : (some (0, false)) = some (r1, r2) := by rw [if_neg (show ¬ (false = true) by decide)] at H; exact H
    clear H
    have H := H1
    clear H1
    simp only [Option.some.injEq, Prod.mk.injEq] at H
    obtain ⟨rfl, rfl⟩ := H
    go_enter Try.func42, Try.ntmps42
    go_wp2_with (first | ((with_reducible refine gate_dst (N := 3) rfl ?_); (try (refine gate_guard (by rfl) ?_; dsimp only)); refine box_event ?hg (N := 3) ?hd (cs := #[.slice A0_0 l0_0.length c0_0, .slice A0_1 l0_1.length c0_1]) (t := 27) ?hr ?_; (case hd => rfl); (case hg => rfl); (case hr => first | (go_simp; done) | (go_simp; rfl)); intro gb783 hg w16 hbox hb; replace BK783 := am_ (hbox); replace GW783 := am_ ((by rw [hg]; exact (below_size (b0_ HB.out)) : w.heap.size ≤ gb783)); replace GE783 := am_ ((by rw [hg]; exact (below_size (b0_ HB.out)) : w.heap.size ≤ gb783)); replace HB := am_ (below_step (b0_ HB.out) hb); clear hb hbox hg; have hcz17_0 : w16.cell? ⟨gb783, 0, none⟩ = some (.slice A0_0 l0_0.length c0_0) := (blk_cell BK783.out 0).trans rfl; have hcz17_1 : w16.cell? ⟨gb783, 1, none⟩ = some (.slice A0_1 l0_1.length c0_1) := (blk_cell BK783.out 1).trans rfl; have hfz17_0 := blk_frozen BK783.out 0; have hfz17_1 := blk_frozen BK783.out 1) | ((with_reducible refine gate_callee (f := 39) rfl ?_); refine gL_ (some 9) Try.func39 #[.agg #[.slice A0_0 l0_0.length c0_0, .slice A0_1 l0_1.length c0_1]] ?_; (with_reducible refine (impl_IsValidDfa.calls _ _ l0_0 _ _ l0_1 true _ ?side1 ?side2 ?side3 ?side4 A4.out).mono ?_); (case side1 => exact rc_ (Kd.C_below HR0_0.out HB.out)); (case side2 => exact HC0_0.out); (case side3 => exact rc_ (Kd.C_below HR0_1.out HB.out)); (case side4 => exact HC0_1.out); rintro e w18 ⟨rfl, hb⟩; refine ⟨_, rfl, ?_⟩; have n0_ := am_ (blk_below (rb_ BK783.out) hb); have n1_ := am_ (below_step (b1_ HB.out GE783.out) hb); clear BK783; clear HB; have BK783 := n0_; have HB := n1_; clear n0_ n1_; (try clear hb); (try clear hb2); (try clear hk); (try clear hi); have hcz19_0 : w18.cell? ⟨gb783, 0, none⟩ = some (.slice A0_0 l0_0.length c0_0) := (blk_cell BK783.out 0).trans rfl; have hcz19_1 : w18.cell? ⟨gb783, 1, none⟩ = some (.slice A0_1 l0_1.length c0_1) := (blk_cell BK783.out 1).trans rfl; have hfz19_0 := blk_frozen BK783.out 0; have hfz19_1 := blk_frozen BK783.out 1) | (go_at_call 101; (with_reducible refine (impl_within.calls a1 0 (wrap64 ((l0_0.length : Int) - 1)) true _ A6.out).mono ?_); rintro e w' ⟨rfl, ⟨nd, rfl⟩⟩) | (go_at_call 71; (with_reducible refine (impl_IsWord.calls k a2 false _ A8.out).mono ?_); rintro e w' ⟨rfl, ⟨nd, rfl⟩⟩))
    go_ret2
    exact ⟨by first | rfl | (simp [errW_none, errW_some] <;> rfl) | (simp [*, errW_none, errW_some] <;> rfl), by exact zp38_0_ HB.out GE783.out⟩
  ·replace c7 := Bool.eq_false_iff.mpr c7
   subst c7
   have H1 : (some (0, false)) = some (r1, r2) := by rw [if_neg (show ¬ (false = true) by decide)] at H; exact H
   clear H
   have H := H1
   clear H1
   simp only [Option.some.injEq, Prod.mk.injEq] at H
   obtain ⟨rfl, rfl⟩ := H
   go_enter Try.func42, Try.ntmps42
   go_wp2_with (first | ((with_reducible refine gate_dst (N := 3) rfl ?_); (try (refine gate_guard (by rfl) ?_; dsimp only)); refine box_event ?hg (N := 3) ?hd (cs := #[.slice A0_0 l0_0.length c0_0, .slice A0_1 l0_1.length c0_1]) (t := 27) ?hr ?_; (case hd => rfl); (case hg => rfl); (case hr => first | (go_simp; done) | (go_simp; rfl)); intro gb783 hg w20 hbox hb; replace BK783 := am_ (hbox); replace GW783 := am_ ((by rw [hg]; exact (below_size (b0_ HB.out)) : w.heap.size ≤ gb783)); replace GE783 := am_ ((by rw [hg]; exact (below_size (b0_ HB.out)) : w.heap.size ≤ gb783)); replace HB := am_ (below_step (b0_ HB.out) hb); clear hb hbox hg; have hcz21_0 : w20.cell? ⟨gb783, 0, none⟩ = some (.slice A0_0 l0_0.length c0_0) := (blk_cell BK783.out 0).trans rfl; have hcz21_1 : w20.cell? ⟨gb783, 1, none⟩ = some (.slice A0_1 l0_1.length c0_1) := (blk_cell BK783.out 1).trans rfl; have hfz21_0 := blk_frozen BK783.out 0; have hfz21_1 := blk_frozen BK783.out 1) | ((with_reducible refine gate_callee (f := 39) rfl ?_); refine gL_ (some 9) Try.func39 #[.agg #[.slice A0_0 l0_0.length c0_0, .slice A0_1 l0_1.length c0_1]] ?_; (with_reducible refine (impl_IsValidDfa.calls _ _ l0_0 _ _ l0_1 true _ ?side1 ?side2 ?side3 ?side4 A4.out).mono ?_); (case side1 => exact rc_ (Kd.C_below HR0_0.out HB.out)); (case side2 => exact HC0_0.out); (case side3 => exact rc_ (Kd.C_below HR0_1.out HB.out)); (case side4 => exact HC0_1.out); rintro e w22 ⟨rfl, hb⟩; refine ⟨_, rfl, ?_⟩; have n0_ := am_ (blk_below (rb_ BK783.out) hb); have n1_ := am_ (below_step (b1_ HB.out GE783.out) hb); clear BK783; clear HB; have BK783 := n0_; have HB := n1_; clear n0_ n1_; (try clear hb); (try clear hb2); (try clear hk); (try clear hi); have hcz23_0 : w22.cell? ⟨gb783, 0, none⟩ = some (.slice A0_0 l0_0.length c0_0) := (blk_cell BK783.out 0).trans rfl; have hcz23_1 : w22.cell? ⟨gb783, 1, none⟩ = some (.slice A0_1 l0_1.length c0_1) := (blk_cell BK783.out 1).trans rfl; have hfz23_0 := blk_frozen BK783.out 0; have hfz23_1 := blk_frozen BK783.out 1) | (go_at_call 101; (with_reducible refine (impl_within.calls a1 0 (wrap64 ((l0_0.length : Int) - 1)) false _ A6.out).mono ?_); rintro e w' ⟨rfl, ⟨nd, rfl⟩⟩))
   go_ret2
   exact ⟨by first | rfl | (simp [errW_none, errW_some] <;> rfl) | (simp [*, errW_none, errW_some] <;> rfl), by exact zp38_0_ HB.out GE783.out⟩
 ·replace c5 := Bool.eq_false_iff.mpr c5
  subst c5
  have H1 : (some (0, false)) = some (r1, r2) := by rw [if_neg (show ¬ (false = true) by decide)] at H; exact H
  clear H
  have H := H1
  clear H1
  simp only [Option.some.injEq, Prod.mk.injEq] at H
  obtain ⟨rfl, rfl⟩ := H
  go_enter Try.func42, Try.ntmps42
  go_wp2_with (first | ((with_reducible refine gate_dst (N := 3) rfl ?_); (try (refine gate_guard (by rfl) ?_; dsimp only)); refine box_event ?hg (N := 3) ?hd (cs := #[.slice A0_0 l0_0.length c0_0, .slice A0_1 l0_1.length c0_1]) (t := 27) ?hr ?_; (case hd => rfl); (case hg => rfl); (case hr => first | (go_simp; done) | (go_simp; rfl)); intro gb783 hg w24 hbox hb; replace BK783 := am_ (hbox); replace GW783 := am_ ((by rw [hg]; exact (below_size (b0_ HB.out)) : w.heap.size ≤ gb783)); replace GE783 := am_ ((by rw [hg]; exact (below_size (b0_ HB.out)) : w.heap.size ≤ gb783)); replace HB := am_ (below_step (b0_ HB.out) hb); clear hb hbox hg; have hcz25_0 : w24.cell? ⟨gb783, 0, none⟩ = some (.slice A0_0 l0_0.length c0_0) := (blk_cell BK783.out 0).trans rfl; have hcz25_1 : w24.cell? ⟨gb783, 1, none⟩ = some (.slice A0_1 l0_1.length c0_1) := (blk_cell BK783.out 1).trans rfl; have hfz25_0 := blk_frozen BK783.out 0; have hfz25_1 := blk_frozen BK783.out 1) | ((with_reducible refine gate_callee (f := 39) rfl ?_); refine gL_ (some 9) Try.func39 #[.agg #[.slice A0_0 l0_0.length c0_0, .slice A0_1 l0_1.length c0_1]] ?_; (with_reducible refine (impl_IsValidDfa.calls _ _ l0_0 _ _ l0_1 false _ ?side1 ?side2 ?side3 ?side4 A4.out).mono ?_); (case side1 => exact rc_ (Kd.C_below HR0_0.out HB.out)); (case side2 => exact HC0_0.out); (case side3 => exact rc_ (Kd.C_below HR0_1.out HB.out)); (case side4 => exact HC0_1.out); rintro e w26 ⟨rfl, hb⟩; refine ⟨_, rfl, ?_⟩; have n0_ := am_ (blk_below (rb_ BK783.out) hb); have n1_ := am_ (below_step (b1_ HB.out GE783.out) hb); clear BK783; clear HB; have BK783 := n0_; have HB := n1_; clear n0_ n1_; (try clear hb); (try clear hb2); (try clear hk); (try clear hi)))
  go_ret2
  exact ⟨by first | rfl | (simp [errW_none, errW_some] <;> rfl) | (simp [*, errW_none, errW_some] <;> rfl), by exact zp38_0_ HB.out GE783.out⟩
def impl_AcceptsWord.f (k : Nat) (l0_0 : List Bool) (l0_1 : List (List Int)) (a1 : ByteArray) : Option (Bool) := (impl_RunDfa.f k l0_0 l0_1 0 a1).bind fun bt789 => (if bt789.2 = true then (if 0 ≤ bt789.1 then (if bt789.1 < (l0_0.length : Int) then (some (rdOf false l0_0 bt789.1)) else (none)) else (none)) else (some false))
theorem impl_AcceptsWord.mono : ∀ a0 a1 a2 k, LeO (impl_AcceptsWord.f k a0 a1 a2) (impl_AcceptsWord.f (k + 1) a0 a1 a2) := by
  intro a0 a1 a2 k
  unfold impl_AcceptsWord.f
  repeat' first
      | (with_reducible exact impl_RunDfa.mono _ _ _ _ _)
      | (with_reducible exact LeO.refl _)
      | (with_reducible exact LeO.none _)
      | (with_reducible refine LeO.ite ?_ ?_)
      | (with_reducible refine LeO.bind ?_ (fun _ => ?_))
      | exact impl_RunDfa.mono _ _ _ _ _
      | exact LeO.none _
      | refine LeO.ite ?_ ?_
      | refine LeO.bind ?_ (fun _ => ?_)
set_option maxHeartbeats 8000000 in
set_option maxRecDepth 100000 in
theorem impl_AcceptsWord.calls (k : Nat) (A0_0 : Option Addr) (c0_0 : Nat) (l0_0 : List Bool) (A0_1 : Option Addr) (c0_1 : Nat) (l0_1 : List (List Int)) (a1 : ByteArray) (r : Bool) (w : World) (hr0_0 : Kd.C Kd.bool w A0_0 l0_0.length l0_0) (hc0_0 : l0_0.length ≤ c0_0) (hr0_1 : Kd.C (Kd.slice 3 (Kd.int .i64)) w A0_1 l0_1.length l0_1) (hc0_1 : l0_1.length ≤ c0_1) (h : impl_AcceptsWord.f k l0_0 l0_1 a1 = some r) :
    Calls Try.prog 34 #[.agg #[.slice A0_0 l0_0.length c0_0, .slice A0_1 l0_1.length c0_1], .string a1] w fun e w' => e = .returned (.bool r) ∧ Below w.heap.size w w' := by
  have hu27 := Try.underlying27
  have HR0_0 := am_ hr0_0
  have HC0_0 := am_ hc0_0
  clear hr0_0 hc0_0
  have HR0_1 := am_ hr0_1
  have HC0_1 := am_ hc0_1
  clear hr0_1 hc0_1
  have HB := am_ (Below.refl w.heap.size w)
  have H : ((impl_RunDfa.f k l0_0 l0_1 0 a1).bind fun bt789 => (if bt789.2 = true then (if 0 ≤ bt789.1 then (if bt789.1 < (l0_0.length : Int) then (some (rdOf false l0_0 bt789.1)) else (none)) else (none)) else (some false))) = some r := h
  clear h
  replace H := Option.bind_eq_some_iff.mp H
  obtain ⟨⟨t789, t790⟩, A30, H⟩ := H
  have A3 := am_ A30
  clear A30
  by_cases c4 : t790 = true
  · subst c4
    have H1 : (if 0 ≤ t789 then (if t789 < (l0_0.length : Int) then (some (rdOf false l0_0 t789)) else (none)) else (none)) = some r := by rw [if_pos rfl] at H; exact H
    clear H
    have H := H1
    clear H1
    by_cases c5 : 0 ≤ t789
    · rw [if_pos c5] at H
      have c5b0 : decide (0 ≤ t789) = true := decide_eq_true c5
      clear c5
      by_cases c6 : t789 < (l0_0.length : Int)
      · rw [if_pos c6] at H
        have c6b0 : decide (t789 < (l0_0.length : Int)) = true := decide_eq_true c6
        clear c6
        obtain rfl := Option.some.inj H
        simp only [Option.some.injEq, Prod.mk.injEq] at H
        obtain ⟨rfl⟩ := H
        go_enter Try.func34, Try.ntmps34
        go_wp2_with (first | ((with_reducible refine gate_dst (N := 2) rfl ?_); refine box_event ?hg (N := 2) ?hd (cs := #[.slice A0_0 l0_0.length c0_0, .slice A0_1 l0_1.length c0_1]) (t := 27) ?hr ?_; (case hd => rfl); (case hg => rfl); (case hr => first | (go_simp; done) | (go_simp; rfl)); intro gb788 hg w7 hbox hb; replace BK788 := am_ (hbox); replace GW788 := am_ ((by rw [hg]; exact (below_size (b0_ HB.out)) : w.heap.size ≤ gb788)); replace GE788 := am_ ((by rw [hg]; exact (below_size (b0_ HB.out)) : w.heap.size ≤ gb788)); replace HB := am_ (below_step (b0_ HB.out) hb); clear hb hbox hg; have hcz8_0 : w7.cell? ⟨gb788, 0, none⟩ = some (.slice A0_0 l0_0.length c0_0) := (blk_cell BK788.out 0).trans rfl; have hcz8_1 : w7.cell? ⟨gb788, 1, none⟩ = some (.slice A0_1 l0_1.length c0_1) := (blk_cell BK788.out 1).trans rfl; have hfz8_0 := blk_frozen BK788.out 0; have hfz8_1 := blk_frozen BK788.out 1) | ((with_reducible refine gate_callee (f := 42) rfl ?_); refine gL_ (some 10) Try.func42 #[.agg #[.slice A0_0 l0_0.length c0_0, .slice A0_1 l0_1.length c0_1], .int .i64 0, .string a1] ?_; (with_reducible refine (impl_RunDfa.calls k _ _ l0_0 _ _ l0_1 0 a1 t789 true _ ?side1 ?side2 ?side3 ?side4 A3.out).mono ?_); (case side1 => exact rc_ (Kd.C_below HR0_0.out HB.out)); (case side2 => exact HC0_0.out); (case side3 => exact rc_ (Kd.C_below HR0_1.out HB.out)); (case side4 => exact HC0_1.out); rintro e w9 ⟨rfl, hb⟩; refine ⟨_, rfl, ?_⟩; have n0_ := am_ (blk_below (rb_ BK788.out) hb); have n1_ := am_ (below_step (b1_ HB.out GE788.out) hb); clear BK788; clear HB; have BK788 := n0_; have HB := n1_; clear n0_ n1_; (try clear hb); (try clear hb2); (try clear hk); (try clear hi); have hcz10_0 : w9.cell? ⟨gb788, 0, none⟩ = some (.slice A0_0 l0_0.length c0_0) := (blk_cell BK788.out 0).trans rfl; have hcz10_1 : w9.cell? ⟨gb788, 1, none⟩ = some (.slice A0_1 l0_1.length c0_1) := (blk_cell BK788.out 1).trans rfl; have hfz10_0 := blk_frozen BK788.out 0; have hfz10_1 := blk_frozen BK788.out 1; have p791 : 0 ≤ (t789 : Int) := of_decide_eq_true ah_; have q791 : t789 < (l0_0.length : Int) := of_decide_eq_true ah_; obtain ⟨ad791, e791, hx791_0⟩ := Kd.at_bool HR0_0.out t789 p791 q791; cases e791; replace hx791_0 := (HB.out.cell (World.block_lt_of_cell? w _ hx791_0)).trans hx791_0; replace p791 := eq_true p791; replace q791 := eq_true q791))
        go_ret
        exact ⟨by first | rfl | (simp [errW_none, errW_some] <;> rfl) | (simp [*, errW_none, errW_some] <;> rfl), by exact zp38_0_ HB.out GE788.out⟩
      · rw [if_neg c6] at H
        exact absurd H (by simp)
    · rw [if_neg c5] at H
      exact absurd H (by simp)
  · replace c4 := Bool.eq_false_iff.mpr c4
    subst c4
    have H1 : (some false) = some r := by rw [if_neg (show ¬ (false = true) by decide)] at H; exact H
    clear H
    have H := H1
    clear H1
    obtain rfl := Option.some.inj H
    simp only [Option.some.injEq, Prod.mk.injEq] at H
    obtain ⟨rfl⟩ := H
    go_enter Try.func34, Try.ntmps34
    go_wp2_with (first | ((with_reducible refine gate_dst (N := 2) rfl ?_); refine box_event ?hg (N := 2) ?hd (cs := #[.slice A0_0 l0_0.length c0_0, .slice A0_1 l0_1.length c0_1]) (t := 27) ?hr ?_; (case hd => rfl); (case hg => rfl); (case hr => first | (go_simp; done) | (go_simp; rfl)); intro gb788 hg w11 hbox hb; replace BK788 := am_ (hbox); replace GW788 := am_ ((by rw [hg]; exact (below_size (b0_ HB.out)) : w.heap.size ≤ gb788)); replace GE788 := am_ ((by rw [hg]; exact (below_size (b0_ HB.out)) : w.heap.size ≤ gb788)); replace HB := am_ (below_step (b0_ HB.out) hb); clear hb hbox hg; have hcz12_0 : w11.cell? ⟨gb788, 0, none⟩ = some (.slice A0_0 l0_0.length c0_0) := (blk_cell BK788.out 0).trans rfl; have hcz12_1 : w11.cell? ⟨gb788, 1, none⟩ = some (.slice A0_1 l0_1.length c0_1) := (blk_cell BK788.out 1).trans rfl; have hfz12_0 := blk_frozen BK788.out 0; have hfz12_1 := blk_frozen BK788.out 1) | ((with_reducible refine gate_callee (f := 42) rfl ?_); refine gL_ (some 10) Try.func42 #[.agg #[.slice A0_0 l0_0.length c0_0, .slice A0_1 l0_1.length c0_1], .int .i64 0, .string a1] ?_; (with_reducible refine (impl_RunDfa.calls k _ _ l0_0 _ _ l0_1 0 a1 t789 false _ ?side1 ?side2 ?side3 ?side4 A3.out).mono ?_); (case side1 => exact rc_ (Kd.C_below HR0_0.out HB.out)); (case side2 => exact HC0_0.out); (case side3 => exact rc_ (Kd.C_below HR0_1.out HB.out)); (case side4 => exact HC0_1.out); rintro e w13 ⟨rfl, hb⟩; refine ⟨_, rfl, ?_⟩; have n0_ := am_ (blk_below (rb_ BK788.out) hb); have n1_ := am_ (below_step (b1_ HB.out GE788.out) hb); clear BK788; clear HB; have BK788 := n0_; have HB := n1_; clear n0_ n1_; (try clear hb); (try clear hb2); (try clear hk); (try clear hi)))
    go_ret
    exact ⟨by first | rfl | (simp [errW_none, errW_some] <;> rfl) | (simp [*, errW_none, errW_some] <;> rfl), by exact zp38_0_ HB.out GE788.out⟩
def slices_Equal_bool_bool.l0 : Nat → List Bool → List Bool → Int → Int → Option (Bool)
  | 0, _, _, _, _ => none
  | k + 1, x0, x1, x12, x13 => if x13 < x12 then (if 0 ≤ x13 then (if x13 < (x0.length : Int) then (if x13 < (x1.length : Int) then (if ((rdOf false x0 x13) != (rdOf false x1 x13)) = true then (some false) else (slices_Equal_bool_bool.l0 k x0 x1 x12 (wrap64 (x13 + 1)))) else (none)) else (none)) else (none)) else (some true)
def slices_Equal_bool_bool.f (k : Nat) (l0 : List Bool) (l1 : List Bool) : Option (Bool) := if (l0.length : Int) = (l1.length : Int) then (slices_Equal_bool_bool.l0 k l0 l1 (l0.length : Int) 0) else (some false)
theorem slices_Equal_bool_bool.mono_l : ∀ k, (∀ y0 y1 y2 y3, LeO (slices_Equal_bool_bool.l0 k y0 y1 y2 y3) (slices_Equal_bool_bool.l0 (k + 1) y0 y1 y2 y3))
  | 0 => fun _ _ _ _ r h => by simp [slices_Equal_bool_bool.l0] at h
  | k + 1 => by
    have ih0 := slices_Equal_bool_bool.mono_l k
    · intro y0 y1 y2 y3
      unfold slices_Equal_bool_bool.l0
      repeat' first
      | (with_reducible exact ih0 _ _ _ _)
      | (with_reducible exact LeO.refl _)
      | (with_reducible exact LeO.none _)
      | (with_reducible refine LeO.ite ?_ ?_)
      | (with_reducible refine LeO.bind ?_ (fun _ => ?_))
      | exact ih0 _ _ _ _
      | exact LeO.none _
      | refine LeO.ite ?_ ?_
      | refine LeO.bind ?_ (fun _ => ?_)
theorem slices_Equal_bool_bool.mono : ∀ a0 a1 k, LeO (slices_Equal_bool_bool.f k a0 a1) (slices_Equal_bool_bool.f (k + 1) a0 a1) := by
  intro a0 a1 k
  have ih0 := slices_Equal_bool_bool.mono_l k
  unfold slices_Equal_bool_bool.f
  repeat' first
      | (with_reducible exact ih0 _ _ _ _)
      | (with_reducible exact LeO.refl _)
      | (with_reducible exact LeO.none _)
      | (with_reducible refine LeO.ite ?_ ?_)
      | (with_reducible refine LeO.bind ?_ (fun _ => ?_))
      | exact ih0 _ _ _ _
      | exact LeO.none _
      | refine LeO.ite ?_ ?_
      | refine LeO.bind ?_ (fun _ => ?_)
set_option maxHeartbeats 8000000 in
set_option maxRecDepth 100000 in
theorem slices_Equal_bool_bool.calls (k : Nat) (A0 : Option Addr) (c0 : Nat) (l0 : List Bool) (A1 : Option Addr) (c1 : Nat) (l1 : List Bool) (r : Bool) (w : World) (hr0 : Kd.C Kd.bool w A0 l0.length l0) (hc0 : l0.length ≤ c0) (hr1 : Kd.C Kd.bool w A1 l1.length l1) (hc1 : l1.length ≤ c1) (h : slices_Equal_bool_bool.f k l0 l1 = some r) :
    Calls Try.prog 96 #[.slice A0 l0.length c0, .slice A1 l1.length c1] w fun e w' => e = .returned (.bool r) ∧ Drawn0 w w' := by
  have HR0 := am_ hr0
  have HC0 := am_ hc0
  clear hr0 hc0
  have HR1 := am_ hr1
  have HC1 := am_ hc1
  clear hr1 hc1
  have H : (if (l0.length : Int) = (l1.length : Int) then (slices_Equal_bool_bool.l0 k l0 l1 (l0.length : Int) 0) else (some false)) = some r := h
  clear h
  by_cases c3 : (l0.length : Int) = (l1.length : Int)
  · rw [if_pos c3] at H
    have c3b0 : ((l0.length : Int) == (l1.length : Int)) = true := beq_iff_eq.mpr c3
    have c3b1 : ((l0.length : Int) != (l1.length : Int)) = false := bne_eq_false_iff_eq.mpr c3
    have c3b2 : (l0.length == l1.length) = true := by first | simpa using c3 | (simp at c3 ⊢; omega)
    clear c3
    have H' := am_ H
    clear H
    go_enter Try.func96, Try.ntmps96
    go_wp2
    repeat (go_quiet (fail); try go_wp2)
    go_loopg [13] k (fun kq v13 w' => ∃ (x13_1 : Int), v13 = .int .i64 x13_1 ∧ Aside0 (slices_Equal_bool_bool.l0 kq l0 l1 (l0.length : Int) x13_1 = some r) ∧ Aside0 (kq ≤ k) ∧ Drawn0 w w')
    case atStart => exact ⟨(0), (by first | rfl | (simp; done) | (simp [*]; done)), H', ⟨Nat.le_refl _⟩, by repeat (first | exact Drawn0.refl _ | apply Drawn0.step)⟩
    case round =>
      clear H'
      try clear c1
      try clear p2
      try clear c3
      try clear c3b0
      try clear c3b1
      try clear c3b2
      obtain ⟨x13_1, rfl, HA, HK1, ⟨m1, rfl⟩⟩ := hrel
      cases gk with
      | zero => exact absurd HA.out (by simp [slices_Equal_bool_bool.l0])
      | succ k1 =>
        have H := HA.out
        clear HA
        simp only [slices_Equal_bool_bool.l0] at H
        by_cases c4 : x13_1 < (l0.length : Int)
        · rw [if_pos c4] at H
          have c4b0 : decide (x13_1 < (l0.length : Int)) = true := decide_eq_true c4
          clear c4
          by_cases c5 : 0 ≤ x13_1
          · rw [if_pos c5] at H
            have c5b0 : decide (0 ≤ x13_1) = true := decide_eq_true c5
            clear c5
            by_cases c6 : x13_1 < (l0.length : Int)
            · rw [if_pos c6] at H
              have c6b0 : decide (x13_1 < (l0.length : Int)) = true := decide_eq_true c6
              clear c6
              by_cases c7 : x13_1 < (l1.length : Int)
              · rw [if_pos c7] at H
                have c7b0 : decide (x13_1 < (l1.length : Int)) = true := decide_eq_true c7
                clear c7
                by_cases c8 : ((rdOf false l0 x13_1) != (rdOf false l1 x13_1)) = true
                · rw [if_pos c8] at H
                  have c8b0 : ((rdOf false l0 x13_1) != (rdOf false l1 x13_1)) = true := c8
                  (try (have c8b1 : decide ((rdOf false l0 x13_1) = (rdOf false l1 x13_1)) = false := by simpa using c8))
                  (try (have c8b2 : ((rdOf false l0 x13_1) == (rdOf false l1 x13_1)) = false := by simpa using c8))
                  (try (have c8b3 : ¬ ((rdOf false l0 x13_1) = (rdOf false l1 x13_1)) := by simpa using c8))
                  clear c8
                  obtain rfl := Option.some.inj H
                  simp only [Option.some.injEq, Prod.mk.injEq] at H
                  obtain ⟨rfl⟩ := H
                  have p792 : 0 ≤ (x13_1 : Int) := of_decide_eq_true ah_
                  have q792 : x13_1 < (l0.length : Int) := of_decide_eq_true ah_
                  obtain ⟨ad792, e792, hx792_0⟩ := Kd.at_bool HR0.out x13_1 p792 q792
                  cases e792
                  replace p792 := eq_true p792
                  replace q792 := eq_true q792
                  have p793 : 0 ≤ (x13_1 : Int) := of_decide_eq_true ah_
                  have q793 : x13_1 < (l1.length : Int) := of_decide_eq_true ah_
                  obtain ⟨ad793, e793, hx793_0⟩ := Kd.at_bool HR1.out x13_1 p793 q793
                  cases e793
                  replace p793 := eq_true p793
                  replace q793 := eq_true q793
                  go_wp2
                  repeat (go_quiet (fail); try go_wp2)
                  go_ret
                  exact ⟨by first | rfl | (simp; done) | (simp [*]; done), by repeat (first | exact Drawn0.refl _ | apply Drawn0.step)⟩
                · rw [if_neg c8] at H
                  have c8b0 : ((rdOf false l0 x13_1) != (rdOf false l1 x13_1)) = false := by simpa using c8
                  (try (have c8b1 : decide ((rdOf false l0 x13_1) = (rdOf false l1 x13_1)) = true := by simpa using c8))
                  (try (have c8b2 : ((rdOf false l0 x13_1) == (rdOf false l1 x13_1)) = true := by simpa using c8))
                  clear c8
                  have H' := am_ H
                  clear H
                  have p792 : 0 ≤ (x13_1 : Int) := of_decide_eq_true ah_
                  have q792 : x13_1 < (l0.length : Int) := of_decide_eq_true ah_
                  obtain ⟨ad792, e792, hx792_0⟩ := Kd.at_bool HR0.out x13_1 p792 q792
                  cases e792
                  replace p792 := eq_true p792
                  replace q792 := eq_true q792
                  have p793 : 0 ≤ (x13_1 : Int) := of_decide_eq_true ah_
                  have q793 : x13_1 < (l1.length : Int) := of_decide_eq_true ah_
                  obtain ⟨ad793, e793, hx793_0⟩ := Kd.at_bool HR1.out x13_1 p793 q793
                  cases e793
                  replace p793 := eq_true p793
                  replace q793 := eq_true q793
                  go_wp2
                  repeat (go_quiet (fail); try go_wp2)
                  go_roundg k1
                  case measure => have := HK1.out; omega
                  case rel => exact ⟨(wrap64 (x13_1 + 1)), (by first | rfl | (simp; done) | (simp [*]; done)), H', ⟨by have := HK1.out; omega⟩, by repeat (first | exact Drawn0.refl _ | apply Drawn0.step)⟩
              · rw [if_neg c7] at H
                exact absurd H (by simp)
            · rw [if_neg c6] at H
              exact absurd H (by simp)
          · rw [if_neg c5] at H
            exact absurd H (by simp)
        · rw [if_neg c4] at H
          have c4b0 : decide (x13_1 < (l0.length : Int)) = false := decide_eq_false c4
          clear c4
          obtain rfl := Option.some.inj H
          simp only [Option.some.injEq, Prod.mk.injEq] at H
          obtain ⟨rfl⟩ := H
          go_wp2
          repeat (go_quiet (fail); try go_wp2)
          go_ret
          exact ⟨by first | rfl | (simp; done) | (simp [*]; done), by repeat (first | exact Drawn0.refl _ | apply Drawn0.step)⟩
  · rw [if_neg c3] at H
    have c3b0 : ((l0.length : Int) == (l1.length : Int)) = false := beq_eq_false_iff_ne.mpr c3
    have c3b1 : ((l0.length : Int) != (l1.length : Int)) = true := bne_iff_ne.mpr c3
    have c3b2 : (l0.length == l1.length) = false := by first | simpa using c3 | (simp at c3 ⊢; omega)
    obtain rfl := Option.some.inj H
    simp only [Option.some.injEq, Prod.mk.injEq] at H
    obtain ⟨rfl⟩ := H
    go_enter Try.func96, Try.ntmps96
    go_wp2
    repeat (go_quiet (fail); try go_wp2)
    go_ret
    exact ⟨by first | rfl | (simp; done) | (simp [*]; done), by repeat (first | exact Drawn0.refl _ | apply Drawn0.step)⟩
end Go.Proofs.Ytogamkblkoobkaa.P
end
section
namespace Go.Proofs.Ytogamkblkoobkaa.Wk
open Go.RowKit Go.Shelf Go.Proofs.Ytogamkblkoobkaa.P Go.Proofs.YtogamkblkoobkaaW.PrintWords Go.Proofs.YtogamkblkoobkaaW.PrintLast Go.Proofs.YtogamkblkoobkaaW.PrintMore
set_option linter.unusedVariables false
set_option linter.unusedSimpArgs false
theorem all_false {p : Nat → Bool} {n k : Nat} (h : k < n) (hp : p k = false) : (List.range n).all p = false := by
  rw [List.all_eq_false]
  exact ⟨k, List.mem_range.mpr h, by rw [hp]; simp⟩
theorem all_true {p : Nat → Bool} {n : Nat} (h : ∀ j, j < n → p j = true) : (List.range n).all p = true := by
  rw [List.all_eq_true]
  intro x hx
  exact h x (List.mem_range.mp hx)
set_option maxHeartbeats 2000000 in
theorem equalRows {V1 V2 : Nat → Value} {p : Nat → Bool} (A1 A2 : Option Addr) (n c1 c2 g : Nat) (lb : Array Value) (eg : ∀ args w, (callFunc g args).run Try.prog w = .ok (.enter g args) w) (w : World) (hn : n ≤ 9223372036854775807)
    (h1 : 0 < n → ∃ ad : Addr, A1 = some ad ∧ ∀ j, j < n → w.cell? (ad.add j) = some (V1 j))
    (h2 : 0 < n → ∃ ad : Addr, A2 = some ad ∧ ∀ j, j < n → w.cell? (ad.add j) = some (V2 j))
    (hp : ∀ j, j < n → ∀ W, Below w.heap.size w W → Calls Try.prog g (#[V1 j, V2 j] ++ lb) W fun e W' => e = .returned (.bool (p j)) ∧ Below W.heap.size W W') :
    Calls Try.prog 97 #[.slice A1 n c1, .slice A2 n c2, .func (.func g) #[] lb] w fun e w' => e = .returned (.bool ((List.range n).all p)) ∧ Below w.heap.size w w' := by
  have tn : ((n : Int) != (n : Int)) = false := by simp
  rcases Nat.eq_zero_or_pos n with h0 | h0
  · subst h0
    clear h1 h2 hp
    go_enter Try.func97, Try.ntmps97
    go_wp2
    go_loopg [7, 8, 9, 17] 0 (fun _ _ _ _ s17 wr => s17 = .int .i64 0 ∧ wr = w)
    case atStart => exact ⟨rfl, rfl⟩
    case round =>
      obtain ⟨rfl, rfl⟩ := hrel
      go_wp2
      go_ret
      exact ⟨rfl, Below.refl _ _⟩
  · obtain ⟨ad1, rfl, hc1⟩ := h1 h0
    obtain ⟨ad2, rfl, hc2⟩ := h2 h0
    clear h1 h2
    have HC1 := am_ hc1
    have HC2 := am_ hc2
    have HP := am_ hp
    clear hp hc1 hc2
    go_enter Try.func97, Try.ntmps97
    go_wp2
    go_loopg [7, 8, 9, 17] n (fun gg _ _ _ s17 wr => ∃ kk : Nat, s17 = .int .i64 kk ∧ Aside0 (kk ≤ n) ∧ Aside0 (n - kk ≤ gg) ∧ Aside0 (Below w.heap.size w wr) ∧ Aside0 (∀ j, j < kk → p j = true))
    case atStart => exact ⟨0, rfl, ⟨Nat.zero_le _⟩, ⟨by omega⟩, ⟨Below.refl _ _⟩, ⟨fun j hj => absurd hj (Nat.not_lt_zero _)⟩⟩
    case round =>
      obtain ⟨kk, rfl, HK, HG, HB, HQ⟩ := hrel
      by_cases hlt : kk < n
      · have hltz : (kk : Int) < (n : Int) := by omega
        have hcell1 : wr.cell? (ad1.add kk) = some (V1 kk) := pw_cell_below HB.out (HC1.out kk hlt)
        have hcell2 : wr.cell? (ad2.add kk) = some (V2 kk) := pw_cell_below HB.out (HC2.out kk hlt)
        have hcall := am_ (HP.out kk hlt)
        generalize hy1 : V1 kk = y1 at hcell1 hcall
        generalize hy2 : V2 kk = y2 at hcell2 hcall
        clear hy1 hy2
        cases hq : p kk with
        | true =>
          rw [hq] at hcall
          have HQ1 := am_ hq
          clear hq
          go_wp2_with (go_at_fn g; refine (hcall.out _ (by exact HB.out)).mono ?_; rintro e w' ⟨rfl, hb⟩; have HB2 := am_ hb; clear hb)
          go_roundg (n - (kk + 1))
          case measure => have := HG.out; omega
          case rel =>
            refine ⟨kk + 1, by go_num, ⟨by omega⟩, ⟨by omega⟩, ⟨below_then HB.out HB.out.size HB2.out⟩, ⟨fun j hj => ?_⟩⟩
            by_cases e : j = kk
            · subst e; exact HQ1.out
            · exact HQ.out j (by omega)
        | false =>
          rw [hq] at hcall
          have HQ1 := am_ hq
          clear hq
          go_wp2_with (go_at_fn g; refine (hcall.out _ (by exact HB.out)).mono ?_; rintro e w' ⟨rfl, hb⟩; have HB2 := am_ hb; clear hb)
          go_ret
          rw [all_false hlt HQ1.out]
          exact ⟨rfl, below_then HB.out HB.out.size HB2.out⟩
      · have hltz : ¬ (kk : Int) < (n : Int) := by omega
        have e : kk = n := by have := HK.out; omega
        subst e
        go_wp2
        go_ret
        rw [all_true HQ.out]
        exact ⟨rfl, HB.out⟩
set_option maxHeartbeats 2000000 in
theorem equalRows_ne (A1 A2 : Option Addr) (n1 n2 c1 c2 : Nat) (v : Value) (w : World) (hne : n1 ≠ n2) :
    Calls Try.prog 97 #[.slice A1 n1 c1, .slice A2 n2 c2, v] w fun e w' => e = .returned (.bool false) ∧ Below w.heap.size w w' := by
  have tn : ((n1 : Int) != (n2 : Int)) = true := by rw [bne_iff_ne]; omega
  clear hne
  go_enter Try.func97, Try.ntmps97
  go_wp2
  go_ret
  exact ⟨rfl, Below.refl _ _⟩
theorem cellsRowsC {e : Nat} {w : World} {A : Option Addr} {n : Nat} {xs : List (List Int)} (h : Kd.C (Kd.slice e (Kd.int .i64)) w A n xs) : 0 < n → ∃ ad : Addr, A = some ad ∧ ∀ j, j < n → ∃ A0 c0, w.cell? (ad.add j) = some (.slice A0 (xs.getD j []).length c0) ∧ (xs.getD j []).length ≤ c0 ∧ Kd.C (Kd.int .i64) w A0 (xs.getD j []).length (xs.getD j []) := by
  intro h0
  obtain ⟨ad, ea, hc⟩ := h.2.2 h0
  refine ⟨ad, ea, fun j hj => ?_⟩
  have hl : j < xs.length := by rw [h.1]; exact hj
  obtain ⟨c, hs, hr, hcell⟩ := hc j xs[j] (List.getElem?_eq_getElem hl)
  obtain ⟨A0, c0, rfl, h1, h2⟩ := hr
  have := hcell 0 _ rfl
  rw [show (Kd.slice e (Kd.int .i64)).sz = 1 from rfl, Nat.mul_one, Nat.add_zero] at this
  rw [List.getD_eq_getElem?_getD, List.getElem?_eq_getElem hl]
  exact ⟨A0, c0, this, h1, h2⟩
open Go.Proofs.Ytogamkblkoobkaa.Pl
theorem eqInts_l0 (a b : List Int) (hl : a.length = b.length) (hn : a.length ≤ 9223372036854775807) : ∀ d i : Nat, i + d = a.length → Ev (fun k => slices_Equal_int_int.l0 k a b (a.length : Int) i) (decide (a.drop i = b.drop i)) := by
  intro d
  induction d with
  | zero =>
    intro i h
    refine next ?_
    simp only [slices_Equal_int_int.l0, if_neg (show ¬ (i : Int) < (a.length : Int) by omega)]
    exact ev_some (by rw [List.drop_eq_nil_of_le (by omega), List.drop_eq_nil_of_le (by omega)]; simp)
  | succ d ih =>
    intro i h
    refine next ?_
    have ha : i < a.length := by omega
    have hb : i < b.length := by omega
    have e : (a.drop i = b.drop i) ↔ (a[i] = b[i] ∧ a.drop (i + 1) = b.drop (i + 1)) := by
      rw [List.drop_eq_getElem_cons ha, List.drop_eq_getElem_cons hb]
      exact List.cons_eq_cons
    simp only [slices_Equal_int_int.l0, if_pos (show (i : Int) < (a.length : Int) by omega), if_pos (show (0 : Int) ≤ i by omega), if_pos (show (i : Int) < (b.length : Int) by omega), rd_get a i ha, rd_get b i hb]
    by_cases he : a[i] = b[i]
    · simp only [if_pos he, up1 (show i < 9223372036854775807 by omega)]
      exact ev_eq (ih (i + 1) (by omega)) (decide_eq_decide.mpr (by rw [e]; exact ⟨fun x => ⟨he, x⟩, fun x => x.2⟩))
    · simp only [if_neg he]
      exact ev_some (by rw [eq_comm, decide_eq_false_iff_not, e]; exact fun x => he x.1)
theorem eqInts (a b : List Int) (hn : a.length ≤ 9223372036854775807) : Ev (fun k => slices_Equal_int_int.f k a b) (decide (a = b)) := by
  simp only [slices_Equal_int_int.f]
  by_cases h : a.length = b.length
  · simp only [if_pos (show (a.length : Int) = (b.length : Int) by omega)]
    exact eqInts_l0 a b h hn a.length 0 (by omega)
  · simp only [if_neg (show ¬ (a.length : Int) = (b.length : Int) by omega)]
    exact ev_some (by simp; intro e; exact h (by rw [e]))
theorem eqBools_l0 (a b : List Bool) (hl : a.length = b.length) (hn : a.length ≤ 9223372036854775807) : ∀ d i : Nat, i + d = a.length → Ev (fun k => slices_Equal_bool_bool.l0 k a b (a.length : Int) i) (decide (a.drop i = b.drop i)) := by
  intro d
  induction d with
  | zero =>
    intro i h
    refine next ?_
    simp only [slices_Equal_bool_bool.l0, if_neg (show ¬ (i : Int) < (a.length : Int) by omega)]
    exact ev_some (by rw [List.drop_eq_nil_of_le (by omega), List.drop_eq_nil_of_le (by omega)]; simp)
  | succ d ih =>
    intro i h
    refine next ?_
    have ha : i < a.length := by omega
    have hb : i < b.length := by omega
    have e : (a.drop i = b.drop i) ↔ (a[i] = b[i] ∧ a.drop (i + 1) = b.drop (i + 1)) := by
      rw [List.drop_eq_getElem_cons ha, List.drop_eq_getElem_cons hb]
      exact List.cons_eq_cons
    simp only [slices_Equal_bool_bool.l0, if_pos (show (i : Int) < (a.length : Int) by omega), if_pos (show (0 : Int) ≤ i by omega), if_pos (show (i : Int) < (b.length : Int) by omega), rdOf_get _ a i ha, rdOf_get _ b i hb]
    by_cases he : a[i] = b[i]
    · simp only [show (a[i] != b[i]) = false from bne_eq_false_iff_eq.mpr he, Bool.false_ne_true, if_false, up1 (show i < 9223372036854775807 by omega)]
      exact ev_eq (ih (i + 1) (by omega)) (decide_eq_decide.mpr (by rw [e]; exact ⟨fun x => ⟨he, x⟩, fun x => x.2⟩))
    · simp only [show (a[i] != b[i]) = true from bne_iff_ne.mpr he, if_true]
      exact ev_some (by rw [eq_comm, decide_eq_false_iff_not, e]; exact fun x => he x.1)
theorem eqBools (a b : List Bool) (hn : a.length ≤ 9223372036854775807) : Ev (fun k => slices_Equal_bool_bool.f k a b) (decide (a = b)) := by
  simp only [slices_Equal_bool_bool.f]
  by_cases h : a.length = b.length
  · simp only [if_pos (show (a.length : Int) = (b.length : Int) by omega)]
    exact eqBools_l0 a b h hn a.length 0 (by omega)
  · simp only [if_neg (show ¬ (a.length : Int) = (b.length : Int) by omega)]
    exact ev_some (by simp; intro e; exact h (by rw [e]))
set_option maxHeartbeats 2000000 in
theorem eqClosure (A0 : Option Addr) (c0 : Nat) (a : List Int) (A1 : Option Addr) (c1 : Nat) (b : List Int) (w : World) (ha : Kd.C (Kd.int .i64) w A0 a.length a) (hc0 : a.length ≤ c0) (hb : Kd.C (Kd.int .i64) w A1 b.length b) (hc1 : b.length ≤ c1) :
    Calls Try.prog 98 #[.slice A0 a.length c0, .slice A1 b.length c1] w fun e w' => e = .returned (.bool (decide (a = b))) ∧ Below w.heap.size w w' := by
  obtain ⟨k, hk⟩ := (eqInts a b ha.2.1).rounds
  have HC := am_ (slices_Equal_int_int.calls k A0 c0 a A1 c1 b _ w ha hc0 hb hc1 hk)
  clear hk ha hb hc0 hc1
  generalize decide (a = b) = r at HC ⊢
  go_enter Try.func98, Try.ntmps98
  go_wp2_with (go_at_call 99; refine HC.out.mono ?_; rintro e w' ⟨rfl, ⟨m, rfl⟩⟩)
  go_ret
  exact ⟨rfl, Drawn0.below ⟨⟨_, rfl⟩⟩⟩
theorem eqRows_any (A0 : Option Addr) (c0 : Nat) (a : List (List Int)) (A1 : Option Addr) (c1 : Nat) (b : List (List Int)) (w : World) (ha : Kd.C (Kd.slice 3 (Kd.int .i64)) w A0 a.length a) (hb : Kd.C (Kd.slice 3 (Kd.int .i64)) w A1 b.length b) (W : World) (hw : Below w.heap.size w W) :
    Calls Try.prog 97 #[.slice A0 a.length c0, .slice A1 b.length c1, .func (.func 98) #[] #[]] W fun e w' => e = .returned (.bool (decide (a = b))) ∧ Below W.heap.size W w' := by
  have hWa := Kd.C_below ha hw
  have hWb := Kd.C_below hb hw
  by_cases hl : a.length = b.length
  · have e : decide (a = b) = (List.range a.length).all (fun j => decide (a.getD j [] = b.getD j [])) := by
      rw [Bool.eq_iff_iff, decide_eq_true_eq, List.all_eq_true]
      constructor
      · rintro rfl x _
        simp
      · intro h
        apply List.ext_getElem hl
        intro j h1 h2
        have := h j (List.mem_range.mpr h1)
        simp only [decide_eq_true_eq, List.getD_eq_getElem?_getD, List.getElem?_eq_getElem h1, List.getElem?_eq_getElem h2, Option.getD_some] at this
        exact this
    rw [e]
    have hb2 : Calls Try.prog 97 #[.slice A0 a.length c0, .slice A1 a.length c1, .func (.func 98) #[] #[]] W fun e w' => e = .returned (.bool ((List.range a.length).all (fun j => decide (a.getD j [] = b.getD j [])))) ∧ Below W.heap.size W w' := by
      rcases Nat.eq_zero_or_pos a.length with h0 | h0
      · exact equalRows (V1 := fun _ => .bool false) (V2 := fun _ => .bool false) (p := fun j => decide (a.getD j [] = b.getD j [])) A0 A1 a.length c0 c1 98 #[] (enters_of Try.func98 (by kernel_rfl) rfl) W ha.2.1 (fun h => by omega) (fun h => by omega) (fun j hj => by omega)
      · obtain ⟨ad0, rfl, h1⟩ := cellsRowsC hWa h0
        obtain ⟨ad1, rfl, h2⟩ := cellsRowsC hWb (by omega)
        refine equalRows (V1 := fun j => (W.cell? (ad0.add j)).getD (.bool false)) (V2 := fun j => (W.cell? (ad1.add j)).getD (.bool false)) (p := fun j => decide (a.getD j [] = b.getD j [])) _ _ a.length c0 c1 98 #[] (enters_of Try.func98 (by kernel_rfl) rfl) W ha.2.1 (fun _ => ⟨ad0, rfl, fun j hj => ?_⟩) (fun _ => ⟨ad1, rfl, fun j hj => ?_⟩) (fun j hj W' hb' => ?_)
        · obtain ⟨Aj, cj, q1, _⟩ := h1 j hj
          rw [q1]; rfl
        · obtain ⟨Aj, cj, q1, _⟩ := h2 j (by omega)
          rw [q1]; rfl
        · obtain ⟨Aj, cj, q1, q2, q3⟩ := h1 j hj
          obtain ⟨Bj, dj, r1, r2, r3⟩ := h2 j (by omega)
          simp only [q1, r1, Option.getD_some]
          exact eqClosure Aj cj (a.getD j []) Bj dj (b.getD j []) W' (Kd.C_below q3 hb') q2 (Kd.C_below r3 hb') r2
    rw [← hl]
    exact hb2
  · have e : decide (a = b) = false := decide_eq_false (fun e => hl (by rw [e]))
    rw [e]
    exact equalRows_ne A0 A1 a.length b.length c0 c1 _ W hl
set_option maxHeartbeats 2000000 in
theorem equalCalls (A0_0 : Option Addr) (c0_0 : Nat) (l0_0 : List Bool) (A0_1 : Option Addr) (c0_1 : Nat) (l0_1 : List (List Int)) (A1_0 : Option Addr) (c1_0 : Nat) (l1_0 : List Bool) (A1_1 : Option Addr) (c1_1 : Nat) (l1_1 : List (List Int)) (w : World) (hr0_0 : Kd.C Kd.bool w A0_0 l0_0.length l0_0) (hc0_0 : l0_0.length ≤ c0_0) (hr0_1 : Kd.C (Kd.slice 3 (Kd.int .i64)) w A0_1 l0_1.length l0_1) (hc0_1 : l0_1.length ≤ c0_1) (hr1_0 : Kd.C Kd.bool w A1_0 l1_0.length l1_0) (hc1_0 : l1_0.length ≤ c1_0) (hr1_1 : Kd.C (Kd.slice 3 (Kd.int .i64)) w A1_1 l1_1.length l1_1) (hc1_1 : l1_1.length ≤ c1_1) :
    Calls Try.prog 36 #[.agg #[.slice A0_0 l0_0.length c0_0, .slice A0_1 l0_1.length c0_1], .agg #[.slice A1_0 l1_0.length c1_0, .slice A1_1 l1_1.length c1_1]] w fun e w' => e = .returned (.bool (decide (l0_0 = l1_0) && decide (l0_1 = l1_1))) ∧ Below w.heap.size w w' := by
  have hu := Try.underlying27
  obtain ⟨k, hk⟩ := (eqBools l0_0 l1_0 hr0_0.2.1).rounds
  have HC := am_ (fun W (hw : Below w.heap.size w W) => slices_Equal_bool_bool.calls k A0_0 c0_0 l0_0 A1_0 c1_0 l1_0 _ W (Kd.C_below hr0_0 hw) hc0_0 (Kd.C_below hr1_0 hw) hc1_0 hk)
  have HE := am_ (eqRows_any A0_1 c0_1 l0_1 A1_1 c1_1 l1_1 w hr0_1 hr1_1)
  clear hk hr0_0 hr1_0 hr0_1 hr1_1 hc0_0 hc0_1 hc1_0 hc1_1
  generalize decide (l0_1 = l1_1) = r2 at HE ⊢
  have HB0 := am_ (fun o1 o2 => below_alloc (below_alloc (Below.refl w.heap.size w) o1) o2)
  cases h : decide (l0_0 = l1_0) with
  | true =>
    rw [h] at HC
    clear h
    rw [Bool.true_and]
    go_enter Try.func36, Try.ntmps36
    go_wp2_with (first | (go_at_call 96; refine (HC.out _ (by exact HB0.out _ _)).mono ?_; rintro e w' ⟨rfl, ⟨m, rfl⟩⟩) | (go_at_call 97; refine (HE.out _ (by exact pw_below_drewN (HB0.out _ _) _)).mono ?_; rintro e w' ⟨rfl, hb⟩; have HB := am_ hb; clear hb))
    go_ret
    exact ⟨rfl, below_then (pw_below_drewN (HB0.out _ _) _) (by simp; omega) HB.out⟩
  | false =>
    rw [h] at HC
    clear h
    rw [Bool.false_and]
    go_enter Try.func36, Try.ntmps36
    go_wp2_with (go_at_call 96; refine (HC.out _ (by exact HB0.out _ _)).mono ?_; rintro e w' ⟨rfl, ⟨m, rfl⟩⟩)
    go_ret
    exact ⟨rfl, pw_below_drewN (HB0.out _ _) _⟩
end Go.Proofs.Ytogamkblkoobkaa.Wk
end
section
namespace Go.Proofs.Ytogamkblkoobkaa.P
open Go.RowKit Go.Proofs.YtogamkblkoobkaaW.PrintWords Go.Proofs.YtogamkblkoobkaaW.PrintLast Go.Proofs.YtogamkblkoobkaaW.PrintMore
attribute [local go_sem] max2_int min2_int max_two min_two max_three min_three max_four min_four
set_option linter.unusedVariables false
set_option linter.unusedSimpArgs false
def impl_EqualDfa.f (l0_0 : List Bool) (l0_1 : List (List Int)) (l1_0 : List Bool) (l1_1 : List (List Int)) : Option (Bool) := some (decide (l0_0 = l1_0) && decide (l0_1 = l1_1))
theorem impl_EqualDfa.calls (A0_0 : Option Addr) (c0_0 : Nat) (l0_0 : List Bool) (A0_1 : Option Addr) (c0_1 : Nat) (l0_1 : List (List Int)) (A1_0 : Option Addr) (c1_0 : Nat) (l1_0 : List Bool) (A1_1 : Option Addr) (c1_1 : Nat) (l1_1 : List (List Int)) (r : Bool) (w : World) (hr0_0 : Kd.C Kd.bool w A0_0 l0_0.length l0_0) (hc0_0 : l0_0.length ≤ c0_0) (hr0_1 : Kd.C (Kd.slice 3 (Kd.int .i64)) w A0_1 l0_1.length l0_1) (hc0_1 : l0_1.length ≤ c0_1) (hr1_0 : Kd.C Kd.bool w A1_0 l1_0.length l1_0) (hc1_0 : l1_0.length ≤ c1_0) (hr1_1 : Kd.C (Kd.slice 3 (Kd.int .i64)) w A1_1 l1_1.length l1_1) (hc1_1 : l1_1.length ≤ c1_1) (h : impl_EqualDfa.f l0_0 l0_1 l1_0 l1_1 = some r) :
    Calls Try.prog 36 #[.agg #[.slice A0_0 l0_0.length c0_0, .slice A0_1 l0_1.length c0_1], .agg #[.slice A1_0 l1_0.length c1_0, .slice A1_1 l1_1.length c1_1]] w fun e w' => e = .returned (.bool r) ∧ Below w.heap.size w w' := by
  obtain rfl := Option.some.inj h
  exact Wk.equalCalls A0_0 c0_0 l0_0 A0_1 c0_1 l0_1 A1_0 c1_0 l1_0 A1_1 c1_1 l1_1 w hr0_0 hc0_0 hr0_1 hc0_1 hr1_0 hc1_0 hr1_1 hc1_1
end Go.Proofs.Ytogamkblkoobkaa.P
end
