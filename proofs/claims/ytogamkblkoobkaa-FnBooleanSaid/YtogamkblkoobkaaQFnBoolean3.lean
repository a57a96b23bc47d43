/- Texts of the proof of FnBoolean, put together. No condition. -/
import Derived.Test.YtogamkblkoobkaaQFnBoolean2
import Derived.Shelf.Small.Strs
import Derived.Shelf.Strings.Search1
import Derived.Test.YtogamkblkoobkaaProg
section
namespace Go.Proofs.Ytogamkblkoobkaa.P
open Go.RowKit Go.Proofs.YtogamkblkoobkaaW.PrintWords Go.Proofs.YtogamkblkoobkaaW.PrintLast Go.Proofs.YtogamkblkoobkaaW.PrintMore
attribute [local go_sem] max2_int min2_int max_two min_two max_three min_three max_four min_four
set_option linter.unusedVariables false
set_option linter.unusedSimpArgs false
mutual
def spec_l5Classes.l0 : Nat → Int → List Int → Int → List Bool → List (List Int) → Option (List Int)
  | 0, _, _, _, _, _ => none
  | k + 1, x3, x4, x5, af, ah => if x5 < x3 then (if 0 ≤ x5 then (if x5 < (af.length : Int) then (if rdOf false af x5 = true then (if x5 < (x4.length : Int) then (spec_l5Classes.l0 k x3 (x4.set (x5 : Int).toNat 1) (wrap64 (x5 + 1)) af ah) else (none)) else (spec_l5Classes.l0 k x3 x4 (wrap64 (x5 + 1)) af ah)) else (none)) else (none)) else (spec_l5Classes.l1 k x3 x4 0 af ah)
def spec_l5Classes.l1 : Nat → Int → List Int → Int → List Bool → List (List Int) → Option (List Int)
  | 0, _, _, _, _, _ => none
  | k + 1, x3, x4, x6, af, ah => if x6 ≤ x3 then (if 0 ≤ x3 then (if (x3 : Int).toNat ≤ 35184372088832 then (spec_l5Classes.l2 k x3 x4 x6 (List.replicate (x3 : Int).toNat 0) 0 af ah) else (none)) else (none)) else (some x4)
def spec_l5Classes.l2 : Nat → Int → List Int → Int → List Int → Int → List Bool → List (List Int) → Option (List Int)
  | 0, _, _, _, _, _, _, _ => none
  | k + 1, x3, x4, x6, x7, x8, af, ah => if x8 < x3 then (if 0 ≤ x8 then (if x8 < (x7.length : Int) then (spec_l5Classes.l3 k x3 x4 x6 (x7.set (x8 : Int).toNat x8) x8 0 af ah) else (none)) else (none)) else (spec_l5Classes.l1 k x3 x7 (wrap64 (x6 + 1)) af ah)
def spec_l5Classes.l3 : Nat → Int → List Int → Int → List Int → Int → Int → List Bool → List (List Int) → Option (List Int)
  | 0, _, _, _, _, _, _, _, _ => none
  | k + 1, x3, x4, x6, x7, x8, x9, af, ah => if x9 < x8 then ((spec_l5Same.f k af ah x4 x9 x8).bind fun aI => (if aI = true then (if 0 ≤ x8 then (if x8 < (x7.length : Int) then (spec_l5Classes.l2 k x3 x4 x6 (x7.set (x8 : Int).toNat x9) (wrap64 (x8 + 1)) af ah) else (none)) else (none)) else (spec_l5Classes.l3 k x3 x4 x6 x7 x8 (wrap64 (x9 + 1)) af ah))) else (spec_l5Classes.l2 k x3 x4 x6 x7 (wrap64 (x8 + 1)) af ah)
end
def spec_l5Classes.f (k : Nat) (l0_0 : List Bool) (l0_1 : List (List Int)) : Option (List Int) := if 0 ≤ (l0_0.length : Int) then (if ((l0_0.length : Int) : Int).toNat ≤ 35184372088832 then (spec_l5Classes.l0 k (l0_0.length : Int) (List.replicate ((l0_0.length : Int) : Int).toNat 0) 0 l0_0 l0_1) else (none)) else (none)
theorem spec_l5Classes.mono_l : ∀ k, (∀ y0 y1 y2 y3 y4, LeO (spec_l5Classes.l0 k y0 y1 y2 y3 y4) (spec_l5Classes.l0 (k + 1) y0 y1 y2 y3 y4)) ∧ (∀ y0 y1 y2 y3 y4, LeO (spec_l5Classes.l1 k y0 y1 y2 y3 y4) (spec_l5Classes.l1 (k + 1) y0 y1 y2 y3 y4)) ∧ (∀ y0 y1 y2 y3 y4 y5 y6, LeO (spec_l5Classes.l2 k y0 y1 y2 y3 y4 y5 y6) (spec_l5Classes.l2 (k + 1) y0 y1 y2 y3 y4 y5 y6)) ∧ (∀ y0 y1 y2 y3 y4 y5 y6 y7, LeO (spec_l5Classes.l3 k y0 y1 y2 y3 y4 y5 y6 y7) (spec_l5Classes.l3 (k + 1) y0 y1 y2 y3 y4 y5 y6 y7))
 | 0 => ⟨fun _ _ _ _ _ r h => by simp [spec_l5Classes.l0] at h, fun _ _ _ _ _ r h => by simp [spec_l5Classes.l1] at h, fun _ _ _ _ _ _ _ r h => by simp [spec_l5Classes.l2] at h, fun _ _ _ _ _ _ _ _ r h => by simp [spec_l5Classes.l3] at h⟩
 | k + 1 => by
  obtain ⟨ih0, ih1, ih2, ih3⟩ := spec_l5Classes.mono_l k
  refine ⟨?_, ?_, ?_, ?_⟩
  ·intro y0 y1 y2 y3 y4
   unfold spec_l5Classes.l0
   repeat' first
   | (with_reducible exact ih0 _ _ _ _ _)
   | (with_reducible exact ih1 _ _ _ _ _)
   | (with_reducible exact ih2 _ _ _ _ _ _ _)
   | (with_reducible exact ih3 _ _ _ _ _ _ _ _)
   | (with_reducible exact spec_l5Same.mono _ _ _ _ _ _)
   | (with_reducible exact LeO.refl _)
   | (with_reducible exact LeO.none _)
   | (with_reducible refine LeO.ite ?_ ?_)
   | (with_reducible refine LeO.bind ?_ (fun _ => ?_))
   | exact ih0 _ _ _ _ _
   | exact ih1 _ _ _ _ _
   | exact ih2 _ _ _ _ _ _ _
   | exact ih3 _ _ _ _ _ _ _ _
   | exact spec_l5Same.mono _ _ _ _ _ _
   | exact LeO.none _
   | refine LeO.ite ?_ ?_
   | refine LeO.bind ?_ (fun _ => ?_)
  ·intro y0 y1 y2 y3 y4
   unfold spec_l5Classes.l1
   repeat' first
   | (with_reducible exact ih0 _ _ _ _ _)
   | (with_reducible exact ih1 _ _ _ _ _)
   | (with_reducible exact ih2 _ _ _ _ _ _ _)
   | (with_reducible exact ih3 _ _ _ _ _ _ _ _)
   | (with_reducible exact spec_l5Same.mono _ _ _ _ _ _)
   | (with_reducible exact LeO.refl _)
   | (with_reducible exact LeO.none _)
   | (with_reducible refine LeO.ite ?_ ?_)
   | (with_reducible refine LeO.bind ?_ (fun _ => ?_))
   | exact ih0 _ _ _ _ _
   | exact ih1 _ _ _ _ _
   | exact ih2 _ _ _ _ _ _ _
   | exact ih3 _ _ _ _ _ _ _ _
   | exact spec_l5Same.mono _ _ _ _ _ _
   | exact LeO.none _
   | refine LeO.ite ?_ ?_
   | refine LeO.bind ?_ (fun _ => ?_)
  ·intro y0 y1 y2 y3 y4 y5 y6
   unfold spec_l5Classes.l2
   repeat' first
   | (with_reducible exact ih0 _ _ _ _ _)
   | (with_reducible exact ih1 _ _ _ _ _)
   | (with_reducible exact ih2 _ _ _ _ _ _ _)
   | (with_reducible exact ih3 _ _ _ _ _ _ _ _)
   | (with_reducible exact spec_l5Same.mono _ _ _ _ _ _)
   | (with_reducible exact LeO.refl _)
   | (with_reducible exact LeO.none _)
   | (with_reducible refine LeO.ite ?_ ?_)
   | (with_reducible refine LeO.bind ?_ (fun _ => ?_))
   | exact ih0 _ _ _ _ _
   | exact ih1 _ _ _ _ _
   | exact ih2 _ _ _ _ _ _ _
   | exact ih3 _ _ _ _ _ _ _ _
   | exact spec_l5Same.mono _ _ _ _ _ _
   | exact LeO.none _
   | refine LeO.ite ?_ ?_
   | refine LeO.bind ?_ (fun _ => ?_)
  ·intro y0 y1 y2 y3 y4 y5 y6 y7
   unfold spec_l5Classes.l3
   repeat' first
   | (with_reducible exact ih0 _ _ _ _ _)
   | (with_reducible exact ih1 _ _ _ _ _)
   | (with_reducible exact ih2 _ _ _ _ _ _ _)
   | (with_reducible exact ih3 _ _ _ _ _ _ _ _)
   | (with_reducible exact spec_l5Same.mono _ _ _ _ _ _)
   | (with_reducible exact LeO.refl _)
   | (with_reducible exact LeO.none _)
   | (with_reducible refine LeO.ite ?_ ?_)
   | (with_reducible refine LeO.bind ?_ (fun _ => ?_))
   | exact ih0 _ _ _ _ _
   | exact ih1 _ _ _ _ _
   | exact ih2 _ _ _ _ _ _ _
   | exact ih3 _ _ _ _ _ _ _ _
   | exact spec_l5Same.mono _ _ _ _ _ _
   | exact LeO.none _
   | refine LeO.ite ?_ ?_
   | refine LeO.bind ?_ (fun _ => ?_)
theorem spec_l5Classes.mono : ∀ a0 a1 k, LeO (spec_l5Classes.f k a0 a1) (spec_l5Classes.f (k + 1) a0 a1) := by
 intro a0 a1 k
 obtain ⟨ih0, ih1, ih2, ih3⟩ := spec_l5Classes.mono_l k
 unfold spec_l5Classes.f
 repeat' first
   | (with_reducible exact ih0 _ _ _ _ _)
   | (with_reducible exact ih1 _ _ _ _ _)
   | (with_reducible exact ih2 _ _ _ _ _ _ _)
   | (with_reducible exact ih3 _ _ _ _ _ _ _ _)
   | (with_reducible exact spec_l5Same.mono _ _ _ _ _ _)
   | (with_reducible exact LeO.refl _)
   | (with_reducible exact LeO.none _)
   | (with_reducible refine LeO.ite ?_ ?_)
   | (with_reducible refine LeO.bind ?_ (fun _ => ?_))
   | exact ih0 _ _ _ _ _
   | exact ih1 _ _ _ _ _
   | exact ih2 _ _ _ _ _ _ _
   | exact ih3 _ _ _ _ _ _ _ _
   | exact spec_l5Same.mono _ _ _ _ _ _
   | exact LeO.none _
   | refine LeO.ite ?_ ?_
   | refine LeO.bind ?_ (fun _ => ?_)
theorem zp4_0_ {p q g1 : Prop} (h : p) (h1 : g1) (c : p → g1 → q := by intro h_ h1_; repeat (first | (with_reducible first | exact h_ | apply below_alloc | apply pw_below_drewN | apply below_drew1 | refine below_set ?_ h1_) | exact h_)) : q := c h h1
set_option maxHeartbeats 8000000 in
set_option maxRecDepth 100000 in
theorem spec_l5Classes.calls (k : Nat) (A0_0 : Option Addr) (c0_0 : Nat) (l0_0 : List Bool) (A0_1 : Option Addr) (c0_1 : Nat) (l0_1 : List (List Int)) (r : List Int) (w : World) (hr0_0 : Kd.C Kd.bool w A0_0 l0_0.length l0_0) (hc0_0 : l0_0.length ≤ c0_0) (hr0_1 : Kd.C (Kd.slice 3 (Kd.int .i64)) w A0_1 l0_1.length l0_1) (hc0_1 : l0_1.length ≤ c0_1) (h : spec_l5Classes.f k l0_0 l0_1 = some r) :
  Calls Try.prog 126 #[.agg #[.slice A0_0 l0_0.length c0_0, .slice A0_1 l0_1.length c0_1]] w fun e w' => ∃ v0_ : Value, e = .returned (v0_) ∧ Kd.R (Kd.int .i64) 3 w' w.heap.size (fun _ => True) v0_ r ∧ Below w.heap.size w w' := by
 have hu27 := Try.underlying27
 have aG := am_ hr0_0
 have aM := am_ hc0_0
 clear hr0_0 hc0_0
 have aN := am_ hr0_1
 have aO := am_ hc0_1
 clear hr0_1 hc0_1
 have HB := am_ (Below.refl w.heap.size w)
 have H : (if 0 ≤ (l0_0.length : Int) then (if ((l0_0.length : Int) : Int).toNat ≤ 35184372088832 then (spec_l5Classes.l0 k (l0_0.length : Int) (List.replicate ((l0_0.length : Int) : Int).toNat 0) 0 l0_0 l0_1) else (none)) else (none)) = some r := h
 clear h
 by_cases c2 : 0 ≤ (l0_0.length : Int)
 ·rw [if_pos c2] at H
  have c2b0 := eq_true c2
  have c2b1 : decide (0 ≤ (l0_0.length : Int)) = true := decide_eq_true c2
  clear c2
  by_cases c3 : ((l0_0.length : Int) : Int).toNat ≤ 35184372088832
  ·rw [if_pos c3] at H
   have c3b0 := eq_true c3
   have c3b1 : decide (((l0_0.length : Int) : Int).toNat ≤ 35184372088832) = true := decide_eq_true c3
   clear c3
   obtain ⟨aS, hy131⟩ : ∃ y_ : List Int, y_ = (List.replicate ((l0_0.length : Int) : Int).toNat 0) := ⟨_, rfl⟩
   replace H : (spec_l5Classes.l0 k (l0_0.length : Int) aS 0 l0_0 l0_1) = some r := by first | (rw [hy131]; with_reducible exact H) | (have H2_ := (Option.bind_some _ _).symm.trans H; rw [hy131]; with_reducible exact H2_) | (have H2_ := (Option.bind_some _ _).symm.trans H; with_reducible exact H2_) | with_reducible exact H | (rw [hy131]; exact H) | exact H
   have aP := am_ hy131
   clear hy131
   have H' := am_ H
   clear H
   go_enter Try.func126, Try.ntmps126
   go_wp2_with (first | ((with_reducible refine gate_dst (N := 1) rfl ?_); refine box_event ?hg (N := 1) ?hd (cs := #[.slice A0_0 l0_0.length c0_0, .slice A0_1 l0_1.length c0_1]) (t := 27) ?hr ?_; (case hd => rfl); (case hg => rfl); (case hr => first | (go_simp; done) | (go_simp; rfl)); intro aq hg w4 hbox hb; replace aa := am_ (hbox); replace bx := am_ ((by rw [hg]; exact (below_size (b0_ HB.out)) : w.heap.size ≤ aq)); replace aj := am_ ((by rw [hg]; exact (below_size (b0_ HB.out)) : w.heap.size ≤ aq)); replace HB := am_ (below_step (b0_ HB.out) hb); clear hb hbox hg; have au := ck_ (v := (.slice A0_0 l0_0.length c0_0)) aa 0 rfl; have av := ck_ (v := (.slice A0_1 l0_1.length c0_1)) aa 1 rfl; have aw := blk_frozen aa.out 0; have ax := blk_frozen aa.out 1) | ((with_reducible refine gate_dst (N := 14) rfl ?_); refine Kd.R_make (Kd.int .i64) _ 3 rfl (N := 14) rfl 67 _ _ rfl (l0_0.length : Int) rfl rfl Try.underlying67 (.int .i64 0) 8 info3 rfl (by decide) (by omega) 0 (ok := fun _ => True) (okp := fun _ => True) rfl (fun _ hk => hk) trivial (of_decide_eq_true ah_) (Nat.le_trans (Nat.mul_le_mul_right _ (of_decide_eq_true ah_ : (l0_0.length : Int).toNat ≤ 35184372088832)) (by omega)) (Below.refl _ _) (Nat.le_refl _) ?_; intro bi w6 ho7 hb hg_ hnew_; clear hg_ hnew_; (first | rw [← aP.out] at ho7 | (simp only [Int.reduceToNat] at ho7; rw [← aP.out] at ho7)); have n0_ := am_ (Kd.R_lower ho7 (below_size (b1_ HB.out aj.out))); have n1_ := am_ (blk_below (rb_ aa.out) hb); have n2_ := am_ (below_step (b1_ HB.out aj.out) hb); clear aa; clear HB; have bd := n0_; have aa := n1_; have HB := n2_; clear n0_ n1_ n2_; clear hb ho7))
   go_loopg [5] k (fun kq v5 w' => ∃ (al : List Int) (ae : Int), v5 = .int .i64 ae ∧ Aside0 (spec_l5Classes.l0 kq (l0_0.length : Int) al ae l0_0 l0_1 = some r) ∧ Aside0 (kq ≤ k) ∧ Aside0 (Kd.R (Kd.int .i64) 3 w' w.heap.size (fun _ => True) bi al) ∧ Aside0 (w'.heap[aq]? = some (.cells #[(.slice A0_0 l0_0.length c0_0), (.slice A0_1 l0_1.length c0_1)] 27 (0, 0))) ∧ Aside0 (Below w.heap.size w w'))
   case atStart => exact ⟨(aS), (0), (by first | rfl | (simp; done) | (simp [*]; done)), H', ⟨Nat.le_refl _⟩, ⟨by refine rr_ ?_; exact bd.out⟩, ⟨by refine rb_ ?_; exact aa.out⟩, ⟨by exact zp4_0_ HB.out aj.out⟩⟩
   case round =>
    clear H'
    try clear c1
    try clear c2
    try clear c2b0
    try clear c2b1
    try clear p2
    try clear c3
    try clear c3b0
    try clear c3b1
    try clear au
    try clear av
    try clear aw
    try clear ax
    obtain ⟨al, ae, rfl, HA, HK1, ad, aa, HB⟩ := hrel
    cases gk with
    | zero => exact absurd HA.out (by simp [spec_l5Classes.l0])
    | succ k1 =>
     have H := HA.out
     clear HA
     simp only [spec_l5Classes.l0] at H
     by_cases c8 : ae < (l0_0.length : Int)
     ·rw [if_pos c8] at H
      have c8b0 : decide (ae < (l0_0.length : Int)) = true := decide_eq_true c8
      clear c8
      by_cases c9 : 0 ≤ ae
      ·rw [if_pos c9] at H
       have c9b0 : decide (0 ≤ ae) = true := decide_eq_true c9
       clear c9
       by_cases c10 : ae < (l0_0.length : Int)
       ·rw [if_pos c10] at H
        have c10b0 : decide (ae < (l0_0.length : Int)) = true := decide_eq_true c10
        clear c10
        obtain ⟨bq11, hbq11⟩ : ∃ b_ : Bool, b_ = (rdOf false l0_0 ae) := ⟨_, rfl⟩
        replace H : (if bq11 = true then (if ae < (al.length : Int) then (spec_l5Classes.l0 k1 (l0_0.length : Int) (al.set (ae : Int).toNat 1) (wrap64 (ae + 1)) l0_0 l0_1) else (none)) else (spec_l5Classes.l0 k1 (l0_0.length : Int) al (wrap64 (ae + 1)) l0_0 l0_1)) = some r := by rw [← hbq11] at H; exact H
        have Nbq11 := am_ hbq11
        clear hbq11
        by_cases c12 : bq11 = true
        ·subst c12
         have H1 : (if ae < (al.length : Int) then (spec_l5Classes.l0 k1 (l0_0.length : Int) (al.set (ae : Int).toNat 1) (wrap64 (ae + 1)) l0_0 l0_1) else (none)) = some r := by rw [if_pos rfl] at H; exact H
         clear H
         have H := H1
         clear H1
         by_cases c13 : ae < (al.length : Int)
         ·rw [if_pos c13] at H
          have c13b0 : decide (ae < (al.length : Int)) = true := decide_eq_true c13
          clear c13
          obtain ⟨aJ, hy135⟩ : ∃ y_ : List Int, y_ = (al.set (ae : Int).toNat 1) := ⟨_, rfl⟩
          replace H : (spec_l5Classes.l0 k1 (l0_0.length : Int) aJ (wrap64 (ae + 1)) l0_0 l0_1) = some r := by first | (rw [hy135]; with_reducible exact H) | (have H2_ := (Option.bind_some _ _).symm.trans H; rw [hy135]; with_reducible exact H2_) | (have H2_ := (Option.bind_some _ _).symm.trans H; with_reducible exact H2_) | with_reducible exact H | (rw [hy135]; exact H) | exact H
          have be := am_ hy135
          clear hy135
          have H' := am_ H
          clear H
          have ay := ck_ (v := (.slice A0_0 l0_0.length c0_0)) aa 0 rfl
          have az := ck_ (v := (.slice A0_1 l0_1.length c0_1)) aa 1 rfl
          have aA := blk_frozen aa.out 0
          have aB := blk_frozen aa.out 1
          have p134 : 0 ≤ (ae : Int) := of_decide_eq_true ah_
          have q134 : ae < (l0_0.length : Int) := of_decide_eq_true ah_
          obtain ⟨aQ, e134, ai⟩ := Kd.at_bool aG.out ae p134 q134
          (try rw [← Nbq11.out] at ai)
          cases e134
          replace ai := (HB.out.cell (World.block_lt_of_cell? w _ ai)).trans ai
          replace p134 := eq_true p134
          replace q134 := eq_true q134
          have p14 : 0 ≤ (ae : Int) := of_decide_eq_true ah_
          have q14 : (ae : Int) < ((al.length : Int) : Int) := of_decide_eq_true ah_
          obtain ⟨go14, bj, aT, aU, gl14, cl14, HG14⟩ := Kd.R_form ad.out (by omega)
          (first | cases aT | (injection aT with ea_ en_ ec_; (first | subst ea_ | (injection ea_ with ea_; subst ea_)); subst ec_; clear en_))
          have GB14 := am_ aU
          have GG14 := am_ HG14
          clear aU gl14 HG14
          obtain ⟨aH, hf14_0⟩ := Kd.R_celln 0 ad.out (ae : Int) p14 q14
          replace p14 := eq_true p14
          replace q14 := eq_true q14
          have HP16 := Kd.R_putg ad.out (ae : Int) 1
          go_wp2_with (first | ((with_reducible refine gate_store (t := 3) (p := 27) rfl ?_); refine store_event (t := 3) (p := 27) (v := ?vo_w17) (w1 := (wr.setCell ⟨go14, (ae : Int).toNat, none⟩ (.int .i64 1))) ?hg ?ho ?hn ?hr ?_; (case ho => rfl); (case hg => rfl); (case hn => rfl); (case hr => first | (go_simp; done) | (go_simp; rfl)); intro w17 hw; have hg : wr.grownBy w17 (some go14) := (by rw [hw]; exact HP16.2); have hp_ : Kd.R (Kd.int .i64) 3 w17 w.heap.size (fun _ => True) (.slice (some ⟨go14, 0, none⟩) al.length bj) aJ := (by rw [hw, be.out]; exact HP16.1); clear HP16; have n0_ := am_ (hp_); have n1_ := am_ (blk_grown (g := aq) (o := .cells #[.slice (some aQ) l0_0.length c0_0, .slice A0_1 l0_1.length c0_1] 27 (0, 0)) (rb_ aa.out) hg (Kd.R_ne ad.out aa.out (by decide))); have n2_ := am_ ((by rw [hw]; exact below_set (HB.out) GB14.out : Below w.heap.size w w17)); clear ad; clear aa; clear HB; have ad := n0_; have aa := n1_; have HB := n2_; clear n0_ n1_ n2_; clear hg hw hp_))
          go_roundg k1
          case measure => have := HK1.out; omega
          case rel => exact ⟨(aJ), (wrap64 (ae + 1)), (by first | rfl | (simp; done) | (simp [*]; done)), H', ⟨by have := HK1.out; omega⟩, ⟨by refine rr_ ?_; exact ad.out⟩, ⟨by refine rb_ ?_; exact aa.out⟩, ⟨by exact zp4_0_ HB.out aj.out⟩⟩
         ·rw [if_neg c13] at H
          exact absurd H (by simp)
        ·replace c12 := Bool.eq_false_iff.mpr c12
         subst c12
         have H1 : (spec_l5Classes.l0 k1 (l0_0.length : Int) al (wrap64 (ae + 1)) l0_0 l0_1) = some r := by rw [if_neg (show ¬ (false = true) by decide)] at H; exact H
         clear H
         have H := H1
         clear H1
         have H' := am_ H
         clear H
         have aC := ck_ (v := (.slice A0_0 l0_0.length c0_0)) aa 0 rfl
         have aD := ck_ (v := (.slice A0_1 l0_1.length c0_1)) aa 1 rfl
         have aE := blk_frozen aa.out 0
         have aF := blk_frozen aa.out 1
         have p134 : 0 ≤ (ae : Int) := of_decide_eq_true ah_
         have q134 : ae < (l0_0.length : Int) := of_decide_eq_true ah_
         obtain ⟨aQ, e134, ai⟩ := Kd.at_bool aG.out ae p134 q134
         (try rw [← Nbq11.out] at ai)
         cases e134
         replace ai := (HB.out.cell (World.block_lt_of_cell? w _ ai)).trans ai
         replace p134 := eq_true p134
         replace q134 := eq_true q134
         go_wp2
         go_roundg k1
         case measure => have := HK1.out; omega
         case rel => exact ⟨(al), (wrap64 (ae + 1)), (by first | rfl | (simp; done) | (simp [*]; done)), H', ⟨by have := HK1.out; omega⟩, ⟨by refine rr_ ?_; exact ad.out⟩, ⟨by refine rb_ ?_; exact aa.out⟩, ⟨by exact zp4_0_ HB.out aj.out⟩⟩
       ·rw [if_neg c10] at H
        exact absurd H (by simp)
      ·rw [if_neg c9] at H
       exact absurd H (by simp)
     ·rw [if_neg c8] at H
      have c8b0 : decide (ae < (l0_0.length : Int)) = false := decide_eq_false c8
      clear c8
      have H' := am_ H
      clear H
      go_wp2
      go_loopg [4, 6] k1 (fun kq v4 v6 w' => ∃ (ak : List Int) (ao : Int), v6 = .int .i64 ao ∧ Aside0 (spec_l5Classes.l1 kq (l0_0.length : Int) ak ao l0_0 l0_1 = some r) ∧ Aside0 (kq ≤ k1) ∧ Aside0 (Kd.R (Kd.int .i64) 3 w' w.heap.size (fun _ => True) v4 ak) ∧ Aside0 (w'.heap[aq]? = some (.cells #[(.slice A0_0 l0_0.length c0_0), (.slice A0_1 l0_1.length c0_1)] 27 (0, 0))) ∧ Aside0 (Below w.heap.size w w'))
      case atStart => exact ⟨(al), (0), (by first | rfl | (simp; done) | (simp [*]; done)), H', ⟨Nat.le_refl _⟩, ⟨by refine rr_ ?_; exact ad.out⟩, ⟨by refine rb_ ?_; exact aa.out⟩, ⟨by exact zp4_0_ HB.out aj.out⟩⟩
      case round =>
       clear H'
       try clear c1
       try clear p1
       try clear q1
       try clear hx1
       try clear hf1
       try clear c2
       try clear c2b0
       try clear c2b1
       try clear p2
       try clear c3
       try clear c3b0
       try clear c3b1
       try clear p6
       try clear c8
       try clear c8b0
       try clear c9
       try clear c9b0
       try clear c10
       try clear c10b0
       try clear q11
       try clear c12
       try clear c13
       try clear c13b0
       try clear p13
       try clear q13
       try clear hx13
       try clear p14
       try clear q14
       try clear hx14
       try clear hf14
       try clear ay
       try clear az
       try clear aC
       try clear aD
       try clear au
       try clear av
       try clear aA
       try clear aB
       try clear aE
       try clear aF
       try clear aw
       try clear ax
       try clear ai
       try clear aH
       try clear p134
       try clear p14
       try clear p2
       try clear q134
       try clear q14
       obtain ⟨ak, ao, rfl, HA, HK2, ad, aa, HB⟩ := hrel
       cases gk with
       | zero => exact absurd HA.out (by simp [spec_l5Classes.l1])
       | succ k2 =>
        have H := HA.out
        clear HA
        simp only [spec_l5Classes.l1] at H
        by_cases c19 : ao ≤ (l0_0.length : Int)
        ·rw [if_pos c19] at H
         have c19b0 : decide (ao ≤ (l0_0.length : Int)) = true := decide_eq_true c19
         clear c19
         by_cases c20 : 0 ≤ (l0_0.length : Int)
         ·rw [if_pos c20] at H
          have c20b0 := eq_true c20
          have c20b1 : decide (0 ≤ (l0_0.length : Int)) = true := decide_eq_true c20
          clear c20
          by_cases c21 : ((l0_0.length : Int) : Int).toNat ≤ 35184372088832
          ·rw [if_pos c21] at H
           have c21b0 := eq_true c21
           have c21b1 : decide (((l0_0.length : Int) : Int).toNat ≤ 35184372088832) = true := decide_eq_true c21
           clear c21
           obtain ⟨aV, hy136⟩ : ∃ y_ : List Int, y_ = (List.replicate ((l0_0.length : Int) : Int).toNat 0) := ⟨_, rfl⟩
           replace H : (spec_l5Classes.l2 k2 (l0_0.length : Int) ak ao aV 0 l0_0 l0_1) = some r := by first | (rw [hy136]; with_reducible exact H) | (have H2_ := (Option.bind_some _ _).symm.trans H; rw [hy136]; with_reducible exact H2_) | (have H2_ := (Option.bind_some _ _).symm.trans H; with_reducible exact H2_) | with_reducible exact H | (rw [hy136]; exact H) | exact H
           have aR := am_ hy136
           clear hy136
           have H' := am_ H
           clear H
           go_wp2_with (first | ((with_reducible refine gate_dst (N := 34) rfl ?_); refine Kd.R_make (Kd.int .i64) _ 3 rfl (N := 34) rfl 67 _ _ rfl (l0_0.length : Int) rfl rfl Try.underlying67 (.int .i64 0) 8 info3 rfl (by decide) (by omega) 0 (ok := fun _ => True) (okp := fun _ => True) rfl (fun _ hk => hk) trivial (of_decide_eq_true ah_) (Nat.le_trans (Nat.mul_le_mul_right _ (of_decide_eq_true ah_ : (l0_0.length : Int).toNat ≤ 35184372088832)) (by omega)) (Below.refl _ _) (Nat.le_refl _) ?_; intro aW w22 ho23 hb hg_ hnew_; clear hg_ hnew_; (first | rw [← aR.out] at ho23 | (simp only [Int.reduceToNat] at ho23; rw [← aR.out] at ho23)); have n0_ := am_ (Kd.R_elder' (rr_ ad.out) (Kd.R_base ho23) hb); have n1_ := am_ (Kd.R_lower (Kd.R_new' ho23 (Kd.R_lt (rr_ ad.out))) (below_size (b1_ HB.out aj.out))); have n2_ := am_ (blk_below (rb_ aa.out) hb); have n3_ := am_ (below_step (b1_ HB.out aj.out) hb); clear ad; clear aa; clear HB; have ad := n0_; have bf := n1_; have aa := n2_; have HB := n3_; clear n0_ n1_ n2_ n3_; clear hb ho23))
           go_loopg [8] k2 (fun kq v8 w' => ∃ (ap : List Int) (ab : Int), v8 = .int .i64 ab ∧ Aside0 (spec_l5Classes.l2 kq (l0_0.length : Int) ak ao ap ab l0_0 l0_1 = some r) ∧ Aside0 (kq ≤ k2) ∧ Aside0 (Kd.R (Kd.int .i64) 3 w' w.heap.size (fun k_ => some k_ ≠ (aW : Value).ownBlock) u4 ak) ∧ Aside0 (Kd.R (Kd.int .i64) 3 w' w.heap.size (fun k_ => some k_ ≠ (u4 : Value).ownBlock) aW ap) ∧ Aside0 (w'.heap[aq]? = some (.cells #[(.slice A0_0 l0_0.length c0_0), (.slice A0_1 l0_1.length c0_1)] 27 (0, 0))) ∧ Aside0 (Below w.heap.size w w'))
           case atStart => exact ⟨(aV), (0), (by first | rfl | (simp; done) | (simp [*]; done)), H', ⟨Nat.le_refl _⟩, ⟨by refine rr_ ?_; exact Kd.R_mono ad.out (fun _ hk => hk.2)⟩, ⟨by refine rr_ ?_; exact Kd.R_mono bf.out (fun _ hk => hk.2)⟩, ⟨by refine rb_ ?_; exact aa.out⟩, ⟨by exact zp4_0_ HB.out aj.out⟩⟩
           case round =>
            clear H'
            try clear c1
            try clear p1
            try clear q1
            try clear hx1
            try clear hf1
            try clear c2
            try clear c2b0
            try clear c2b1
            try clear p2
            try clear c3
            try clear c3b0
            try clear c3b1
            try clear p6
            try clear c8
            try clear c8b0
            try clear c9
            try clear c9b0
            try clear c10
            try clear c10b0
            try clear q11
            try clear c12
            try clear c13
            try clear c13b0
            try clear p13
            try clear q13
            try clear hx13
            try clear p14
            try clear q14
            try clear hx14
            try clear hf14
            try clear c19
            try clear c19b0
            try clear c20
            try clear c20b0
            try clear c20b1
            try clear c21
            try clear c21b0
            try clear c21b1
            try clear ay
            try clear az
            try clear aC
            try clear aD
            try clear au
            try clear av
            try clear aA
            try clear aB
            try clear aE
            try clear aF
            try clear aw
            try clear ax
            try clear ai
            try clear aH
            try clear p1
            try clear p13
            try clear p134
            try clear p14
            try clear p2
            try clear p6
            try clear q1
            try clear q11
            try clear q13
            try clear q134
            try clear q14
            obtain ⟨ap, ab, rfl, HA, HK3, ad, ag, aa, HB⟩ := hrel
            cases gk with
            | zero => exact absurd HA.out (by simp [spec_l5Classes.l2])
            | succ k3 =>
             have H := HA.out
             clear HA
             simp only [spec_l5Classes.l2] at H
             by_cases c24 : ab < (l0_0.length : Int)
             ·rw [if_pos c24] at H
              have c24b0 : decide (ab < (l0_0.length : Int)) = true := decide_eq_true c24
              clear c24
              by_cases c25 : 0 ≤ ab
              ·rw [if_pos c25] at H
               have c25b0 : decide (0 ≤ ab) = true := decide_eq_true c25
               clear c25
               by_cases c26 : ab < (ap.length : Int)
               ·rw [if_pos c26] at H
                have c26b0 : decide (ab < (ap.length : Int)) = true := decide_eq_true c26
                clear c26
                obtain ⟨aK, hy139⟩ : ∃ y_ : List Int, y_ = (ap.set (ab : Int).toNat ab) := ⟨_, rfl⟩
                replace H : (spec_l5Classes.l3 k3 (l0_0.length : Int) ak ao aK ab 0 l0_0 l0_1) = some r := by first | (rw [hy139]; with_reducible exact H) | (have H2_ := (Option.bind_some _ _).symm.trans H; rw [hy139]; with_reducible exact H2_) | (have H2_ := (Option.bind_some _ _).symm.trans H; with_reducible exact H2_) | with_reducible exact H | (rw [hy139]; exact H) | exact H
                have bg := am_ hy139
                clear hy139
                have H' := am_ H
                clear H
                have p27 : 0 ≤ (ab : Int) := of_decide_eq_true ah_
                have q27 : (ab : Int) < ((ap.length : Int) : Int) := of_decide_eq_true ah_
                obtain ⟨go27, ar, aX, aY, gl27, cl27, HG27⟩ := Kd.R_form ag.out (by omega)
                (first | cases aX | (injection aX with ea_ en_ ec_; (first | subst ea_ | (injection ea_ with ea_; subst ea_)); subst ec_; clear en_))
                have GB27 := am_ aY
                have GG27 := am_ HG27
                clear aY gl27 HG27
                obtain ⟨aZ, hf27_0⟩ := Kd.R_celln 0 ag.out (ab : Int) p27 q27
                replace p27 := eq_true p27
                replace q27 := eq_true q27
                have HP28 := Kd.R_putg ag.out (ab : Int) ab
                go_wp2_with (first | ((with_reducible refine gate_store (t := 3) (p := 43) rfl ?_); refine store_event (t := 3) (p := 43) (v := ?vo_w29) (w1 := (wr.setCell ⟨go27, (ab : Int).toNat, none⟩ (.int .i64 ab))) ?hg ?ho ?hn ?hr ?_; (case ho => rfl); (case hg => rfl); (case hn => rfl); (case hr => first | (go_simp; done) | (go_simp; rfl)); intro w29 hw; have hg : wr.grownBy w29 (some go27) := (by rw [hw]; exact HP28.2); have hp_ : Kd.R (Kd.int .i64) 3 w29 w.heap.size (fun k_ => some k_ ≠ (u4 : Value).ownBlock) (.slice (some ⟨go27, 0, none⟩) ap.length ar) aK := (by rw [hw, bg.out]; exact HP28.1); clear HP28; have n0_ := am_ (Kd.R_after (v := (.slice (some ⟨go27, 0, none⟩) ap.length ar)) (v1 := (.slice (some ⟨go27, 0, none⟩) ap.length ar)) (ok := (fun _ => True)) (by refine rr_ ?_; exact Kd.R_mono ad.out (fun _ hk => ⟨trivial, hk⟩)) hg (.inl rfl)); have n1_ := am_ (hp_); have n2_ := am_ (blk_grown (g := aq) (o := .cells #[.slice A0_0 l0_0.length c0_0, .slice A0_1 l0_1.length c0_1] 27 (0, 0)) (rb_ aa.out) hg (Kd.R_ne ag.out aa.out (by decide))); have n3_ := am_ ((by rw [hw]; exact below_set (HB.out) GB27.out : Below w.heap.size w w29)); clear ad; clear ag; clear aa; clear HB; have ad := n0_; have ag := n1_; have aa := n2_; have HB := n3_; clear n0_ n1_ n2_ n3_; clear hg hw hp_))
                go_loopg [9] k3 (fun kq v9 w' => ∃ (an : List Int) (am : Int), v9 = .int .i64 am ∧ Aside0 (spec_l5Classes.l3 kq (l0_0.length : Int) ak ao an ab am l0_0 l0_1 = some r) ∧ Aside0 (kq ≤ k3) ∧ Aside0 (Kd.R (Kd.int .i64) 3 w' w.heap.size (fun k_ => some k_ ≠ ((.slice (some ⟨go27, 0, none⟩) ap.length ar) : Value).ownBlock) u4 ak) ∧ Aside0 (Kd.R (Kd.int .i64) 3 w' w.heap.size (fun k_ => some k_ ≠ (u4 : Value).ownBlock) (.slice (some ⟨go27, 0, none⟩) ap.length ar) an) ∧ Aside0 (w'.heap[aq]? = some (.cells #[(.slice A0_0 l0_0.length c0_0), (.slice A0_1 l0_1.length c0_1)] 27 (0, 0))) ∧ Aside0 (Below w.heap.size w w'))
                case atStart => exact ⟨(aK), (0), (by first | rfl | (simp; done) | (simp [*]; done)), H', ⟨Nat.le_refl _⟩, ⟨by refine rr_ ?_; exact Kd.R_mono ad.out (fun _ hk => hk.2)⟩, ⟨by refine rr_ ?_; exact ag.out⟩, ⟨by refine rb_ ?_; exact aa.out⟩, ⟨by exact zp4_0_ HB.out aj.out⟩⟩
                case round =>
                 clear H'
                 try clear c1
                 try clear p1
                 try clear q1
                 try clear hx1
                 try clear hf1
                 try clear c2
                 try clear c2b0
                 try clear c2b1
                 try clear p2
                 try clear q2
                 try clear hx2
                 try clear hf2
                 try clear c3
                 try clear c3b0
                 try clear c3b1
                 try clear p6
                 try clear c8
                 try clear c8b0
                 try clear c9
                 try clear c9b0
                 try clear c10
                 try clear c10b0
                 try clear q11
                 try clear c12
                 try clear c13
                 try clear c13b0
                 try clear p13
                 try clear q13
                 try clear hx13
                 try clear p14
                 try clear q14
                 try clear hx14
                 try clear hf14
                 try clear c19
                 try clear c19b0
                 try clear c20
                 try clear c20b0
                 try clear c20b1
                 try clear c21
                 try clear c21b0
                 try clear c21b1
                 try clear c24
                 try clear c24b0
                 try clear c25
                 try clear c25b0
                 try clear c26
                 try clear c26b0
                 try clear p27
                 try clear q27
                 try clear hx27
                 try clear hf27
                 try clear ay
                 try clear az
                 try clear aC
                 try clear aD
                 try clear au
                 try clear av
                 try clear aA
                 try clear aB
                 try clear aE
                 try clear aF
                 try clear aw
                 try clear ax
                 try clear ai
                 try clear aH
                 try clear aZ
                 try clear p1
                 try clear p13
                 try clear p134
                 try clear p14
                 try clear p2
                 try clear p27
                 try clear p6
                 try clear q1
                 try clear q11
                 try clear q13
                 try clear q134
                 try clear q14
                 try clear q27
                 obtain ⟨an, am, rfl, HA, HK4, ad, ag, aa, HB⟩ := hrel
                 have hl7_4 := (Kd.R_reads' ag.out).1
                 rw [hl7_4] at ag
                 (try simp only [hl7_4])
                 (try simp only [hl7_4] at aa)
                 (try simp only [hl7_4] at ad)
                 cases gk with
                 | zero => exact absurd HA.out (by simp [spec_l5Classes.l3])
                 | succ k4 =>
                  have H := HA.out
                  clear HA
                  simp only [spec_l5Classes.l3] at H
                  by_cases c30 : am < ab
                  ·rw [if_pos c30] at H
                   have c30b0 : decide (am < ab) = true := decide_eq_true c30
                   clear c30
                   replace H := Option.bind_eq_some_iff.mp H
                   obtain ⟨aI, ba, H⟩ := H
                   have A31 := am_ ba
                   clear ba
                   by_cases c32 : aI = true
                   ·subst c32
                    have H1 : (if 0 ≤ ab then (if ab < (an.length : Int) then (spec_l5Classes.l2 k4 (l0_0.length : Int) ak ao (an.set (ab : Int).toNat am) (wrap64 (ab + 1)) l0_0 l0_1) else (none)) else (none)) = some r := by rw [if_pos rfl] at H; exact H
                    clear H
                    have H := H1
                    clear H1
                    by_cases c33 : 0 ≤ ab
                    ·rw [if_pos c33] at H
                     have c33b0 : decide (0 ≤ ab) = true := decide_eq_true c33
                     clear c33
                     by_cases c34 : ab < (an.length : Int)
                     ·rw [if_pos c34] at H
                      have c34b0 : decide (ab < (an.length : Int)) = true := decide_eq_true c34
                      clear c34
                      obtain ⟨aL, hy141⟩ : ∃ y_ : List Int, y_ = (an.set (ab : Int).toNat am) := ⟨_, rfl⟩
                      replace H : (spec_l5Classes.l2 k4 (l0_0.length : Int) ak ao aL (wrap64 (ab + 1)) l0_0 l0_1) = some r := by first | (rw [hy141]; with_reducible exact H) | (have H2_ := (Option.bind_some _ _).symm.trans H; rw [hy141]; with_reducible exact H2_) | (have H2_ := (Option.bind_some _ _).symm.trans H; with_reducible exact H2_) | with_reducible exact H | (rw [hy141]; exact H) | exact H
                      have bh := am_ hy141
                      clear hy141
                      have H' := am_ H
                      clear H
                      have bo := ck_ (v := (.slice A0_0 l0_0.length c0_0)) aa 0 rfl
                      have bp := ck_ (v := (.slice A0_1 l0_1.length c0_1)) aa 1 rfl
                      have bq := blk_frozen aa.out 0
                      have br := blk_frozen aa.out 1
                      obtain ⟨bb, bc, bk⟩ := Kd.R_slice ad.out
                      subst bk
                      go_wp2_with (first | ((with_reducible refine gate_callee (f := 133) rfl ?_); refine gL_ (some 53) Try.func133 #[.agg #[.slice A0_0 l0_0.length c0_0, .slice A0_1 l0_1.length c0_1], .slice bb ak.length bc, .int .i64 am, .int .i64 ab] ?_; (with_reducible refine (spec_l5Same.calls k4 _ _ l0_0 _ _ l0_1 _ _ ak am ab true _ ?side1 ?side2 ?side3 ?side4 ?side5 ?side6 A31.out).mono ?_); (case side1 => exact rc_ (Kd.C_below aG.out HB.out)); (case side2 => exact aM.out); (case side3 => exact rc_ (Kd.C_below aN.out HB.out)); (case side4 => exact aO.out); (case side5 => exact rc_ ((Kd.R_reads' ad.out).2.2)); (case side6 => exact (Kd.R_reads' ad.out).2.1); rintro e w38 ⟨rfl, hb⟩; refine ⟨_, rfl, ?_⟩; have n0_ := am_ (Kd.R_below (rr_ ad.out) hb); have n1_ := am_ (Kd.R_below (rr_ ag.out) hb); have n2_ := am_ (blk_below (rb_ aa.out) hb); have n3_ := am_ (below_step (b1_ HB.out aj.out) hb); clear ad; clear ag; clear aa; clear HB; have ad := n0_; have ag := n1_; have aa := n2_; have HB := n3_; clear n0_ n1_ n2_ n3_; (try clear hb); (try clear hb2); (try clear hk); (try clear hi); have p35 : 0 ≤ (ab : Int) := of_decide_eq_true ah_; have q35 : (ab : Int) < ((an.length : Int) : Int) := of_decide_eq_true ah_; obtain ⟨bw, hf35_0⟩ := Kd.R_celln 0 ag.out (ab : Int) p35 q35; replace p35 := eq_true p35; replace q35 := eq_true q35; obtain ⟨hy39_, hz39_⟩ := Kd.R_celln 0 ag.out (ab : Int) (of_decide_eq_true ah_) (of_decide_eq_true ah_); have HP39 := Kd.R_putg ag.out (ab : Int) am) | ((with_reducible refine gate_store (t := 3) (p := 57) rfl ?_); refine store_event (t := 3) (p := 57) (v := ?vo_w40) (w1 := (w38.setCell ⟨go27, (ab : Int).toNat, none⟩ (.int .i64 am))) ?hg ?ho ?hn ?hr ?_; (case ho => rfl); (case hg => rfl); (case hn => rfl); (case hr => first | (go_simp; done) | (go_simp; rfl)); intro w40 hw; have hg : w38.grownBy w40 (some go27) := (by rw [hw]; exact HP39.2); have hp_ : Kd.R (Kd.int .i64) 3 w40 w.heap.size (fun k_ => some k_ ≠ (.slice bb ak.length bc : Value).ownBlock) (.slice (some ⟨go27, 0, none⟩) an.length ar) aL := (by rw [hw, bh.out]; exact HP39.1); clear HP39; have n0_ := am_ (Kd.R_after (v := (.slice (some ⟨go27, 0, none⟩) an.length ar)) (v1 := (.slice (some ⟨go27, 0, none⟩) an.length ar)) (ok := (fun _ => True)) (by refine rr_ ?_; exact Kd.R_mono ad.out (fun _ hk => ⟨trivial, hk⟩)) hg (.inl rfl)); have n1_ := am_ (hp_); have n2_ := am_ (blk_grown (g := aq) (o := .cells #[.slice A0_0 l0_0.length c0_0, .slice A0_1 l0_1.length c0_1] 27 (0, 0)) (rb_ aa.out) hg (Kd.R_ne ag.out aa.out (by decide))); have n3_ := am_ ((by rw [hw]; exact below_set (HB.out) GB27.out : Below w.heap.size w w40)); clear ad; clear ag; clear aa; clear HB; have ad := n0_; have ag := n1_; have aa := n2_; have HB := n3_; clear n0_ n1_ n2_ n3_; clear hg hw hp_))
                      (try simp only [← hl7_4])
                      go_roundg k4
                      case measure => have := HK1.out; have := HK2.out; have := HK3.out; have := HK4.out; omega
                      case rel => exact ⟨(aL), (wrap64 (ab + 1)), (by first | rfl | (simp; done) | (simp [*]; done)), H', ⟨by have := HK1.out; have := HK2.out; have := HK3.out; have := HK4.out; omega⟩, ⟨by (try simp only [hl7_4]); refine rr_ ?_; exact Kd.R_mono ad.out (fun _ hk => hk.2)⟩, ⟨by (try simp only [hl7_4]); refine rr_ ?_; exact ag.out⟩, ⟨by (try simp only [hl7_4]); refine rb_ ?_; exact aa.out⟩, ⟨by exact zp4_0_ HB.out aj.out⟩⟩
                     ·rw [if_neg c34] at H
                      exact absurd H (by simp)
                    ·rw [if_neg c33] at H
                     exact absurd H (by simp)
                   ·replace c32 := Bool.eq_false_iff.mpr c32
                    subst c32
                    have H1 : (spec_l5Classes.l3 k4 (l0_0.length : Int) ak ao an ab (wrap64 (am + 1)) l0_0 l0_1) = some r := by rw [if_neg (show ¬ (false = true) by decide)] at H; exact H
                    clear H
                    have H := H1
                    clear H1
                    have H' := am_ H
                    clear H
                    have bs := ck_ (v := (.slice A0_0 l0_0.length c0_0)) aa 0 rfl
                    have bt := ck_ (v := (.slice A0_1 l0_1.length c0_1)) aa 1 rfl
                    have bu := blk_frozen aa.out 0
                    have bv := blk_frozen aa.out 1
                    obtain ⟨bl, bm, bn⟩ := Kd.R_slice ad.out
                    subst bn
                    go_wp2_with (first | ((with_reducible refine gate_callee (f := 133) rfl ?_); refine gL_ (some 53) Try.func133 #[.agg #[.slice A0_0 l0_0.length c0_0, .slice A0_1 l0_1.length c0_1], .slice bl ak.length bm, .int .i64 am, .int .i64 ab] ?_; (with_reducible refine (spec_l5Same.calls k4 _ _ l0_0 _ _ l0_1 _ _ ak am ab false _ ?side1 ?side2 ?side3 ?side4 ?side5 ?side6 A31.out).mono ?_); (case side1 => exact rc_ (Kd.C_below aG.out HB.out)); (case side2 => exact aM.out); (case side3 => exact rc_ (Kd.C_below aN.out HB.out)); (case side4 => exact aO.out); (case side5 => exact rc_ ((Kd.R_reads' ad.out).2.2)); (case side6 => exact (Kd.R_reads' ad.out).2.1); rintro e w43 ⟨rfl, hb⟩; refine ⟨_, rfl, ?_⟩; have n0_ := am_ (Kd.R_below (rr_ ad.out) hb); have n1_ := am_ (Kd.R_below (rr_ ag.out) hb); have n2_ := am_ (blk_below (rb_ aa.out) hb); have n3_ := am_ (below_step (b1_ HB.out aj.out) hb); clear ad; clear ag; clear aa; clear HB; have ad := n0_; have ag := n1_; have aa := n2_; have HB := n3_; clear n0_ n1_ n2_ n3_; (try clear hb); (try clear hb2); (try clear hk); (try clear hi)))
                    (try simp only [← hl7_4])
                    go_roundg k4
                    case measure => have := HK1.out; have := HK2.out; have := HK3.out; have := HK4.out; omega
                    case rel => exact ⟨(an), (wrap64 (am + 1)), (by first | rfl | (simp; done) | (simp [*]; done)), H', ⟨by have := HK1.out; have := HK2.out; have := HK3.out; have := HK4.out; omega⟩, ⟨by (try simp only [hl7_4]); refine rr_ ?_; exact ad.out⟩, ⟨by (try simp only [hl7_4]); refine rr_ ?_; exact ag.out⟩, ⟨by (try simp only [hl7_4]); refine rb_ ?_; exact aa.out⟩, ⟨by exact zp4_0_ HB.out aj.out⟩⟩
                  ·rw [if_neg c30] at H
                   have c30b0 : decide (am < ab) = false := decide_eq_false c30
                   clear c30
                   have H' := am_ H
                   clear H
                   go_wp2
                   (try simp only [← hl7_4])
                   go_roundg k4
                   case measure => have := HK1.out; have := HK2.out; have := HK3.out; have := HK4.out; omega
                   case rel => exact ⟨(an), (wrap64 (ab + 1)), (by first | rfl | (simp; done) | (simp [*]; done)), H', ⟨by have := HK1.out; have := HK2.out; have := HK3.out; have := HK4.out; omega⟩, ⟨by (try simp only [hl7_4]); refine rr_ ?_; exact ad.out⟩, ⟨by (try simp only [hl7_4]); refine rr_ ?_; exact ag.out⟩, ⟨by (try simp only [hl7_4]); refine rb_ ?_; exact aa.out⟩, ⟨by exact zp4_0_ HB.out aj.out⟩⟩
               ·rw [if_neg c26] at H
                exact absurd H (by simp)
              ·rw [if_neg c25] at H
               exact absurd H (by simp)
             ·rw [if_neg c24] at H
              have c24b0 : decide (ab < (l0_0.length : Int)) = false := decide_eq_false c24
              clear c24
              have H' := am_ H
              clear H
              go_wp2
              go_roundg k3
              case measure => have := HK1.out; have := HK2.out; have := HK3.out; omega
              case rel => exact ⟨(ap), (wrap64 (ao + 1)), (by first | rfl | (simp; done) | (simp [*]; done)), H', ⟨by have := HK1.out; have := HK2.out; have := HK3.out; omega⟩, ⟨by refine rr_ ?_; exact Kd.R_mono ag.out (fun _ hk => trivial)⟩, ⟨by refine rb_ ?_; exact aa.out⟩, ⟨by exact zp4_0_ HB.out aj.out⟩⟩
          ·rw [if_neg c21] at H
           exact absurd H (by simp)
         ·rw [if_neg c20] at H
          exact absurd H (by simp)
        ·rw [if_neg c19] at H
         have c19b0 : decide (ao ≤ (l0_0.length : Int)) = false := decide_eq_false c19
         clear c19
         obtain rfl := Option.some.inj H
         simp only [Option.some.injEq, Prod.mk.injEq] at H
         obtain ⟨rfl⟩ := H
         go_wp2
         go_ret
         exact ⟨_, by first | rfl | (simp [errW_none, errW_some] <;> rfl) | (simp [*, errW_none, errW_some] <;> rfl), by refine rr_ ?_; exact ad.out, by exact zp4_0_ HB.out aj.out⟩
  ·rw [if_neg c3] at H
   exact absurd H (by simp)
 ·rw [if_neg c2] at H
  exact absurd H (by simp)
end Go.Proofs.Ytogamkblkoobkaa.P
end
section
namespace Go.Proofs.Ytogamkblkoobkaa.P
open Go.RowKit Go.Proofs.YtogamkblkoobkaaW.PrintWords Go.Proofs.YtogamkblkoobkaaW.PrintLast Go.Proofs.YtogamkblkoobkaaW.PrintMore
attribute [local go_sem] max2_int min2_int max_two min_two max_three min_three max_four min_four
set_option linter.unusedVariables false
set_option linter.unusedSimpArgs false
mutual
def spec_l5Minimal.l0 : Nat → List Int → List Int → Int → List Bool → List (List Int) → List Bool → List (List Int) → Option (List Bool × (List (List Int)))
  | 0, _, _, _, _, _, _, _ => none
  | k + 1, x3, x4, x6, aM, aC, aN, aQ => if x6 < (x4.length : Int) then (spec_l5Minimal.l1 k x3 x4 x6 (([] : List Int)) 0 aM aC aN aQ) else (some (aN, aQ))
def spec_l5Minimal.l1 : Nat → List Int → List Int → Int → List Int → Int → List Bool → List (List Int) → List Bool → List (List Int) → Option (List Bool × (List (List Int)))
  | 0, _, _, _, _, _, _, _, _, _ => none
  | k + 1, x3, x4, x6, x7, x8, aM, aC, aN, aQ => if x8 < 3 then (if 0 ≤ x6 then (if x6 < (x4.length : Int) then (if 0 ≤ (rd x4 x6) then (if (rd x4 x6) < (aC.length : Int) then (if 0 ≤ x8 then (if x8 < ((rd_L1 aC (rd x4 x6)).length : Int) then (if 0 ≤ (rd (rd_L1 aC (rd x4 x6)) x8) then (if (rd (rd_L1 aC (rd x4 x6)) x8) < (x3.length : Int) then ((spec_l5Find.f k x4 (rd x3 (rd (rd_L1 aC (rd x4 x6)) x8))).bind fun bm => (if bm < 0 then (if x4.length < 17592186044416 then ((some (x4 ++ [rd x3 (rd (rd_L1 aC (rd x4 x6)) x8)] : List Int)).bind fun aU => ((spec_l5Find.f k aU (rd x3 (rd (rd_L1 aC (rd x4 x6)) x8))).bind fun bi => (if x7.length < 17592186044416 then (spec_l5Minimal.l1 k x3 aU x6 (x7 ++ [bi]) (wrap64 (x8 + 1)) aM aC aN aQ) else (none)))) else (none)) else ((spec_l5Find.f k x4 (rd x3 (rd (rd_L1 aC (rd x4 x6)) x8))).bind fun br => (if x7.length < 17592186044416 then (spec_l5Minimal.l1 k x3 x4 x6 (x7 ++ [br]) (wrap64 (x8 + 1)) aM aC aN aQ) else (none))))) else (none)) else (none)) else (none)) else (none)) else (none)) else (none)) else (none)) else (none)) else (if 0 ≤ x6 then (if x6 < (x4.length : Int) then (if 0 ≤ (rd x4 x6) then (if (rd x4 x6) < (aM.length : Int) then (if aN.length < 140737488355328 then (if aQ.length < 5864062014805 then (spec_l5Minimal.l0 k x3 x4 (wrap64 (x6 + 1)) aM aC (aN ++ [rdOf false aM (rd x4 x6)]) (aQ ++ [x7])) else (none)) else (none)) else (none)) else (none)) else (none)) else (none))
end
def spec_l5Minimal.f (k : Nat) (l0_0 : List Bool) (l0_1 : List (List Int)) : Option (List Bool × (List (List Int))) := (spec_l5Classes.f k l0_0 l0_1).bind fun ai => (if 0 < (ai.length : Int) then (spec_l5Minimal.l0 k ai (([rd ai 0] : List Int)) 0 l0_0 l0_1 ([] : List Bool) ([] : List (List Int))) else (none))
theorem spec_l5Minimal.mono_l : ∀ k, (∀ y0 y1 y2 y3 y4 y5 y6, LeO (spec_l5Minimal.l0 k y0 y1 y2 y3 y4 y5 y6) (spec_l5Minimal.l0 (k + 1) y0 y1 y2 y3 y4 y5 y6)) ∧ (∀ y0 y1 y2 y3 y4 y5 y6 y7 y8, LeO (spec_l5Minimal.l1 k y0 y1 y2 y3 y4 y5 y6 y7 y8) (spec_l5Minimal.l1 (k + 1) y0 y1 y2 y3 y4 y5 y6 y7 y8))
 | 0 => ⟨fun _ _ _ _ _ _ _ r h => by simp [spec_l5Minimal.l0] at h, fun _ _ _ _ _ _ _ _ _ r h => by simp [spec_l5Minimal.l1] at h⟩
 | k + 1 => by
  obtain ⟨ih0, ih1⟩ := spec_l5Minimal.mono_l k
  refine ⟨?_, ?_⟩
  ·intro y0 y1 y2 y3 y4 y5 y6
   unfold spec_l5Minimal.l0
   repeat' first
   | (with_reducible exact ih0 _ _ _ _ _ _ _)
   | (with_reducible exact ih1 _ _ _ _ _ _ _ _ _)
   | (with_reducible exact spec_l5Classes.mono _ _ _)
   | (with_reducible exact spec_l5Find.mono _ _ _)
   | (with_reducible exact LeO.refl _)
   | (with_reducible exact LeO.none _)
   | (with_reducible refine LeO.ite ?_ ?_)
   | (with_reducible refine LeO.bind ?_ (fun _ => ?_))
   | exact ih0 _ _ _ _ _ _ _
   | exact ih1 _ _ _ _ _ _ _ _ _
   | exact spec_l5Classes.mono _ _ _
   | exact spec_l5Find.mono _ _ _
   | exact LeO.none _
   | refine LeO.ite ?_ ?_
   | refine LeO.bind ?_ (fun _ => ?_)
  ·intro y0 y1 y2 y3 y4 y5 y6 y7 y8
   unfold spec_l5Minimal.l1
   repeat' first
   | (with_reducible exact ih0 _ _ _ _ _ _ _)
   | (with_reducible exact ih1 _ _ _ _ _ _ _ _ _)
   | (with_reducible exact spec_l5Classes.mono _ _ _)
   | (with_reducible exact spec_l5Find.mono _ _ _)
   | (with_reducible exact LeO.refl _)
   | (with_reducible exact LeO.none _)
   | (with_reducible refine LeO.ite ?_ ?_)
   | (with_reducible refine LeO.bind ?_ (fun _ => ?_))
   | exact ih0 _ _ _ _ _ _ _
   | exact ih1 _ _ _ _ _ _ _ _ _
   | exact spec_l5Classes.mono _ _ _
   | exact spec_l5Find.mono _ _ _
   | exact LeO.none _
   | refine LeO.ite ?_ ?_
   | refine LeO.bind ?_ (fun _ => ?_)
theorem spec_l5Minimal.mono : ∀ a0 a1 k, LeO (spec_l5Minimal.f k a0 a1) (spec_l5Minimal.f (k + 1) a0 a1) := by
 intro a0 a1 k
 obtain ⟨ih0, ih1⟩ := spec_l5Minimal.mono_l k
 unfold spec_l5Minimal.f
 repeat' first
   | (with_reducible exact ih0 _ _ _ _ _ _ _)
   | (with_reducible exact ih1 _ _ _ _ _ _ _ _ _)
   | (with_reducible exact spec_l5Classes.mono _ _ _)
   | (with_reducible exact spec_l5Find.mono _ _ _)
   | (with_reducible exact LeO.refl _)
   | (with_reducible exact LeO.none _)
   | (with_reducible refine LeO.ite ?_ ?_)
   | (with_reducible refine LeO.bind ?_ (fun _ => ?_))
   | exact ih0 _ _ _ _ _ _ _
   | exact ih1 _ _ _ _ _ _ _ _ _
   | exact spec_l5Classes.mono _ _ _
   | exact spec_l5Find.mono _ _ _
   | exact LeO.none _
   | refine LeO.ite ?_ ?_
   | refine LeO.bind ?_ (fun _ => ?_)
def spec_l5Minimal.T11 : Bool × List (List Nat × List Nat) := (true, [([], []), ([], []), ([1], [1]), ([], []), ([], []), ([3, 4], [3, 4]), ([5], [5]), ([2, 6], [2, 6]), ([7], [7]), ([], []), ([8, 9], [8, 9]), ([10], [10]), ([0, 11], [0, 11]), ([12], [12]), ([13, 0, 1, 2, 3, 4, 5, 6, 7, 8, 9, 10, 11, 12, 13], [13])])
def spec_l5Minimal.B11 : List Nat := [0, 0, 2, 0, 0, 24, 56, 126, 254, 0, 1022, 2046, 4095, 8191, 16383]
theorem spec_l5Minimal.tab11 : rtab .any (opsOf Try.f94 11) = spec_l5Minimal.T11 := by kernel_rfl
theorem spec_l5Minimal.bits11 : waitsOk spec_l5Minimal.T11.2 spec_l5Minimal.B11 = true := by kernel_rfl
def spec_l5Minimal.T15 : Bool × List (List Nat × List Nat) := (true, [([], []), ([0], [0]), ([], []), ([2], [2]), ([], []), ([], []), ([4, 5], [4, 5]), ([6], [6]), ([3, 7], [3, 7]), ([8], [8]), ([9], [9]), ([1, 10], [1, 10]), ([0, 1, 2, 3, 4, 5, 6, 7, 8, 9, 10, 11], []), ([12, 11, 11, 0, 1, 2, 3, 4, 5, 6, 7, 8, 9, 10, 11], [11, 12])])
def spec_l5Minimal.B15 : List Nat := [0, 1, 0, 4, 0, 0, 48, 112, 252, 508, 1020, 2047, 4095, 8191]
theorem spec_l5Minimal.tab15 : rtab .any (opsOf Try.f94 15) = spec_l5Minimal.T15 := by kernel_rfl
theorem spec_l5Minimal.bits15 : waitsOk spec_l5Minimal.T15.2 spec_l5Minimal.B15 = true := by kernel_rfl
theorem zp5_0_ {p q g1 g2 g3 : Prop} (h : p) (h1 : g1) (h2 : g2) (h3 : g3) (c : p → g1 → g2 → g3 → q := by intro h_ h1_ h2_ h3_; repeat (first | (with_reducible first | exact h_ | apply below_alloc | apply pw_below_drewN | apply below_drew1 | refine below_set ?_ h1_ | refine below_set ?_ h2_ | refine below_set ?_ h3_) | exact h_)) : q := c h h1 h2 h3
set_option maxHeartbeats 8000000 in
set_option maxRecDepth 100000 in
theorem spec_l5Minimal.calls (k : Nat) (A0_0 : Option Addr) (c0_0 : Nat) (l0_0 : List Bool) (A0_1 : Option Addr) (c0_1 : Nat) (l0_1 : List (List Int)) (r1 : List Bool) (r2 : List (List Int)) (w : World) (hr0_0 : Kd.C Kd.bool w A0_0 l0_0.length l0_0) (hc0_0 : l0_0.length ≤ c0_0) (hr0_1 : Kd.C (Kd.slice 3 (Kd.int .i64)) w A0_1 l0_1.length l0_1) (hc0_1 : l0_1.length ≤ c0_1) (h : spec_l5Minimal.f k l0_0 l0_1 = some (r1, r2)) :
  Calls Try.prog 94 #[.agg #[.slice A0_0 l0_0.length c0_0, .slice A0_1 l0_1.length c0_1]] w fun e w' => ∃ v0_ v1_ : Value, e = .returned (.agg #[v0_, v1_]) ∧ Kd.R Kd.bool 4 w' w.heap.size (fun _ => True) v0_ r1 ∧ Kd.S (Kd.slice 3 (Kd.int .i64)) 67 w' w.heap.size (fun _ => True) v1_ r2 ∧ Below w.heap.size w w' := by
 have hu27 := Try.underlying27
 have bQ := am_ hr0_0
 have cj := am_ hc0_0
 clear hr0_0 hc0_0
 have bE := am_ hr0_1
 have ck := am_ hc0_1
 clear hr0_1 hc0_1
 have HB := am_ (Below.refl w.heap.size w)
 have H : ((spec_l5Classes.f k l0_0 l0_1).bind fun ai => (if 0 < (ai.length : Int) then (spec_l5Minimal.l0 k ai (([rd ai 0] : List Int)) 0 l0_0 l0_1 ([] : List Bool) ([] : List (List Int))) else (none))) = some (r1, r2) := h
 clear h
 replace H := Option.bind_eq_some_iff.mp H
 obtain ⟨ai, A20, H⟩ := H
 have A2 := am_ A20
 clear A20
 by_cases c3 : 0 < (ai.length : Int)
 ·rw [if_pos c3] at H
  have c3b0 : decide (0 < (ai.length : Int)) = true := decide_eq_true c3
  have c3b1 : decide (0 < ai.length) = true := decide_eq_true (by omega)
  clear c3
  obtain ⟨bV, hy148⟩ : ∃ y_ : List Int, y_ = (([rd ai 0] : List Int)) := ⟨_, rfl⟩
  replace H : (spec_l5Minimal.l0 k ai bV 0 l0_0 l0_1 ([] : List Bool) ([] : List (List Int))) = some (r1, r2) := by first | (rw [hy148]; with_reducible exact H) | (have H2_ := (Option.bind_some _ _).symm.trans H; rw [hy148]; with_reducible exact H2_) | (have H2_ := (Option.bind_some _ _).symm.trans H; with_reducible exact H2_) | with_reducible exact H | (rw [hy148]; exact H) | exact H
  have bR := am_ hy148
  clear hy148
  have H' := am_ H
  clear H
  go_enter Try.func94, Try.ntmps94
  go_wp2_with (first | ((with_reducible refine gate_dst (N := 1) rfl ?_); refine box_event ?hg (N := 1) ?hd (cs := #[.slice A0_0 l0_0.length c0_0, .slice A0_1 l0_1.length c0_1]) (t := 27) ?hr ?_; (case hd => rfl); (case hg => rfl); (case hr => first | (go_simp; done) | (go_simp; rfl)); intro ax hg w4 hbox hb; replace af := am_ (hbox); replace cR := am_ ((by rw [hg]; exact (below_size (b0_ HB.out)) : w.heap.size ≤ ax)); replace aq := am_ ((by rw [hg]; exact (below_size (b0_ HB.out)) : w.heap.size ≤ ax)); replace HB := am_ (below_step (b0_ HB.out) hb); clear hb hbox hg) | ((with_reducible refine gate_dst (N := 2) rfl ?_); refine box_event ?hg (N := 2) ?hd (cs := #[.slice none 0 0, .slice none 0 0]) (t := 27) ?hr ?_; (case hd => rfl); (case hg => rfl); (case hr => first | (go_simp; done) | (go_simp; rfl)); intro az hg w5 hbox hb; have n0_ := am_ (blk_below (rb_ af.out) hb); have n1_ := am_ (below_step (b1_ HB.out aq.out) hb); have n2_ := am_ (hbox); have n3_ := am_ ((by rw [hg]; exact (below_size (b1_ HB.out aq.out)) : w.heap.size ≤ az)); have n4_ := am_ ((by rw [hg]; exact (below_size (b1_ HB.out aq.out)) : w.heap.size ≤ az)); have n5_ := am_ ((by rw [hg]; exact Nat.ne_of_lt (blk_lt (rb_ af.out)) : ax ≠ az)); have n6_ := am_ ((by rw [hg]; exact Nat.ne_of_gt (blk_lt (rb_ af.out)) : az ≠ ax)); clear af; clear HB; have af := n0_; have HB := n1_; have ah := n2_; have cS := n3_; have av := n4_; have bs := n5_; have bt := n6_; clear n0_ n1_ n2_ n3_ n4_ n5_ n6_; clear hb hbox hg; have di := bs.out; have dj := bt.out; have bK := ck_ (v := (.slice A0_0 l0_0.length c0_0)) af 0 rfl; have bL := ck_ (v := (.slice A0_1 l0_1.length c0_1)) af 1 rfl; have bM := blk_frozen af.out 0; have bN := blk_frozen af.out 1) | ((with_reducible refine gate_callee (f := 126) rfl ?_); refine gL_ (some 11) Try.func126 #[.agg #[.slice A0_0 l0_0.length c0_0, .slice A0_1 l0_1.length c0_1]] ?_; (with_reducible refine (spec_l5Classes.calls k _ _ l0_0 _ _ l0_1 ai _ ?side1 ?side2 ?side3 ?side4 A2.out).mono ?_); (case side1 => exact rc_ (Kd.C_below bQ.out HB.out)); (case side2 => exact cj.out); (case side3 => exact rc_ (Kd.C_below bE.out HB.out)); (case side4 => exact ck.out); rintro e w8 ⟨dk, rfl, ho0, hb⟩; refine ⟨_, rfl, ?_⟩; have n0_ := am_ (Kd.R_lower ho0 (below_size (b2_ HB.out aq.out av.out))); have n1_ := am_ (blk_below (rb_ af.out) hb); have n2_ := am_ (blk_below (rb_ ah.out) hb); have n3_ := am_ (below_step (b2_ HB.out aq.out av.out) hb); clear af; clear ah; clear HB; have aR := n0_; have af := n1_; have ah := n2_; have HB := n3_; clear n0_ n1_ n2_ n3_; (try clear hb); (try clear hb2); (try clear hk); (try clear hi); (try clear ho0); obtain ⟨Ao9, co9, eo9⟩ := Kd.R_slice aR.out; subst eo9; have p147 : 0 ≤ (0 : Int) := (by omega); have q147 : 0 < (ai.length : Int) := of_decide_eq_true ah_; obtain ⟨ar, e147, bk⟩ := Kd.at_int (Kd.R_reads' aR.out).2.2 0 p147 q147; cases e147; have qi147 : (0 < ai.length) = True := eq_true (by omega); (try rw [show ((0 : Int)).toNat = 0 from rfl] at bk); (try rw [Addr.add_zero'] at bk); replace p147 := eq_true p147; replace q147 := eq_true q147) | ((with_reducible refine gate_dst (N := 15) rfl ?_); refine Kd.R_lit (Kd.int .i64) _ 3 ?hg (N := 15) ?hd (xs := ([rd ai 0] : List Int)) (inner := [.int .i64 (rd ai 0)]) (ok := fun _ => True) (okp := fun _ => True) ?hr ?hp (fun _ hk => hk) trivial (Below.refl _ _) (Nat.le_refl _) (by simp) ?_; (case hd => rfl); (case hg => rfl); (case hr => first | (go_simp; done) | (go_simp; rfl)); (case hp => exact (Reps.one (show Kd.M (Kd.int .i64) _ _ _ (rd ai 0) [.int .i64 (rd ai 0)] from rfl) (Reps.none _ _))); intro dl w10 ho11 hb hg_ hnew_; clear hg_ hnew_; (first | rw [← bR.out] at ho11 | (simp only [Int.reduceToNat] at ho11; rw [← bR.out] at ho11)); have n0_ := am_ (Kd.R_elder' (rr_ aR.out) (Kd.R_base ho11) hb); have n1_ := am_ (Kd.R_lower (Kd.R_new' ho11 (Kd.R_lt (rr_ aR.out))) (below_size (b2_ HB.out aq.out av.out))); have n2_ := am_ (blk_below (rb_ af.out) hb); have n3_ := am_ (blk_below (rb_ ah.out) hb); have n4_ := am_ (below_step (b2_ HB.out aq.out av.out) hb); clear aR; clear af; clear ah; clear HB; have aR := n0_; have bu := n1_; have af := n2_; have ah := n3_; have HB := n4_; clear n0_ n1_ n2_ n3_ n4_; clear hb ho11) | ((with_reducible refine gate_dst (N := 5) rfl ?_); refine box_event ?hg (N := 5) ?hd (cs := #[.slice none 0 0, .slice none 0 0]) (t := 27) ?hr ?_; (case hd => rfl); (case hg => rfl); (case hr => first | (go_simp; done) | (go_simp; rfl)); intro ak hg w12 hbox hb; have n0_ := am_ (Kd.R_below (rr_ aR.out) hb); have n1_ := am_ (Kd.R_below (rr_ bu.out) hb); have n2_ := am_ (blk_below (rb_ af.out) hb); have n3_ := am_ (blk_below (rb_ ah.out) hb); have n4_ := am_ (below_step (b2_ HB.out aq.out av.out) hb); have n5_ := am_ (hbox); have n6_ := am_ ((by rw [hg]; exact (below_size (b2_ HB.out aq.out av.out)) : w.heap.size ≤ ak)); have n7_ := am_ ((by rw [hg]; exact (below_size (b2_ HB.out aq.out av.out)) : w.heap.size ≤ ak)); have n8_ := am_ ((by rw [hg]; exact Nat.ne_of_lt (blk_lt (rb_ af.out)) : ax ≠ ak)); have n9_ := am_ ((by rw [hg]; exact Nat.ne_of_gt (blk_lt (rb_ af.out)) : ak ≠ ax)); have n10_ := am_ ((by rw [hg]; exact Nat.ne_of_lt (blk_lt (rb_ ah.out)) : az ≠ ak)); have n11_ := am_ ((by rw [hg]; exact Nat.ne_of_gt (blk_lt (rb_ ah.out)) : ak ≠ az)); clear aR; clear bu; clear af; clear ah; clear HB; have aR := n0_; have bu := n1_; have af := n2_; have ah := n3_; have HB := n4_; have ae := n5_; have cT := n6_; have aA := n7_; have aI := n8_; have aW := n9_; have aJ := n10_; have aX := n11_; clear n0_ n1_ n2_ n3_ n4_ n5_ n6_ n7_ n8_ n9_ n10_ n11_; clear hb hbox hg; have cU := aW.out; have cV := aI.out; have cW := aX.out; have cX := aJ.out; have bz := ck_ (v := (.slice none 0 0)) ae 0 rfl; have bA := ck_ (v := (.slice none 0 0)) ae 1 rfl; have bB := blk_frozen ae.out 0; have bC := blk_frozen ae.out 1))
  go_loopg [4, 6] k (fun kq v4 v6 w' => ∃ (bj : List Int) (ad : Int) (ap : List Bool) (am : List (List Int)) (ay : Value) (ao : Value), v6 = .int .i64 ad ∧ Aside0 (spec_l5Minimal.l0 kq ai bj ad l0_0 l0_1 ap am = some (r1, r2)) ∧ Aside0 (kq ≤ k) ∧ Aside0 (Kd.R (Kd.int .i64) 3 w' w.heap.size (fun k_ => some k_ ≠ (v4 : Value).ownBlock) (.slice (some ar) ai.length co9) ai) ∧ Aside0 (Kd.R (Kd.int .i64) 3 w' w.heap.size (fun k_ => some k_ ≠ ((.slice (some ar) ai.length co9) : Value).ownBlock) v4 bj) ∧ Aside0 (Kd.R Kd.bool 4 w' w.heap.size (fun _ => True) ay ap) ∧ Aside0 (Kd.S (Kd.slice 3 (Kd.int .i64)) 67 w' w.heap.size (fun k_ => some k_ ≠ ((.slice (some ar) ai.length co9) : Value).ownBlock ∧ some k_ ≠ (v4 : Value).ownBlock) ao am) ∧ Aside0 (w'.heap[ax]? = some (.cells #[(.slice A0_0 l0_0.length c0_0), (.slice A0_1 l0_1.length c0_1)] 27 (0, 0))) ∧ Aside0 (w'.heap[az]? = some (.cells #[(.slice none 0 0), (.slice none 0 0)] 27 (0, 0))) ∧ Aside0 (w'.heap[ak]? = some (.cells #[ay, ao] 27 (0, 0))) ∧ Aside0 (Below w.heap.size w w'))
  case atStart => exact ⟨(bV), (0), (([] : List Bool)), (([] : List (List Int))), (.slice none 0 0), (.slice none 0 0), (by first | rfl | (simp; done) | (simp [*]; done)), H', ⟨Nat.le_refl _⟩, ⟨by refine rr_ ?_; exact Kd.R_mono (Kd.R_far (p := ⟨ak, 1, none⟩) (Kd.R_far (p := ⟨ak, 0, none⟩) (Kd.R_types aR.out ae.out (by decide)) (fun _ hk => hk.2) (.slice none 0 0)) (fun _ hk => hk.2) (.slice none 0 0)) (fun _ hk => hk.1.2)⟩, ⟨by refine rr_ ?_; exact Kd.R_mono (Kd.R_far (p := ⟨ak, 1, none⟩) (Kd.R_far (p := ⟨ak, 0, none⟩) (Kd.R_types bu.out ae.out (by decide)) (fun _ hk => hk.2) (.slice none 0 0)) (fun _ hk => hk.2) (.slice none 0 0)) (fun _ hk => hk.1.2)⟩, ⟨by first | exact Kd.R_nil _ _ _ _ _ | exact Kd.N_nil _ _ _ _ _ | exact Kd.V_nil _ _ _ _ _ | exact Kd.Q_nil _ _ _ _ _ | exact Kd.S_nil _ _ _ _ _⟩, ⟨by first | exact Kd.S_nil _ _ _ _ _ | exact Kd.N_nil _ _ _ _ _ | exact Kd.V_nil _ _ _ _ _ | exact Kd.Q_nil _ _ _ _ _ | exact Kd.R_nil _ _ _ _ _⟩, ⟨by refine rb_ ?_; refine blk_far ?_ aI.out _; refine rb_ ?_; refine blk_far ?_ aI.out _; refine rb_ ?_; exact af.out⟩, ⟨by refine rb_ ?_; refine blk_far ?_ aJ.out _; refine rb_ ?_; refine blk_far ?_ aJ.out _; refine rb_ ?_; exact ah.out⟩, ⟨by refine rb_ ?_; refine blk_put (cs := #[.slice none 0 0, .slice none 0 0]) ?_ 1 _ rfl; refine rb_ ?_; refine blk_put (cs := #[.slice none 0 0, .slice none 0 0]) ?_ 0 _ rfl; refine rb_ ?_; exact ae.out⟩, ⟨by exact zp5_0_ HB.out aq.out av.out aA.out⟩⟩
  case round =>
   clear H'
   try clear c1
   try clear p1
   try clear q1
   try clear hx1
   try clear qi1
   try clear p2
   try clear c3
   try clear c3b0
   try clear c3b1
   try clear c6
   try clear c9
   try clear c12
   try clear c13
   try clear c14
   try clear p14
   try clear q14
   try clear hx14
   try clear qi14
   try clear bz
   try clear bA
   try clear bK
   try clear bL
   try clear bB
   try clear bC
   try clear bM
   try clear bN
   try clear bk
   try clear p147
   try clear q147
   obtain ⟨bj, ad, ap, am, ay, ao, rfl, HA, HK1, an, al, ag, ab, af, ah, ae, HB⟩ := hrel
   cases gk with
   | zero => exact absurd HA.out (by simp [spec_l5Minimal.l0])
   | succ k1 =>
    have H := HA.out
    clear HA
    simp only [spec_l5Minimal.l0] at H
    by_cases c16 : ad < (bj.length : Int)
    ·rw [if_pos c16] at H
     have c16b0 : decide (ad < (bj.length : Int)) = true := decide_eq_true c16
     clear c16
     obtain ⟨bW, hy152⟩ : ∃ y_ : List Int, y_ = (([] : List Int)) := ⟨_, rfl⟩
     replace H : (spec_l5Minimal.l1 k1 ai bj ad bW 0 l0_0 l0_1 ap am) = some (r1, r2) := by first | (rw [hy152]; with_reducible exact H) | (have H2_ := (Option.bind_some _ _).symm.trans H; rw [hy152]; with_reducible exact H2_) | (have H2_ := (Option.bind_some _ _).symm.trans H; with_reducible exact H2_) | with_reducible exact H | (rw [hy152]; exact H) | exact H
     have bS := am_ hy152
     clear hy152
     have H' := am_ H
     clear H
     obtain ⟨dm, dn, cu⟩ := Kd.R_slice al.out
     subst cu
     go_wp2_with (first | ((with_reducible refine gate_dst (N := 23) rfl ?_); refine Kd.R_lit (Kd.int .i64) _ 3 ?hg (N := 23) ?hd (xs := ([] : List Int)) (inner := []) (ok := fun _ => True) (okp := fun _ => True) ?hr ?hp (fun _ hk => hk) trivial (Below.refl _ _) (Nat.le_refl _) (by simp) ?_; (case hd => rfl); (case hg => rfl); (case hr => first | (go_simp; done) | (go_simp; rfl)); (case hp => exact (Reps.none _ _)); intro dp w18 ho19 hb hg_ hnew_; clear hg_ hnew_; (first | rw [← bS.out] at ho19 | (simp only [Int.reduceToNat] at ho19; rw [← bS.out] at ho19)); have n0_ := am_ (Kd.R_elder' (rr_ an.out) (Kd.R_base ho19) hb); have n1_ := am_ (Kd.R_elder' (rr_ al.out) (Kd.R_base ho19) hb); have n2_ := am_ (Kd.R_below (rr_ ag.out) hb); have n3_ := am_ (Kd.S_elder' (rs_ ab.out) (Kd.R_base ho19) hb); have n4_ := am_ (Kd.R_lower (Kd.R_new' (Kd.R_new' ho19 (Kd.R_lt (rr_ an.out))) (Kd.R_lt (rr_ al.out))) (below_size (b3_ HB.out aq.out av.out aA.out))); have n5_ := am_ (blk_below (rb_ af.out) hb); have n6_ := am_ (blk_below (rb_ ah.out) hb); have n7_ := am_ (blk_below (rb_ ae.out) hb); have n8_ := am_ (below_step (b3_ HB.out aq.out av.out aA.out) hb); clear an; clear al; clear ag; clear ab; clear af; clear ah; clear ae; clear HB; have an := n0_; have al := n1_; have ag := n2_; have ab := n3_; have cl := n4_; have af := n5_; have ah := n6_; have ae := n7_; have HB := n8_; clear n0_ n1_ n2_ n3_ n4_ n5_ n6_ n7_ n8_; clear hb ho19))
     go_loopg [4, 7, 8] k1 (fun kq v4 v7 v8 w' => ∃ (aa : List Int) (aK : List Int) (aj : Int), v8 = .int .i64 aj ∧ Aside0 (spec_l5Minimal.l1 kq ai aa ad aK aj l0_0 l0_1 ap am = some (r1, r2)) ∧ Aside0 (kq ≤ k1) ∧ Aside0 (Kd.R (Kd.int .i64) 3 w' w.heap.size (fun k_ => some k_ ≠ (v4 : Value).ownBlock ∧ some k_ ≠ (v7 : Value).ownBlock) (.slice (some ar) ai.length co9) ai) ∧ Aside0 (Kd.R (Kd.int .i64) 3 w' w.heap.size (fun k_ => some k_ ≠ ((.slice (some ar) ai.length co9) : Value).ownBlock ∧ some k_ ≠ (v7 : Value).ownBlock) v4 aa) ∧ Aside0 (Kd.R (Kd.int .i64) 3 w' w.heap.size (fun k_ => some k_ ≠ ((.slice (some ar) ai.length co9) : Value).ownBlock ∧ some k_ ≠ (v4 : Value).ownBlock) v7 aK) ∧ Aside0 (Kd.R Kd.bool 4 w' w.heap.size (fun _ => True) ay ap) ∧ Aside0 (Kd.S (Kd.slice 3 (Kd.int .i64)) 67 w' w.heap.size (fun k_ => some k_ ≠ ((.slice (some ar) ai.length co9) : Value).ownBlock ∧ some k_ ≠ (v4 : Value).ownBlock ∧ some k_ ≠ (v7 : Value).ownBlock) ao am) ∧ Aside0 (w'.heap[ax]? = some (.cells #[(.slice A0_0 l0_0.length c0_0), (.slice A0_1 l0_1.length c0_1)] 27 (0, 0))) ∧ Aside0 (w'.heap[az]? = some (.cells #[(.slice none 0 0), (.slice none 0 0)] 27 (0, 0))) ∧ Aside0 (w'.heap[ak]? = some (.cells #[ay, ao] 27 (0, 0))) ∧ Aside0 (Below w.heap.size w w'))
     case atStart => exact ⟨(bj), (bW), (0), (by first | rfl | (simp; done) | (simp [*]; done)), H', ⟨Nat.le_refl _⟩, ⟨by refine rr_ ?_; exact an.out⟩, ⟨by refine rr_ ?_; exact al.out⟩, ⟨by refine rr_ ?_; exact Kd.R_mono cl.out (fun _ hk => ⟨hk.1.2, hk.2⟩)⟩, ⟨by refine rr_ ?_; exact ag.out⟩, ⟨by refine rs_ ?_; exact Kd.S_mono ab.out (fun _ hk => ⟨hk.1.1, ⟨hk.1.2, hk.2⟩⟩)⟩, ⟨by refine rb_ ?_; exact af.out⟩, ⟨by refine rb_ ?_; exact ah.out⟩, ⟨by refine rb_ ?_; exact ae.out⟩, ⟨by exact zp5_0_ HB.out aq.out av.out aA.out⟩⟩
     case round =>
      clear H'
      try clear c1
      try clear p1
      try clear q1
      try clear hx1
      try clear qi1
      try clear p2
      try clear c3
      try clear c3b0
      try clear c3b1
      try clear c6
      try clear c9
      try clear c12
      try clear c13
      try clear c14
      try clear p14
      try clear q14
      try clear hx14
      try clear qi14
      try clear c16
      try clear c16b0
      try clear bz
      try clear bA
      try clear bK
      try clear bL
      try clear bB
      try clear bC
      try clear bM
      try clear bN
      try clear bk
      try clear p1
      try clear p14
      try clear p147
      try clear p2
      try clear q1
      try clear q14
      try clear q147
      obtain ⟨aa, aK, aj, rfl, HA, HK2, an, al, au, ag, ab, af, ah, ae, HB⟩ := hrel
      cases gk with
      | zero => exact absurd HA.out (by simp [spec_l5Minimal.l1])
      | succ k2 =>
       have H := HA.out
       clear HA
       simp only [spec_l5Minimal.l1] at H
       by_cases c20 : aj < 3
       ·rw [if_pos c20] at H
        have c20b0 : decide (aj < 3) = true := decide_eq_true c20
        clear c20
        by_cases c21 : 0 ≤ ad
        ·rw [if_pos c21] at H
         have c21b0 : decide (0 ≤ ad) = true := decide_eq_true c21
         clear c21
         by_cases c22 : ad < (aa.length : Int)
         ·rw [if_pos c22] at H
          have c22b0 : decide (ad < (aa.length : Int)) = true := decide_eq_true c22
          clear c22
          by_cases c23 : 0 ≤ (rd aa ad)
          ·rw [if_pos c23] at H
           have c23b0 : decide (0 ≤ (rd aa ad)) = true := decide_eq_true c23
           clear c23
           by_cases c24 : (rd aa ad) < (l0_1.length : Int)
           ·rw [if_pos c24] at H
            have c24b0 : decide ((rd aa ad) < (l0_1.length : Int)) = true := decide_eq_true c24
            clear c24
            by_cases c25 : 0 ≤ aj
            ·rw [if_pos c25] at H
             have c25b0 : decide (0 ≤ aj) = true := decide_eq_true c25
             clear c25
             by_cases c26 : aj < ((rd_L1 l0_1 (rd aa ad)).length : Int)
             ·rw [if_pos c26] at H
              have c26b0 : decide (aj < ((rd_L1 l0_1 (rd aa ad)).length : Int)) = true := decide_eq_true c26
              clear c26
              by_cases c27 : 0 ≤ (rd (rd_L1 l0_1 (rd aa ad)) aj)
              ·rw [if_pos c27] at H
               have c27b0 : decide (0 ≤ (rd (rd_L1 l0_1 (rd aa ad)) aj)) = true := decide_eq_true c27
               clear c27
               by_cases c28 : (rd (rd_L1 l0_1 (rd aa ad)) aj) < (ai.length : Int)
               ·rw [if_pos c28] at H
                have c28b0 : decide ((rd (rd_L1 l0_1 (rd aa ad)) aj) < (ai.length : Int)) = true := decide_eq_true c28
                clear c28
                replace H := Option.bind_eq_some_iff.mp H
                obtain ⟨bm, bX, H⟩ := H
                have A29 := am_ bX
                clear bX
                by_cases c30 : bm < 0
                ·rw [if_pos c30] at H
                 have c30b0 : decide (bm < 0) = true := decide_eq_true c30
                 clear c30
                 by_cases c31 : aa.length < 17592186044416
                 ·rw [if_pos c31] at H
                  have LMc31 := am_ c31
                  clear c31
                  obtain ⟨aU, hy168⟩ : ∃ y_ : List Int, y_ = (aa ++ [rd ai (rd (rd_L1 l0_1 (rd aa ad)) aj)]) := ⟨_, rfl⟩
                  replace H : ((spec_l5Find.f k2 aU (rd ai (rd (rd_L1 l0_1 (rd aa ad)) aj))).bind fun bi => (if aK.length < 17592186044416 then (spec_l5Minimal.l1 k2 ai aU ad (aK ++ [bi]) (wrap64 (aj + 1)) l0_0 l0_1 ap am) else (none))) = some (r1, r2) := by first | (rw [hy168]; with_reducible exact H) | (have H2_ := (Option.bind_some _ _).symm.trans H; rw [hy168]; with_reducible exact H2_) | (have H2_ := (Option.bind_some _ _).symm.trans H; with_reducible exact H2_) | with_reducible exact H | (rw [hy168]; exact H) | exact H
                  have cm := am_ hy168
                  clear hy168
                  replace H := Option.bind_eq_some_iff.mp H
                  obtain ⟨bi, bY, H⟩ := H
                  have A32 := am_ bY
                  clear bY
                  by_cases c33 : aK.length < 17592186044416
                  ·rw [if_pos c33] at H
                   have LMc33 := am_ c33
                   clear c33
                   obtain ⟨bZ, hy172⟩ : ∃ y_ : List Int, y_ = (aK ++ [bi]) := ⟨_, rfl⟩
                   replace H : (spec_l5Minimal.l1 k2 ai aU ad bZ (wrap64 (aj + 1)) l0_0 l0_1 ap am) = some (r1, r2) := by first | (rw [hy172]; with_reducible exact H) | (have H2_ := (Option.bind_some _ _).symm.trans H; rw [hy172]; with_reducible exact H2_) | (have H2_ := (Option.bind_some _ _).symm.trans H; with_reducible exact H2_) | with_reducible exact H | (rw [hy172]; exact H) | exact H
                   have cn := am_ hy172
                   clear hy172
                   have H' := am_ H
                   clear H
                   try go_wp2
                   replace an := am_ (Kd.R_drew an.out)
                   replace al := am_ (Kd.R_drew al.out)
                   replace au := am_ (Kd.R_drew au.out)
                   replace ag := am_ (Kd.R_drew ag.out)
                   replace ab := am_ (Kd.S_drew ab.out)
                   replace af := am_ (blk_drew af.out)
                   replace ah := am_ (blk_drew ah.out)
                   replace ae := am_ (blk_drew ae.out)
                   replace HB := am_ (below_drew1 HB.out)
                   obtain ⟨dq, ca, cb⟩ := Kd.R_slice al.out
                   (first | subst cb | (injection cb with f1_ f2_ f3_; have f4_ := f1_.symm; have f5_ := f3_.symm; clear f1_ f2_ f3_; subst f4_; subst f5_))
                   have p163 : 0 ≤ (ad : Int) := of_decide_eq_true ah_
                   have q163 : ad < (aa.length : Int) := of_decide_eq_true ah_
                   obtain ⟨aT, e163, bc⟩ := Kd.at_int (Kd.R_reads' al.out).2.2 ad p163 q163
                   cases e163
                   replace p163 := eq_true p163
                   replace q163 := eq_true q163
                   have p164 : 0 ≤ ((rd aa ad) : Int) := of_decide_eq_true ah_
                   have q164 : (rd aa ad) < (l0_1.length : Int) := of_decide_eq_true ah_
                   obtain ⟨aY, A164_0, c164_0, e164, aG, hl164_0, hi164_0⟩ := at_L1 bE.out (rd aa ad) p164 q164
                   have bd := aG
                   cases e164
                   replace aG := (HB.out.cell (World.block_lt_of_cell? w _ aG)).trans aG
                   have be := am_ hi164_0
                   have bU := am_ hl164_0
                   clear hi164_0 hl164_0
                   replace p164 := eq_true p164
                   replace q164 := eq_true q164
                   have p165 : 0 ≤ (aj : Int) := of_decide_eq_true ah_
                   have q165 : aj < ((rd_L1 l0_1 (rd aa ad)).length : Int) := of_decide_eq_true ah_
                   obtain ⟨bp, e165, aH⟩ := Kd.at_int be.out aj p165 q165
                   have bf := aH
                   cases e165
                   replace aH := (HB.out.cell (World.block_lt_of_cell? w _ aH)).trans aH
                   replace p165 := eq_true p165
                   replace q165 := eq_true q165
                   have p166 : 0 ≤ ((rd (rd_L1 l0_1 (rd aa ad)) aj) : Int) := of_decide_eq_true ah_
                   have q166 : (rd (rd_L1 l0_1 (rd aa ad)) aj) < (ai.length : Int) := of_decide_eq_true ah_
                   obtain ⟨bF, e166, bg⟩ := Kd.at_int (Kd.R_reads' an.out).2.2 (rd (rd_L1 l0_1 (rd aa ad)) aj) p166 q166
                   obtain rfl : ar = bF := (by injection e166)
                   replace p166 := eq_true p166
                   replace q166 := eq_true q166
                   refine start_ (n := 15) (S := fun w' => w'.cell? ⟨ax, 0, none⟩ = some (.slice A0_0 l0_0.length c0_0) ∧ w'.cell? ⟨ax, 1, none⟩ = some (.slice (some aY) l0_1.length c0_1) ∧ w'.cell? (aT.add (ad).toNat) = some (.int .i64 (rd aa ad)) ∧ w'.cell? (aY.add ((rd aa ad)).toNat) = some (.slice (some bp) (rd_L1 l0_1 (rd aa ad)).length c164_0) ∧ w'.cell? (bp.add (aj).toNat) = some (.int .i64 (rd (rd_L1 l0_1 (rd aa ad)) aj)) ∧ w'.cell? (ar.add ((rd (rd_L1 l0_1 (rd aa ad)) aj)).toNat) = some (.int .i64 (rd ai (rd (rd_L1 l0_1 (rd aa ad)) aj)))) (ds := []) (bl 15 0) (by kernel_rfl) rfl rfl ⟨(blk_cell af.out 0).trans rfl, (blk_cell af.out 1).trans rfl, bc, ((HB.out.cell (World.block_lt_of_cell? w _ bd)).trans bd), ((HB.out.cell (World.block_lt_of_cell? w _ bf)).trans bf), bg⟩ (fun hHeld => ?_); refine with_tabW spec_l5Minimal.tab11 spec_l5Minimal.bits11 (fun HT_ HW_ => ?_)
                   generalize wr.drew = w34 at an al au ag ab af ah ae HB be bc aG aH bg hHeld ⊢
                   refine pu_ 0 28 (bl 15 1) HT_ ?_
                   refine pu_ 1 29 (bl 15 3) HT_ ?_
                   refine pu_ 3 31 (bl 15 11) HT_ ?_
                   refine pu_ 4 32 (bl 15 27) HT_ ?_
                   refine pu_ 5 33 (bl 15 59) HT_ ?_
                   refine pu_ 9 37 (bl 15 571) HT_ ?_
                   refine tk_ 2 30 (bl 15 575) HT_ HW_ hHeld ?_
                   refine tk_ 6 34 (bl 15 639) HT_ HW_ hHeld ?_
                   refine pu_ 7 35 (bl 15 767) HT_ ?_
                   refine tk_ 8 36 (bl 15 1023) HT_ HW_ hHeld ?_
                   refine pu_ 10 38 (bl 15 2047) HT_ ?_
                   refine tk_ 11 39 (bl 15 4095) HT_ HW_ hHeld ?_
                   refine pu_ 12 40 (bl 15 8191) HT_ ?_
                   refine tk_ 13 41 (bl 15 16383) HT_ HW_ hHeld ?_
                   refine pu_ 14 9 (bl 15 32767) HT_ ?_
                   refine done_ (done_of HT_.out (by kernel_rfl)) ?_
                   try go_wp2_with (first | ((with_reducible refine gate_callee (f := 63) rfl ?_); refine gL_ (some 44) Try.func63 #[.slice (some aT) aa.length ca, .int .i64 (rd ai (rd (rd_L1 l0_1 (rd aa ad)) aj))] ?_; (with_reducible refine (spec_l5Find.calls k2 _ _ aa (rd ai (rd (rd_L1 l0_1 (rd aa ad)) aj)) bm _ ?side1 ?side2 A29.out).mono ?_); (case side1 => exact rc_ ((Kd.R_reads' al.out).2.2)); (case side2 => exact (Kd.R_reads' al.out).2.1); rintro e w' ⟨rfl, ⟨nd, rfl⟩⟩; refine ⟨_, rfl, ?_⟩) | ((with_reducible refine gate_builtin (b := .append) (xs := #[.tmp 46, .tmp 48]) rfl ?_); at_builtin; refine Kd.R_append (Kd.int .i64) (w0 := w) w.heap.size rfl (.tmp 46) (.tmp 48) 67 3 (.int .i64 0) 8 rfl Try.underlying67 info3 rfl (by decide) (by omega) (.slice (some aT) aa.length ca) aa (rd ai (rd (rd_L1 l0_1 (rd aa ad)) aj)) [.int .i64 (rd ai (rd (rd_L1 l0_1 (rd aa ad)) aj))] (fun k_ => some k_ ≠ (.slice (some ar) ai.length co9 : Value).ownBlock ∧ some k_ ≠ (u7 : Value).ownBlock) (fun _ => False) rfl rfl ?aP (fun _ hk => hk.elim) ?aF ?aO ?aB ?aS ?aL ?_; (case aP => exact rfl); (case aB => exact (b3_ HB.out aq.out av.out aA.out)); (case aF => exact (fun k_ hk => ⟨Kd.fresh' (Kd.R_lt (rr_ an.out)) k_ hk, Kd.fresh' (Kd.R_lt (rr_ au.out)) k_ hk⟩)); (case aO => exact (rr_ al.out)); (case aS => exact (below_size (b3_ HB.out aq.out av.out aA.out))); (case aL => have := LMc31.out; omega); intro dr w36 ho hb hg hat; rw [← cm.out] at ho; have n0_ := am_ (Kd.R_after (ok := (fun k_ => some k_ ≠ (u7 : Value).ownBlock)) (by refine rr_ ?_; exact Kd.R_mono an.out (fun _ hk => ⟨hk.2, hk.1⟩)) hg hat); have n1_ := am_ (Kd.R_after (ok := (fun k_ => some k_ ≠ (.slice (some ar) ai.length co9 : Value).ownBlock)) (rr_ au.out) hg hat); have n2_ := am_ (Kd.R_over' (rr_ ag.out) (Kd.R_typed (rr_ al.out)) (by decide) hg); have n3_ := am_ (Kd.S_after (ok := (fun k_ => some k_ ≠ (.slice (some ar) ai.length co9 : Value).ownBlock ∧ some k_ ≠ (u7 : Value).ownBlock)) (by refine rs_ ?_; exact Kd.S_mono ab.out (fun _ hk => ⟨⟨hk.1, hk.2.2⟩, hk.2.1⟩)) hg hat); have n4_ := am_ (blk_grown (g := ax) (o := .cells #[.slice A0_0 l0_0.length c0_0, .slice (some aY) l0_1.length c0_1] 27 (0, 0)) (rb_ af.out) hg (Kd.R_ne al.out af.out (by decide))); have n5_ := am_ (blk_grown (g := az) (o := .cells #[.slice none 0 0, .slice none 0 0] 27 (0, 0)) (rb_ ah.out) hg (Kd.R_ne al.out ah.out (by decide))); have n6_ := am_ (blk_grown (g := ak) (o := .cells #[ay, ao] 27 (0, 0)) (rb_ ae.out) hg (Kd.R_ne al.out ae.out (by decide))); have n7_ := am_ (hb); have n8_ := am_ (ho); clear an; clear au; clear ag; clear ab; clear af; clear ah; clear ae; clear HB; clear al; have an := n0_; have au := n1_; have ag := n2_; have ab := n3_; have af := n4_; have ah := n5_; have ae := n6_; have HB := n7_; have aZ := n8_; clear n0_ n1_ n2_ n3_ n4_ n5_ n6_ n7_ n8_; clear ho hb hg hat; obtain ⟨bG, bH, cv⟩ := Kd.R_slice aZ.out; subst cv) | ((with_reducible refine gate_callee (f := 63) rfl ?_); refine gL_ (some 53) Try.func63 #[.slice bG aU.length bH, .int .i64 (rd ai (rd (rd_L1 l0_1 (rd aa ad)) aj))] ?_; (with_reducible refine (spec_l5Find.calls k2 _ _ aU (rd ai (rd (rd_L1 l0_1 (rd aa ad)) aj)) bi _ ?side1 ?side2 A32.out).mono ?_); (case side1 => exact rc_ ((Kd.R_reads' aZ.out).2.2)); (case side2 => exact (Kd.R_reads' aZ.out).2.1); rintro e w' ⟨rfl, ⟨nd, rfl⟩⟩; refine ⟨_, rfl, ?_⟩) | ((with_reducible refine gate_builtin (b := .append) (xs := #[.tmp 50, .tmp 54]) rfl ?_); at_builtin; refine Kd.R_append (Kd.int .i64) (w0 := w) w.heap.size rfl (.tmp 50) (.tmp 54) 67 3 (.int .i64 0) 8 rfl Try.underlying67 info3 rfl (by decide) (by omega) u7 aK bi [.int .i64 bi] (fun k_ => some k_ ≠ (.slice (some ar) ai.length co9 : Value).ownBlock ∧ some k_ ≠ (.slice bG aU.length bH : Value).ownBlock) (fun _ => False) rfl rfl ?aP (fun _ hk => hk.elim) ?aF ?aO ?aB ?aS ?aL ?_; (case aP => exact rfl); (case aB => exact (b3_ HB.out aq.out av.out aA.out)); (case aF => exact (fun k_ hk => ⟨Kd.fresh' (Kd.R_lt (rr_ an.out)) k_ hk, Kd.fresh' (Kd.R_lt (rr_ aZ.out)) k_ hk⟩)); (case aO => exact (rr_ au.out)); (case aS => exact (below_size (b3_ HB.out aq.out av.out aA.out))); (case aL => have := LMc33.out; omega); intro dt w38 ho hb hg hat; rw [← cn.out] at ho; have n0_ := am_ (Kd.R_after (ok := (fun k_ => some k_ ≠ (.slice bG aU.length bH : Value).ownBlock)) (by refine rr_ ?_; exact Kd.R_mono an.out (fun _ hk => ⟨hk.2, hk.1⟩)) hg hat); have n1_ := am_ (Kd.R_over' (rr_ ag.out) (Kd.R_typed (rr_ au.out)) (by decide) hg); have n2_ := am_ (Kd.S_after (ok := (fun k_ => some k_ ≠ (.slice (some ar) ai.length co9 : Value).ownBlock ∧ some k_ ≠ (.slice bG aU.length bH : Value).ownBlock)) (by refine rs_ ?_; exact Kd.S_mono ab.out (fun _ hk => ⟨⟨hk.1.1, hk.2⟩, hk.1.2⟩)) hg hat); have n3_ := am_ (blk_grown (g := ax) (o := .cells #[.slice A0_0 l0_0.length c0_0, .slice (some aY) l0_1.length c0_1] 27 (0, 0)) (rb_ af.out) hg (Kd.R_ne au.out af.out (by decide))); have n4_ := am_ (blk_grown (g := az) (o := .cells #[.slice none 0 0, .slice none 0 0] 27 (0, 0)) (rb_ ah.out) hg (Kd.R_ne au.out ah.out (by decide))); have n5_ := am_ (blk_grown (g := ak) (o := .cells #[ay, ao] 27 (0, 0)) (rb_ ae.out) hg (Kd.R_ne au.out ae.out (by decide))); have n6_ := am_ (Kd.R_after (ok := (fun k_ => some k_ ≠ (.slice (some ar) ai.length co9 : Value).ownBlock)) (rr_ aZ.out) hg hat); have n7_ := am_ (hb); have n8_ := am_ (ho); clear an; clear ag; clear ab; clear af; clear ah; clear ae; clear aZ; clear HB; clear au; have an := n0_; have ag := n1_; have ab := n2_; have af := n3_; have ah := n4_; have ae := n5_; have aZ := n6_; have HB := n7_; have co := n8_; clear n0_ n1_ n2_ n3_ n4_ n5_ n6_ n7_ n8_; clear ho hb hg hat))
                   go_roundg k2
                   case measure => have := HK1.out; have := HK2.out; omega
                   case rel => exact ⟨(aU), (bZ), (wrap64 (aj + 1)), (by first | rfl | (simp; done) | (simp [*]; done)), H', ⟨by have := HK1.out; have := HK2.out; omega⟩, ⟨by refine rr_ ?_; exact an.out⟩, ⟨by refine rr_ ?_; exact aZ.out⟩, ⟨by refine rr_ ?_; exact co.out⟩, ⟨by refine rr_ ?_; exact ag.out⟩, ⟨by refine rs_ ?_; exact Kd.S_mono ab.out (fun _ hk => ⟨hk.1.1, ⟨hk.1.2, hk.2⟩⟩)⟩, ⟨by refine rb_ ?_; exact af.out⟩, ⟨by refine rb_ ?_; exact ah.out⟩, ⟨by refine rb_ ?_; exact ae.out⟩, ⟨by exact zp5_0_ HB.out aq.out av.out aA.out⟩⟩
                  ·rw [if_neg c33] at H
                   exact absurd H (by simp)
                 ·rw [if_neg c31] at H
                  exact absurd H (by simp)
                ·rw [if_neg c30] at H
                 have c30b0 : decide (bm < 0) = false := decide_eq_false c30
                 clear c30
                 replace H := Option.bind_eq_some_iff.mp H
                 obtain ⟨br, cc, H⟩ := H
                 have A39 := am_ cc
                 clear cc
                 by_cases c40 : aK.length < 17592186044416
                 ·rw [if_pos c40] at H
                  have LMc40 := am_ c40
                  clear c40
                  obtain ⟨cd, hy176⟩ : ∃ y_ : List Int, y_ = (aK ++ [br]) := ⟨_, rfl⟩
                  replace H : (spec_l5Minimal.l1 k2 ai aa ad cd (wrap64 (aj + 1)) l0_0 l0_1 ap am) = some (r1, r2) := by first | (rw [hy176]; with_reducible exact H) | (have H2_ := (Option.bind_some _ _).symm.trans H; rw [hy176]; with_reducible exact H2_) | (have H2_ := (Option.bind_some _ _).symm.trans H; with_reducible exact H2_) | with_reducible exact H | (rw [hy176]; exact H) | exact H
                  have cp := am_ hy176
                  clear hy176
                  have H' := am_ H
                  clear H
                  try go_wp2
                  replace an := am_ (Kd.R_drew an.out)
                  replace al := am_ (Kd.R_drew al.out)
                  replace au := am_ (Kd.R_drew au.out)
                  replace ag := am_ (Kd.R_drew ag.out)
                  replace ab := am_ (Kd.S_drew ab.out)
                  replace af := am_ (blk_drew af.out)
                  replace ah := am_ (blk_drew ah.out)
                  replace ae := am_ (blk_drew ae.out)
                  replace HB := am_ (below_drew1 HB.out)
                  obtain ⟨du, bv, ce⟩ := Kd.R_slice al.out
                  (first | subst ce | (injection ce with f1_ f2_ f3_; have f4_ := f1_.symm; have f5_ := f3_.symm; clear f1_ f2_ f3_; subst f4_; subst f5_))
                  have p163 : 0 ≤ (ad : Int) := of_decide_eq_true ah_
                  have q163 : ad < (aa.length : Int) := of_decide_eq_true ah_
                  obtain ⟨aT, e163, bc⟩ := Kd.at_int (Kd.R_reads' al.out).2.2 ad p163 q163
                  cases e163
                  replace p163 := eq_true p163
                  replace q163 := eq_true q163
                  have p164 : 0 ≤ ((rd aa ad) : Int) := of_decide_eq_true ah_
                  have q164 : (rd aa ad) < (l0_1.length : Int) := of_decide_eq_true ah_
                  obtain ⟨aY, A164_0, c164_0, e164, aG, hl164_0, hi164_0⟩ := at_L1 bE.out (rd aa ad) p164 q164
                  have bd := aG
                  cases e164
                  replace aG := (HB.out.cell (World.block_lt_of_cell? w _ aG)).trans aG
                  have be := am_ hi164_0
                  have bU := am_ hl164_0
                  clear hi164_0 hl164_0
                  replace p164 := eq_true p164
                  replace q164 := eq_true q164
                  have p165 : 0 ≤ (aj : Int) := of_decide_eq_true ah_
                  have q165 : aj < ((rd_L1 l0_1 (rd aa ad)).length : Int) := of_decide_eq_true ah_
                  obtain ⟨bp, e165, aH⟩ := Kd.at_int be.out aj p165 q165
                  have bf := aH
                  cases e165
                  replace aH := (HB.out.cell (World.block_lt_of_cell? w _ aH)).trans aH
                  replace p165 := eq_true p165
                  replace q165 := eq_true q165
                  have p166 : 0 ≤ ((rd (rd_L1 l0_1 (rd aa ad)) aj) : Int) := of_decide_eq_true ah_
                  have q166 : (rd (rd_L1 l0_1 (rd aa ad)) aj) < (ai.length : Int) := of_decide_eq_true ah_
                  obtain ⟨bF, e166, bg⟩ := Kd.at_int (Kd.R_reads' an.out).2.2 (rd (rd_L1 l0_1 (rd aa ad)) aj) p166 q166
                  obtain rfl : ar = bF := (by injection e166)
                  replace p166 := eq_true p166
                  replace q166 := eq_true q166
                  refine start_ (n := 15) (S := fun w' => w'.cell? ⟨ax, 0, none⟩ = some (.slice A0_0 l0_0.length c0_0) ∧ w'.cell? ⟨ax, 1, none⟩ = some (.slice (some aY) l0_1.length c0_1) ∧ w'.cell? (aT.add (ad).toNat) = some (.int .i64 (rd aa ad)) ∧ w'.cell? (aY.add ((rd aa ad)).toNat) = some (.slice (some bp) (rd_L1 l0_1 (rd aa ad)).length c164_0) ∧ w'.cell? (bp.add (aj).toNat) = some (.int .i64 (rd (rd_L1 l0_1 (rd aa ad)) aj)) ∧ w'.cell? (ar.add ((rd (rd_L1 l0_1 (rd aa ad)) aj)).toNat) = some (.int .i64 (rd ai (rd (rd_L1 l0_1 (rd aa ad)) aj)))) (ds := []) (bl 15 0) (by kernel_rfl) rfl rfl ⟨(blk_cell af.out 0).trans rfl, (blk_cell af.out 1).trans rfl, bc, ((HB.out.cell (World.block_lt_of_cell? w _ bd)).trans bd), ((HB.out.cell (World.block_lt_of_cell? w _ bf)).trans bf), bg⟩ (fun hHeld => ?_); refine with_tabW spec_l5Minimal.tab11 spec_l5Minimal.bits11 (fun HT_ HW_ => ?_)
                  generalize wr.drew = w41 at an al au ag ab af ah ae HB be bc aG aH bg hHeld ⊢
                  refine pu_ 0 28 (bl 15 1) HT_ ?_
                  refine pu_ 1 29 (bl 15 3) HT_ ?_
                  refine pu_ 3 31 (bl 15 11) HT_ ?_
                  refine pu_ 4 32 (bl 15 27) HT_ ?_
                  refine pu_ 5 33 (bl 15 59) HT_ ?_
                  refine pu_ 9 37 (bl 15 571) HT_ ?_
                  refine tk_ 2 30 (bl 15 575) HT_ HW_ hHeld ?_
                  refine tk_ 6 34 (bl 15 639) HT_ HW_ hHeld ?_
                  refine pu_ 7 35 (bl 15 767) HT_ ?_
                  refine tk_ 8 36 (bl 15 1023) HT_ HW_ hHeld ?_
                  refine pu_ 10 38 (bl 15 2047) HT_ ?_
                  refine tk_ 11 39 (bl 15 4095) HT_ HW_ hHeld ?_
                  refine pu_ 12 40 (bl 15 8191) HT_ ?_
                  refine tk_ 13 41 (bl 15 16383) HT_ HW_ hHeld ?_
                  refine pu_ 14 9 (bl 15 32767) HT_ ?_
                  refine done_ (done_of HT_.out (by kernel_rfl)) ?_
                  try go_wp2_with (first | ((with_reducible refine gate_callee (f := 63) rfl ?_); refine gL_ (some 44) Try.func63 #[.slice (some aT) aa.length bv, .int .i64 (rd ai (rd (rd_L1 l0_1 (rd aa ad)) aj))] ?_; (with_reducible refine (spec_l5Find.calls k2 _ _ aa (rd ai (rd (rd_L1 l0_1 (rd aa ad)) aj)) bm _ ?side1 ?side2 A29.out).mono ?_); (case side1 => exact rc_ ((Kd.R_reads' al.out).2.2)); (case side2 => exact (Kd.R_reads' al.out).2.1); rintro e w' ⟨rfl, ⟨nd, rfl⟩⟩; refine ⟨_, rfl, ?_⟩) | ((with_reducible refine gate_callee (f := 63) rfl ?_); refine gL_ (some 53) Try.func63 #[.slice (some aT) aa.length bv, .int .i64 (rd ai (rd (rd_L1 l0_1 (rd aa ad)) aj))] ?_; (with_reducible refine (spec_l5Find.calls k2 _ _ aa (rd ai (rd (rd_L1 l0_1 (rd aa ad)) aj)) br _ ?side1 ?side2 A39.out).mono ?_); (case side1 => exact rc_ ((Kd.R_reads' al.out).2.2)); (case side2 => exact (Kd.R_reads' al.out).2.1); rintro e w' ⟨rfl, ⟨nd, rfl⟩⟩; refine ⟨_, rfl, ?_⟩) | ((with_reducible refine gate_builtin (b := .append) (xs := #[.tmp 50, .tmp 54]) rfl ?_); at_builtin; refine Kd.R_append (Kd.int .i64) (w0 := w) w.heap.size rfl (.tmp 50) (.tmp 54) 67 3 (.int .i64 0) 8 rfl Try.underlying67 info3 rfl (by decide) (by omega) u7 aK br [.int .i64 br] (fun k_ => some k_ ≠ (.slice (some ar) ai.length co9 : Value).ownBlock ∧ some k_ ≠ (.slice (some aT) aa.length bv : Value).ownBlock) (fun _ => False) rfl rfl ?aP (fun _ hk => hk.elim) ?aF ?aO ?aB ?aS ?aL ?_; (case aP => exact rfl); (case aB => exact (b3_ HB.out aq.out av.out aA.out)); (case aF => exact (fun k_ hk => ⟨Kd.fresh' (Kd.R_lt (rr_ an.out)) k_ hk, Kd.fresh' (Kd.R_lt (rr_ al.out)) k_ hk⟩)); (case aO => exact (rr_ au.out)); (case aS => exact (below_size (b3_ HB.out aq.out av.out aA.out))); (case aL => have := LMc40.out; omega); intro dv w43 ho hb hg hat; rw [← cp.out] at ho; have n0_ := am_ (Kd.R_after (ok := (fun k_ => some k_ ≠ (.slice (some aT) aa.length bv : Value).ownBlock)) (rr_ an.out) hg hat); have n1_ := am_ (Kd.R_after (ok := (fun k_ => some k_ ≠ (.slice (some ar) ai.length co9 : Value).ownBlock)) (rr_ al.out) hg hat); have n2_ := am_ (Kd.R_over' (rr_ ag.out) (Kd.R_typed (rr_ au.out)) (by decide) hg); have n3_ := am_ (Kd.S_after (ok := (fun k_ => some k_ ≠ (.slice (some ar) ai.length co9 : Value).ownBlock ∧ some k_ ≠ (.slice (some aT) aa.length bv : Value).ownBlock)) (by refine rs_ ?_; exact Kd.S_mono ab.out (fun _ hk => ⟨⟨hk.1, hk.2.1⟩, hk.2.2⟩)) hg hat); have n4_ := am_ (blk_grown (g := ax) (o := .cells #[.slice A0_0 l0_0.length c0_0, .slice (some aY) l0_1.length c0_1] 27 (0, 0)) (rb_ af.out) hg (Kd.R_ne au.out af.out (by decide))); have n5_ := am_ (blk_grown (g := az) (o := .cells #[.slice none 0 0, .slice none 0 0] 27 (0, 0)) (rb_ ah.out) hg (Kd.R_ne au.out ah.out (by decide))); have n6_ := am_ (blk_grown (g := ak) (o := .cells #[ay, ao] 27 (0, 0)) (rb_ ae.out) hg (Kd.R_ne au.out ae.out (by decide))); have n7_ := am_ (hb); have n8_ := am_ (ho); clear an; clear al; clear ag; clear ab; clear af; clear ah; clear ae; clear HB; clear au; have an := n0_; have al := n1_; have ag := n2_; have ab := n3_; have af := n4_; have ah := n5_; have ae := n6_; have HB := n7_; have cq := n8_; clear n0_ n1_ n2_ n3_ n4_ n5_ n6_ n7_ n8_; clear ho hb hg hat))
                  go_roundg k2
                  case measure => have := HK1.out; have := HK2.out; omega
                  case rel => exact ⟨(aa), (cd), (wrap64 (aj + 1)), (by first | rfl | (simp; done) | (simp [*]; done)), H', ⟨by have := HK1.out; have := HK2.out; omega⟩, ⟨by refine rr_ ?_; exact an.out⟩, ⟨by refine rr_ ?_; exact al.out⟩, ⟨by refine rr_ ?_; exact cq.out⟩, ⟨by refine rr_ ?_; exact ag.out⟩, ⟨by refine rs_ ?_; exact Kd.S_mono ab.out (fun _ hk => ⟨hk.1.1, ⟨hk.1.2, hk.2⟩⟩)⟩, ⟨by refine rb_ ?_; exact af.out⟩, ⟨by refine rb_ ?_; exact ah.out⟩, ⟨by refine rb_ ?_; exact ae.out⟩, ⟨by exact zp5_0_ HB.out aq.out av.out aA.out⟩⟩
                 ·rw [if_neg c40] at H
                  exact absurd H (by simp)
               ·rw [if_neg c28] at H
                exact absurd H (by simp)
              ·rw [if_neg c27] at H
               exact absurd H (by simp)
             ·rw [if_neg c26] at H
              exact absurd H (by simp)
            ·rw [if_neg c25] at H
             exact absurd H (by simp)
           ·rw [if_neg c24] at H
            exact absurd H (by simp)
          ·rw [if_neg c23] at H
           exact absurd H (by simp)
         ·rw [if_neg c22] at H
          exact absurd H (by simp)
        ·rw [if_neg c21] at H
         exact absurd H (by simp)
       ·rw [if_neg c20] at H
        have c20b0 : decide (aj < 3) = false := decide_eq_false c20
        clear c20
        by_cases c44 : 0 ≤ ad
        ·rw [if_pos c44] at H
         have c44b0 : decide (0 ≤ ad) = true := decide_eq_true c44
         clear c44
         by_cases c45 : ad < (aa.length : Int)
         ·rw [if_pos c45] at H
          have c45b0 : decide (ad < (aa.length : Int)) = true := decide_eq_true c45
          clear c45
          by_cases c46 : 0 ≤ (rd aa ad)
          ·rw [if_pos c46] at H
           have c46b0 : decide (0 ≤ (rd aa ad)) = true := decide_eq_true c46
           clear c46
           by_cases c47 : (rd aa ad) < (l0_0.length : Int)
           ·rw [if_pos c47] at H
            have c47b0 : decide ((rd aa ad) < (l0_0.length : Int)) = true := decide_eq_true c47
            clear c47
            by_cases c48 : ap.length < 140737488355328
            ·rw [if_pos c48] at H
             have LMc48 := am_ c48
             clear c48
             obtain ⟨aw, hy157⟩ : ∃ y_ : List Bool, y_ = (ap ++ [rdOf false l0_0 (rd aa ad)]) := ⟨_, rfl⟩
             replace H : (if am.length < 5864062014805 then (spec_l5Minimal.l0 k2 ai aa (wrap64 (ad + 1)) l0_0 l0_1 aw (am ++ [aK])) else (none)) = some (r1, r2) := by first | (rw [hy157]; with_reducible exact H) | (have H2_ := (Option.bind_some _ _).symm.trans H; rw [hy157]; with_reducible exact H2_) | (have H2_ := (Option.bind_some _ _).symm.trans H; with_reducible exact H2_) | with_reducible exact H | (rw [hy157]; exact H) | exact H
             have cr := am_ hy157
             clear hy157
             by_cases c49 : am.length < 5864062014805
             ·rw [if_pos c49] at H
              have LMc49 := am_ c49
              clear c49
              obtain ⟨bn, hy160⟩ : ∃ y_ : List (List Int), y_ = (am ++ [aK]) := ⟨_, rfl⟩
              replace H : (spec_l5Minimal.l0 k2 ai aa (wrap64 (ad + 1)) l0_0 l0_1 aw bn) = some (r1, r2) := by first | (rw [hy160]; with_reducible exact H) | (have H2_ := (Option.bind_some _ _).symm.trans H; rw [hy160]; with_reducible exact H2_) | (have H2_ := (Option.bind_some _ _).symm.trans H; with_reducible exact H2_) | with_reducible exact H | (rw [hy160]; exact H) | exact H
              have ct := am_ hy160
              clear hy160
              have H' := am_ H
              clear H
              try go_wp2
              replace an := am_ (Kd.R_drew an.out)
              replace al := am_ (Kd.R_drew al.out)
              replace au := am_ (Kd.R_drew au.out)
              replace ag := am_ (Kd.R_drew ag.out)
              replace ab := am_ (Kd.S_drew ab.out)
              replace af := am_ (blk_drew af.out)
              replace ah := am_ (blk_drew ah.out)
              replace ae := am_ (blk_drew ae.out)
              replace HB := am_ (below_drew1 HB.out)
              obtain ⟨dw, bo, cf⟩ := Kd.R_slice al.out
              (first | subst cf | (injection cf with f1_ f2_ f3_; have f4_ := f1_.symm; have f5_ := f3_.symm; clear f1_ f2_ f3_; subst f4_; subst f5_))
              have p155 : 0 ≤ (ad : Int) := of_decide_eq_true ah_
              have q155 : ad < (aa.length : Int) := of_decide_eq_true ah_
              obtain ⟨ba, e155, bD⟩ := Kd.at_int (Kd.R_reads' al.out).2.2 ad p155 q155
              cases e155
              replace p155 := eq_true p155
              replace q155 := eq_true q155
              have p156 : 0 ≤ ((rd aa ad) : Int) := of_decide_eq_true ah_
              have q156 : (rd aa ad) < (l0_0.length : Int) := of_decide_eq_true ah_
              obtain ⟨bq, e156, bh⟩ := Kd.at_bool bQ.out (rd aa ad) p156 q156
              have aV := bh
              cases e156
              replace bh := (HB.out.cell (World.block_lt_of_cell? w _ bh)).trans bh
              replace p156 := eq_true p156
              replace q156 := eq_true q156
              refine start_ (n := 14) (S := fun w' => w'.cell? ⟨ak, 0, none⟩ = some (ay) ∧ w'.cell? ⟨ak, 1, none⟩ = some (ao) ∧ w'.cell? ⟨ax, 0, none⟩ = some (.slice (some bq) l0_0.length c0_0) ∧ w'.cell? ⟨ax, 1, none⟩ = some (.slice A0_1 l0_1.length c0_1) ∧ w'.cell? (ba.add (ad).toNat) = some (.int .i64 (rd aa ad)) ∧ w'.cell? (bq.add ((rd aa ad)).toNat) = some (.bool (rdOf false l0_0 (rd aa ad)))) (ds := [11, 13]) (bl 14 0) (by kernel_rfl) rfl rfl ⟨(blk_cell ae.out 0).trans rfl, (blk_cell ae.out 1).trans rfl, (blk_cell af.out 0).trans rfl, (blk_cell af.out 1).trans rfl, bD, ((HB.out.cell (World.block_lt_of_cell? w _ aV)).trans aV)⟩ (fun hHeld => ?_); refine with_tabW spec_l5Minimal.tab15 spec_l5Minimal.bits15 (fun HT_ HW_ => ?_)
              generalize wr.drew = w50 at an al au ag ab af ah ae HB bD bh hHeld ⊢
              refine pu_ 0 56 (bl 14 1) HT_ ?_
              refine pu_ 2 58 (bl 14 5) HT_ ?_
              refine pu_ 4 60 (bl 14 21) HT_ ?_
              refine pu_ 5 61 (bl 14 53) HT_ ?_
              refine pu_ 6 62 (bl 14 117) HT_ ?_
              refine tk_ 1 57 (bl 14 119) HT_ HW_ hHeld ?_
              refine tk_ 3 59 (bl 14 127) HT_ HW_ hHeld ?_
              refine tk_ 7 63 (bl 14 255) HT_ HW_ hHeld ?_
              refine pu_ 8 64 (bl 14 511) HT_ ?_
              refine tk_ 9 65 (bl 14 1023) HT_ HW_ hHeld ?_
              refine on_ 10 (some 66) (bl 14 2047) HT_ (fun K hK => ?_)
              refine value_ (w1 := ?_) (v := ?_) (by rfl) rfl ?_ ?_
              rotate_left 2
              ·go_simp
               constructor
               ·rfl
               ·rfl
              refine hK.out _ _ ⟨(blk_cell (blk_alloc ae.out _) 0).trans rfl, (blk_cell (blk_alloc ae.out _) 1).trans rfl, (blk_cell (blk_alloc af.out _) 0).trans rfl, (blk_cell (blk_alloc af.out _) 1).trans rfl, (World.cell?_alloc_lt _ _ _ (World.block_lt_of_cell? _ _ (hHeld.2.2.2.2.1))).trans (hHeld.2.2.2.2.1), (World.cell?_alloc_lt _ _ _ (World.block_lt_of_cell? _ _ (((HB.out.cell (World.block_lt_of_cell? w _ aV)).trans aV)))).trans (((HB.out.cell (World.block_lt_of_cell? w _ aV)).trans aV))⟩ (fun hHeld => ?_)
              clear hK K
              refine norm_ (a' := ?_) ?_ ?_
              rotate_left
              ·show Act.put _ (some 66) _ = _
               simp only [pn_, sz_, ss_, i64_w, i32_w]
               rfl
              refine last_ (i := 11) (N := some 67) (bl 14 4095) rfl rfl (one_of HT_.out (by kernel_rfl)) (by decide) (fun K hK => ?_)
              refine Kd.R_append_step Kd.bool (w0 := w) w.heap.size (by rfl) (.tmp 57) (.tmp 66) 22 4 (.bool false) 1 rfl Try.underlying22 info4 rfl (by decide) (by omega) ay ap (rdOf false l0_0 (rd aa ad)) [.bool (rdOf false l0_0 (rd aa ad))] (fun _ => True) (fun _ => False) rfl rfl ?aP (fun _ hk => hk.elim) ?aF ?aO ?aB ?aS ?aL ?_
              (case aP => exact rfl)
              (case aB => exact (b3_ HB.out aq.out av.out aA.out))
              (case aF => exact (fun _ _ => trivial))
              (case aO => exact (rr_ ag.out))
              (case aS => exact (below_size (b3_ HB.out aq.out av.out aA.out)))
              (case aL => have := LMc48.out; omega)
              intro dx w52 ho hb hg hat
              rw [← cr.out] at ho
              replace an := am_ (Kd.R_over' (rr_ an.out) (Kd.R_typed (rr_ ag.out)) (by decide) hg)
              replace al := am_ (Kd.R_over' (rr_ al.out) (Kd.R_typed (rr_ ag.out)) (by decide) hg)
              replace au := am_ (Kd.R_over' (rr_ au.out) (Kd.R_typed (rr_ ag.out)) (by decide) hg)
              replace ab := am_ (Kd.S_over' (rs_ ab.out) (Kd.R_typed (rr_ ag.out)) (by decide) hg)
              replace af := am_ (blk_grown (g := ax) (o := .cells #[.slice (some bq) l0_0.length c0_0, .slice A0_1 l0_1.length c0_1] 27 (0, 0)) (rb_ af.out) hg (Kd.R_ne ag.out af.out (by decide)))
              replace ah := am_ (blk_grown (g := az) (o := .cells #[.slice none 0 0, .slice none 0 0] 27 (0, 0)) (rb_ ah.out) hg (Kd.R_ne ag.out ah.out (by decide)))
              replace ae := am_ (blk_grown (g := ak) (o := .cells #[ay, ao] 27 (0, 0)) (rb_ ae.out) hg (Kd.R_ne ag.out ae.out (by decide)))
              replace HB := am_ (hb)
              replace bb := am_ (ho)
              clear ag ho hb hg hat
              obtain ⟨aD, aE, cg⟩ := Kd.R_slice bb.out
              (first | subst cg | (injection cg with f1_ f2_ f3_; have f4_ := f1_.symm; have f5_ := f3_.symm; clear f1_ f2_ f3_; subst f4_; subst f5_))
              refine hK.out _ _ ?_
              clear hK K
              refine norm_ (a' := ?_) ?_ ?_
              rotate_left
              ·show Act.put _ (some 67) _ = _
               simp only [pn_, sz_, ss_, i64_w, i32_w]
               rfl
              refine pu_ 12 68 (bl 14 8191) HT_ ?_
              refine last_ (i := 13) (N := none) (bl 14 16383) rfl rfl (one_of HT_.out (by kernel_rfl)) (by decide) (fun K hK => ?_)
              have hs54 : w52.cell? ⟨ak, 0, none⟩ = some (ay) := (blk_cell ae.out 0).trans rfl
              have hfs54 := blk_frozen ae.out 0
              have hns54_0 := aI.out
              have hns54_1 := aJ.out
              have hms54_0 := aW.out
              have hms54_1 := aX.out
              refine skip_ (w1 := ?_) (by rfl) rfl ?_ ?_
              rotate_left
              ·go_simp
               rfl
              refine hK.out _ _ ?_
              clear hK K
              refine done_ (done_of HT_.out (by kernel_rfl)) ?_
              have n0_ : Aside0 (Kd.R (Kd.int .i64) 3 (w52.setCell ⟨ak, 0, none⟩ (.slice aD aw.length aE)) w.heap.size (fun k_ => some k_ ≠ (.slice (some ba) aa.length bo : Value).ownBlock ∧ some k_ ≠ (u7 : Value).ownBlock) (.slice (some ar) ai.length co9) ai) := ⟨by refine rr_ ?_; exact Kd.R_mono (Kd.R_far (p := ⟨ak, 0, none⟩) (Kd.R_types an.out ae.out (by decide)) (fun _ hk => hk.2) (.slice aD aw.length aE)) (fun _ hk => ⟨hk.1.1, hk.1.2⟩)⟩
              have n1_ : Aside0 (Kd.R (Kd.int .i64) 3 (w52.setCell ⟨ak, 0, none⟩ (.slice aD aw.length aE)) w.heap.size (fun k_ => some k_ ≠ (.slice (some ar) ai.length co9 : Value).ownBlock ∧ some k_ ≠ (u7 : Value).ownBlock) (.slice (some ba) aa.length bo) aa) := ⟨by refine rr_ ?_; exact Kd.R_mono (Kd.R_far (p := ⟨ak, 0, none⟩) (Kd.R_types al.out ae.out (by decide)) (fun _ hk => hk.2) (.slice aD aw.length aE)) (fun _ hk => ⟨hk.1.1, hk.1.2⟩)⟩
              have n2_ : Aside0 (Kd.R (Kd.int .i64) 3 (w52.setCell ⟨ak, 0, none⟩ (.slice aD aw.length aE)) w.heap.size (fun k_ => some k_ ≠ (.slice (some ar) ai.length co9 : Value).ownBlock ∧ some k_ ≠ (.slice (some ba) aa.length bo : Value).ownBlock) u7 aK) := ⟨by refine rr_ ?_; exact Kd.R_mono (Kd.R_far (p := ⟨ak, 0, none⟩) (Kd.R_types au.out ae.out (by decide)) (fun _ hk => hk.2) (.slice aD aw.length aE)) (fun _ hk => ⟨hk.1.1, hk.1.2⟩)⟩
              have n3_ : Aside0 (Kd.S (Kd.slice 3 (Kd.int .i64)) 67 (w52.setCell ⟨ak, 0, none⟩ (.slice aD aw.length aE)) w.heap.size (fun k_ => some k_ ≠ (.slice (some ar) ai.length co9 : Value).ownBlock ∧ some k_ ≠ (.slice (some ba) aa.length bo : Value).ownBlock ∧ some k_ ≠ (u7 : Value).ownBlock) ao am) := ⟨by refine rs_ ?_; exact Kd.S_mono (Kd.S_far (p := ⟨ak, 0, none⟩) (Kd.S_types ab.out ae.out (by decide)) (fun _ hk => hk.2) (.slice aD aw.length aE)) (fun _ hk => ⟨hk.1.1, ⟨hk.1.2.1, hk.1.2.2⟩⟩)⟩
              have n4_ : Aside0 (Kd.R Kd.bool 4 (w52.setCell ⟨ak, 0, none⟩ (.slice aD aw.length aE)) w.heap.size (fun _ => True) (.slice aD aw.length aE) aw) := ⟨by refine rr_ ?_; exact Kd.R_mono (Kd.R_far (p := ⟨ak, 0, none⟩) (Kd.R_types bb.out ae.out (by decide)) (fun _ hk => hk.2) (.slice aD aw.length aE)) (fun _ hk => trivial)⟩
              have n5_ : Aside0 ((w52.setCell ⟨ak, 0, none⟩ (.slice aD aw.length aE)).heap[ax]? = some (.cells #[.slice (some bq) l0_0.length c0_0, .slice A0_1 l0_1.length c0_1] 27 (0, 0))) := ⟨by refine rb_ ?_; refine blk_far ?_ aI.out _; refine rb_ ?_; exact af.out⟩
              have n6_ : Aside0 ((w52.setCell ⟨ak, 0, none⟩ (.slice aD aw.length aE)).heap[az]? = some (.cells #[.slice none 0 0, .slice none 0 0] 27 (0, 0))) := ⟨by refine rb_ ?_; refine blk_far ?_ aJ.out _; refine rb_ ?_; exact ah.out⟩
              have n7_ : Aside0 ((w52.setCell ⟨ak, 0, none⟩ (.slice aD aw.length aE)).heap[ak]? = some (.cells #[.slice aD aw.length aE, ao] 27 (0, 0))) := ⟨by refine rb_ ?_; refine blk_put (cs := #[ay, ao]) ?_ 0 _ rfl; refine rb_ ?_; exact ae.out⟩
              have n8_ : Aside0 (Below w.heap.size w (w52.setCell ⟨ak, 0, none⟩ (.slice aD aw.length aE))) := ⟨by exact zp5_0_ HB.out aq.out av.out aA.out⟩
              (try clear an)
              (try clear al)
              (try clear au)
              (try clear ab)
              (try clear bb)
              (try clear af)
              (try clear ah)
              (try clear ae)
              (try clear HB)
              generalize (w52.setCell ⟨ak, 0, none⟩ (.slice aD aw.length aE)) = w55 at n0_ n1_ n2_ n3_ n4_ n5_ n6_ n7_ n8_ ⊢
              have an := n0_; have al := n1_; have au := n2_; have ab := n3_; have bb := n4_; have af := n5_; have ah := n6_; have ae := n7_; have HB := n8_
              clear n0_ n1_ n2_ n3_ n4_ n5_ n6_ n7_ n8_
              have cY := aW.out
              have cZ := aI.out
              have da := aX.out
              have db := aJ.out
              have cB := ck_ (v := (.slice aD aw.length aE)) ae 0 rfl
              have cC := ck_ (v := (ao)) ae 1 rfl
              have cD := blk_frozen ae.out 0
              have cE := blk_frozen ae.out 1
              obtain ⟨ch, ci, cw⟩ := Kd.R_slice au.out
              subst cw
              try go_wp2_with (first | ((with_reducible refine gate_builtin (b := .append) (xs := #[.tmp 70, .tmp 72]) rfl ?_); at_builtin; refine Kd.S_append (Kd.slice 3 (Kd.int .i64)) (w0 := w) w.heap.size rfl (.tmp 70) (.tmp 72) 23 67 (.slice none 0 0) 24 rfl Try.underlying23 info67 rfl (by decide) (by omega) ao am aK [.slice ch aK.length ci] (fun k_ => some k_ ≠ (.slice (some ar) ai.length co9 : Value).ownBlock ∧ some k_ ≠ (.slice (some ba) aa.length bo : Value).ownBlock) (fun k_ => some k_ = (.slice ch aK.length ci : Value).ownBlock) rfl rfl ?aP (fun k_ hk_ => ((Kd.R_mono (ok' := fun k_ => ((fun k_ => some k_ ≠ (.slice (some ar) ai.length co9 : Value).ownBlock ∧ some k_ ≠ (.slice (some ba) aa.length bo : Value).ownBlock)) k_ ∧ some k_ ≠ (ao : Value).ownBlock) (Kd.R_apart' (au.out) (Kd.S_typed ab.out) (by decide)) (fun k_ hk => ⟨⟨hk.1.1, hk.1.2⟩, hk.2⟩))).1 k_ hk_.symm) ?aF ?aO ?aB ?aS ?aL ?_; (case aP => exact Kd.M_row (Kd.R_mono (Kd.R_tight rfl (Kd.R_mono (ok' := fun k_ => ((fun k_ => some k_ ≠ (.slice (some ar) ai.length co9 : Value).ownBlock ∧ some k_ ≠ (.slice (some ba) aa.length bo : Value).ownBlock)) k_ ∧ some k_ ≠ (ao : Value).ownBlock) (Kd.R_apart' (au.out) (Kd.S_typed ab.out) (by decide)) (fun k_ hk => ⟨⟨hk.1.1, hk.1.2⟩, hk.2⟩))) (fun _ h_ => h_))); (case aB => exact (b3_ HB.out aq.out av.out aA.out)); (case aF => exact (fun k_ hk => ⟨Kd.fresh' (Kd.R_lt (rr_ an.out)) k_ hk, Kd.fresh' (Kd.R_lt (rr_ al.out)) k_ hk⟩)); (case aO => exact (by refine rs_ ?_; exact Kd.S_mono ab.out (fun k_ hk => ⟨⟨hk.1, hk.2.1⟩, fun e_ => hk.2.2 e_⟩))); (case aS => exact (below_size (b3_ HB.out aq.out av.out aA.out))); (case aL => have := LMc49.out; omega); intro dy w59 ho hb hg hat; rw [← ct.out] at ho; have n0_ := am_ (Kd.R_over' (rr_ an.out) (Kd.S_typed (rs_ ab.out)) (by decide) hg); have n1_ := am_ (Kd.R_over' (rr_ al.out) (Kd.S_typed (rs_ ab.out)) (by decide) hg); have n2_ := am_ (blk_grown (g := ax) (o := .cells #[.slice (some bq) l0_0.length c0_0, .slice A0_1 l0_1.length c0_1] 27 (0, 0)) (rb_ af.out) hg (Kd.S_ne ab.out af.out (by decide))); have n3_ := am_ (blk_grown (g := az) (o := .cells #[.slice none 0 0, .slice none 0 0] 27 (0, 0)) (rb_ ah.out) hg (Kd.S_ne ab.out ah.out (by decide))); have n4_ := am_ (blk_grown (g := ak) (o := .cells #[.slice aD aw.length aE, ao] 27 (0, 0)) (rb_ ae.out) hg (Kd.S_ne ab.out ae.out (by decide))); have n5_ := am_ (Kd.R_over' (rr_ bb.out) (Kd.S_typed (rs_ ab.out)) (by decide) hg); have n6_ := am_ (hb); have n7_ := am_ (ho); clear an; clear al; clear af; clear ah; clear ae; clear bb; clear HB; clear ab; clear au; have an := n0_; have al := n1_; have af := n2_; have ah := n3_; have ae := n4_; have bb := n5_; have HB := n6_; have bT := n7_; clear n0_ n1_ n2_ n3_ n4_ n5_ n6_ n7_; clear ho hb hg hat; obtain ⟨bw, bx, cx⟩ := Kd.S_slice bT.out; subst cx; have cF := ck_ (v := (.slice aD aw.length aE)) ae 0 rfl; have cG := ck_ (v := (ao)) ae 1 rfl; have cH := blk_frozen ae.out 0; have cI := blk_frozen ae.out 1))
              go_roundg k2
              case measure => have := HK1.out; have := HK2.out; omega
              case rel => exact ⟨(aa), (wrap64 (ad + 1)), (aw), (bn), (.slice aD aw.length aE), (.slice bw bn.length bx), (by first | rfl | (simp; done) | (simp [*]; done)), H', ⟨by have := HK1.out; have := HK2.out; omega⟩, ⟨by refine rr_ ?_; exact Kd.R_mono (Kd.R_far (p := ⟨ak, 1, none⟩) (Kd.R_types an.out ae.out (by decide)) (fun _ hk => hk.2) (.slice bw bn.length bx)) (fun _ hk => hk.1.1)⟩, ⟨by refine rr_ ?_; exact Kd.R_mono (Kd.R_far (p := ⟨ak, 1, none⟩) (Kd.R_types al.out ae.out (by decide)) (fun _ hk => hk.2) (.slice bw bn.length bx)) (fun _ hk => hk.1.1)⟩, ⟨by refine rr_ ?_; exact Kd.R_mono (Kd.R_far (p := ⟨ak, 1, none⟩) (Kd.R_types bb.out ae.out (by decide)) (fun _ hk => hk.2) (.slice bw bn.length bx)) (fun _ hk => trivial)⟩, ⟨by refine rs_ ?_; exact Kd.S_mono (Kd.S_far (p := ⟨ak, 1, none⟩) (Kd.S_types bT.out ae.out (by decide)) (fun _ hk => hk.2) (.slice bw bn.length bx)) (fun _ hk => ⟨hk.1.1, hk.1.2⟩)⟩, ⟨by refine rb_ ?_; refine blk_far ?_ aI.out _; refine rb_ ?_; exact af.out⟩, ⟨by refine rb_ ?_; refine blk_far ?_ aJ.out _; refine rb_ ?_; exact ah.out⟩, ⟨by refine rb_ ?_; refine blk_put (cs := #[.slice aD aw.length aE, ao]) ?_ 1 _ rfl; refine rb_ ?_; exact ae.out⟩, ⟨by exact zp5_0_ HB.out aq.out av.out aA.out⟩⟩
             ·rw [if_neg c49] at H
              exact absurd H (by simp)
            ·rw [if_neg c48] at H
             exact absurd H (by simp)
           ·rw [if_neg c47] at H
            exact absurd H (by simp)
          ·rw [if_neg c46] at H
           exact absurd H (by simp)
         ·rw [if_neg c45] at H
          exact absurd H (by simp)
        ·rw [if_neg c44] at H
         exact absurd H (by simp)
    ·rw [if_neg c16] at H
     have c16b0 : decide (ad < (bj.length : Int)) = false := decide_eq_false c16
     clear c16
     simp only [Option.some.injEq, Prod.mk.injEq] at H
     obtain ⟨rfl, rfl⟩ := H
     obtain ⟨dz, dA, cy⟩ := Kd.R_slice al.out
     subst cy
     have dc := aW.out
     have dd := aI.out
     have de := aX.out
     have df := aJ.out
     have cJ := ck_ (v := (ay)) ae 0 rfl
     have cK := ck_ (v := (ao)) ae 1 rfl
     have cL := blk_frozen ae.out 0
     have cM := blk_frozen ae.out 1
     obtain ⟨bI, bJ, cz⟩ := Kd.R_slice ag.out
     subst cz
     have dg := bt.out
     have dh := bs.out
     have cN := ck_ (v := (.slice none 0 0)) ah 0 rfl
     have cO := ck_ (v := (.slice none 0 0)) ah 1 rfl
     have cP := blk_frozen ah.out 0
     have cQ := blk_frozen ah.out 1
     obtain ⟨bO, bP, cA⟩ := Kd.S_slice ab.out
     subst cA
     go_wp2
     refine bodyPost_ret (results_cell_row rfl _ _ az 27 #[.slice bI ap.length bJ, .slice bO am.length bP] (0, 0) _ rfl (by refine rb_ ?_; refine blk_put (cs := #[.slice bI ap.length bJ, .slice none 0 0]) ?_ 1 _ rfl; refine rb_ ?_; refine blk_put (cs := #[.slice none 0 0, .slice none 0 0]) ?_ 0 _ rfl; refine rb_ ?_; exact ah.out) Try.underlying27 rfl (by kernel_rfl)) rfl ?_
     exact ⟨_, _, by first | rfl | (simp [errW_none, errW_some] <;> rfl) | (simp [*, errW_none, errW_some] <;> rfl), by refine rr_ ?_; exact Kd.R_mono (Kd.R_far (p := ⟨az, 1, none⟩) (Kd.R_far (p := ⟨az, 0, none⟩) (Kd.R_types ag.out ah.out (by decide)) (fun _ hk => hk.2) (.slice bI ap.length bJ)) (fun _ hk => hk.2) (.slice bO am.length bP)) (fun _ hk => trivial), by refine rs_ ?_; exact Kd.S_mono (Kd.S_far (p := ⟨az, 1, none⟩) (Kd.S_far (p := ⟨az, 0, none⟩) (Kd.S_types ab.out ah.out (by decide)) (fun _ hk => hk.2) (.slice bI ap.length bJ)) (fun _ hk => hk.2) (.slice bO am.length bP)) (fun _ hk => trivial), by exact zp5_0_ HB.out aq.out av.out aA.out⟩
 ·rw [if_neg c3] at H
  exact absurd H (by simp)
end Go.Proofs.Ytogamkblkoobkaa.P
end
section
namespace Go.Proofs.Ytogamkblkoobkaa.P
open Go.RowKit Go.Proofs.YtogamkblkoobkaaW.PrintWords Go.Proofs.YtogamkblkoobkaaW.PrintLast Go.Proofs.YtogamkblkoobkaaW.PrintMore
attribute [local go_sem] max2_int min2_int max_two min_two max_three min_three max_four min_four
set_option linter.unusedVariables false
set_option linter.unusedSimpArgs false
end Go.Proofs.Ytogamkblkoobkaa.P
end
section
namespace Go.Proofs
open Go.Shelf
def Try.lays137_ren : Go.Shelf.Ren := ⟨fun | 137 => 122 | 217 => 132 | 266 => 134 | n => n, fun | 9 => 9 | 5 => 5 | 3 => 3 | n => n, fun | n => n⟩
theorem Try.lays137 : Go.Proofs.Lays.n137 Try.prog Try.lays137_ren := {
  mixed := by kernel_rfl
  f137 := Try.func122.trans (congrArg some (by kernel_rfl))
  f217 := Try.func132.trans (congrArg some (by kernel_rfl))
  f266 := Try.func134.trans (congrArg some (by kernel_rfl))
  t3 := Try.underlying3
  a3 := Try.isAgg3
  z3 := Try.sizeOf3
  v3 := Try.zeroValue3
  t5 := Try.underlying5
  a5 := Try.isAgg5
  z5 := Try.sizeOf5
  v5 := Try.zeroValue5
  t9 := Try.underlying9
  a9 := Try.isAgg9
  z9 := Try.sizeOf9
  v9 := Try.zeroValue9 }
open Go.RowKit in
theorem Try.strings_IndexByte (s : ByteArray) (c : Int) (w : World) :
    Calls Try.prog 122 #[.string s, .int .u8 c] w fun e w' => e = .returned (.int .i64 (Lib.indexByte s.data.toList c.toNat.toUInt8)) ∧ w' = w := Any.strings_IndexByte Try.lays137 s c w
end Go.Proofs
end
section
namespace Go.Proofs.Ytogamkblkoobkaa.P
open Go.RowKit Go.Proofs.YtogamkblkoobkaaW.PrintWords Go.Proofs.YtogamkblkoobkaaW.PrintLast Go.Proofs.YtogamkblkoobkaaW.PrintMore
attribute [local go_sem] max2_int min2_int max_two min_two max_three min_three max_four min_four
set_option linter.unusedVariables false
set_option linter.unusedSimpArgs false
def strings_IndexByte.f (a0 : ByteArray) (a1 : Int) : Option (Int) := some (Lib.indexByte a0.data.toList a1.toNat.toUInt8)
theorem strings_IndexByte.calls (a0 : ByteArray) (a1 : Int) (r : Int) (w : World) (h : strings_IndexByte.f a0 a1 = some r) :
    Calls Try.prog 122 #[.string a0, .int .u8 a1] w fun e w' => e = .returned (.int .i64 r) ∧ Drawn0 w w' := by
  refine (Try.strings_IndexByte a0 a1 w).mono ?_
  rintro e w' ⟨rfl, rfl⟩
  obtain rfl := Option.some.inj h
  exact ⟨rfl, Drawn0.refl _⟩
def impl_LetterIndex.f (a0 : Int) : Option (Int) := (strings_IndexByte.f (⟨#[97, 98, 99]⟩ : ByteArray) a0).bind fun ah => (some ah)
set_option maxHeartbeats 8000000 in
set_option maxRecDepth 100000 in
theorem impl_LetterIndex.calls (a0 : Int) (r : Int) (w : World) (h : impl_LetterIndex.f a0 = some r) :
    Calls Try.prog 72 #[.int .u8 a0] w fun e w' => e = .returned (.int .i64 r) ∧ Drawn0 w w' := by
  have H : ((strings_IndexByte.f (⟨#[97, 98, 99]⟩ : ByteArray) a0).bind fun ah => (some ah)) = some r := h
  clear h
  replace H := Option.bind_eq_some_iff.mp H
  obtain ⟨ah, A20, H⟩ := H
  replace H : (some ah) = some r := H
  have A2 := am_ A20
  clear A20
  obtain rfl := Option.some.inj H
  simp only [Option.some.injEq, Prod.mk.injEq] at H
  obtain ⟨rfl⟩ := H
  go_enter Try.func72, Try.ntmps72
  go_wp2_with (first | ((with_reducible refine gate_callee (f := 122) rfl ?_); refine gL_ (some 4) Try.func122 #[.string (⟨#[97, 98, 99]⟩ : ByteArray), .int .u8 a0] ?_; (with_reducible refine (strings_IndexByte.calls (⟨#[97, 98, 99]⟩ : ByteArray) a0 ah _ A2.out).mono ?_); rintro e w' ⟨rfl, ⟨nd, rfl⟩⟩; refine ⟨_, rfl, ?_⟩))
  go_ret
  exact ⟨by first | rfl | (simp; done) | (simp [*]; done), by repeat (first | exact Drawn0.refl _ | apply Drawn0.step)⟩
def impl_isLetters.l0 : Nat → ByteArray → Int → Option (Bool)
  | 0, _, _ => none
  | k + 1, x0, x3 => if x3 < (x0.size : Int) then (if 0 ≤ x3 then ((impl_LetterIndex.f (bt x0 x3)).bind fun af => (if af < 0 then (some false) else (impl_isLetters.l0 k x0 (wrap64 (x3 + 1))))) else (none)) else (some true)
def impl_isLetters.f (k : Nat) (a0 : ByteArray) : Option (Bool) := impl_isLetters.l0 k a0 0
theorem impl_isLetters.mono_l : ∀ k, (∀ y0 y1, LeO (impl_isLetters.l0 k y0 y1) (impl_isLetters.l0 (k + 1) y0 y1))
  | 0 => fun _ _ r h => by simp [impl_isLetters.l0] at h
  | k + 1 => by
    have ih0 := impl_isLetters.mono_l k
    · intro y0 y1
      unfold impl_isLetters.l0
      repeat' first
      | (with_reducible exact ih0 _ _)
      | (with_reducible exact LeO.refl _)
      | (with_reducible exact LeO.none _)
      | (with_reducible refine LeO.ite ?_ ?_)
      | (with_reducible refine LeO.bind ?_ (fun _ => ?_))
      | exact ih0 _ _
      | exact LeO.none _
      | refine LeO.ite ?_ ?_
      | refine LeO.bind ?_ (fun _ => ?_)
theorem impl_isLetters.mono : ∀ a0 k, LeO (impl_isLetters.f k a0) (impl_isLetters.f (k + 1) a0) := by
  intro a0 k
  have ih0 := impl_isLetters.mono_l k
  unfold impl_isLetters.f
  repeat' first
      | (with_reducible exact ih0 _ _)
      | (with_reducible exact LeO.refl _)
      | (with_reducible exact LeO.none _)
      | (with_reducible refine LeO.ite ?_ ?_)
      | (with_reducible refine LeO.bind ?_ (fun _ => ?_))
      | exact ih0 _ _
      | exact LeO.none _
      | refine LeO.ite ?_ ?_
      | refine LeO.bind ?_ (fun _ => ?_)
set_option maxHeartbeats 8000000 in
set_option maxRecDepth 100000 in
theorem impl_isLetters.calls (k : Nat) (a0 : ByteArray) (r : Bool) (w : World) (h : impl_isLetters.f k a0 = some r) :
    Calls Try.prog 121 #[.string a0] w fun e w' => e = .returned (.bool r) ∧ Drawn0 w w' := by
  have H : (impl_isLetters.l0 k a0 0) = some r := h
  clear h
  have H' := am_ H
  clear H
  go_enter Try.func121, Try.ntmps121
  go_wp2
  go_loopg [3] k (fun kq v3 w' => ∃ (ab : Int), v3 = .int .i64 ab ∧ Aside0 (impl_isLetters.l0 kq a0 ab = some r) ∧ Aside0 (kq ≤ k) ∧ Drawn0 w w')
  case atStart => exact ⟨(0), (by first | rfl | (simp; done) | (simp [*]; done)), H', ⟨Nat.le_refl _⟩, by repeat (first | exact Drawn0.refl _ | apply Drawn0.step)⟩
  case round =>
    clear H'
    try clear c1
    obtain ⟨ab, rfl, HA, HK1, ⟨m1, rfl⟩⟩ := hrel
    cases gk with
    | zero => exact absurd HA.out (by simp [impl_isLetters.l0])
    | succ k1 =>
      have H := HA.out
      clear HA
      simp only [impl_isLetters.l0] at H
      by_cases c2 : ab < (a0.size : Int)
      · rw [if_pos c2] at H
        have c2b0 : decide (ab < (a0.size : Int)) = true := decide_eq_true c2
        clear c2
        by_cases c3 : 0 ≤ ab
        · rw [if_pos c3] at H
          have c3b0 : decide (0 ≤ ab) = true := decide_eq_true c3
          clear c3
          replace H := Option.bind_eq_some_iff.mp H
          obtain ⟨af, A50, H⟩ := H
          have A5 := am_ A50
          clear A50
          by_cases c6 : af < 0
          · rw [if_pos c6] at H
            have c6b0 : decide (af < 0) = true := decide_eq_true c6
            clear c6
            obtain rfl := Option.some.inj H
            simp only [Option.some.injEq, Prod.mk.injEq] at H
            obtain ⟨rfl⟩ := H
            have p4 : 0 ≤ (ab : Int) := of_decide_eq_true ah_
            have q4 : ab < (a0.size : Int) := of_decide_eq_true ah_
            have hx4 := bt_at a0 ab
            replace p4 := eq_true p4
            replace q4 := eq_true q4
            go_wp2_with (first | ((with_reducible refine gate_callee (f := 72) rfl ?_); refine gL_ (some 13) Try.func72 #[.int .u8 (bt a0 ab)] ?_; (with_reducible refine (impl_LetterIndex.calls (bt a0 ab) af _ A5.out).mono ?_); rintro e w' ⟨rfl, ⟨nd, rfl⟩⟩; refine ⟨_, rfl, ?_⟩))
            go_ret
            exact ⟨by first | rfl | (simp; done) | (simp [*]; done), by repeat (first | exact Drawn0.refl _ | apply Drawn0.step)⟩
          · rw [if_neg c6] at H
            have c6b0 : decide (af < 0) = false := decide_eq_false c6
            clear c6
            have H' := am_ H
            clear H
            have p4 : 0 ≤ (ab : Int) := of_decide_eq_true ah_
            have q4 : ab < (a0.size : Int) := of_decide_eq_true ah_
            have hx4 := bt_at a0 ab
            replace p4 := eq_true p4
            replace q4 := eq_true q4
            go_wp2_with (first | ((with_reducible refine gate_callee (f := 72) rfl ?_); refine gL_ (some 13) Try.func72 #[.int .u8 (bt a0 ab)] ?_; (with_reducible refine (impl_LetterIndex.calls (bt a0 ab) af _ A5.out).mono ?_); rintro e w' ⟨rfl, ⟨nd, rfl⟩⟩; refine ⟨_, rfl, ?_⟩))
            go_roundg k1
            case measure => have := HK1.out; omega
            case rel => exact ⟨(wrap64 (ab + 1)), (by first | rfl | (simp; done) | (simp [*]; done)), H', ⟨by have := HK1.out; omega⟩, by repeat (first | exact Drawn0.refl _ | apply Drawn0.step)⟩
        · rw [if_neg c3] at H
          exact absurd H (by simp)
      · rw [if_neg c2] at H
        have c2b0 : decide (ab < (a0.size : Int)) = false := decide_eq_false c2
        clear c2
        obtain rfl := Option.some.inj H
        simp only [Option.some.injEq, Prod.mk.injEq] at H
        obtain ⟨rfl⟩ := H
        go_wp2
        go_ret
        exact ⟨by first | rfl | (simp; done) | (simp [*]; done), by repeat (first | exact Drawn0.refl _ | apply Drawn0.step)⟩
def impl_IsWord.f (k : Nat) (a0 : ByteArray) : Option (Bool) := if (a0.size : Int) ≤ 30 then ((impl_isLetters.f k a0).bind fun ai => (some ai)) else (some false)
theorem impl_IsWord.mono : ∀ a0 k, LeO (impl_IsWord.f k a0) (impl_IsWord.f (k + 1) a0) := by
  intro a0 k
  unfold impl_IsWord.f
  repeat' first
      | (with_reducible exact impl_isLetters.mono _ _)
      | (with_reducible exact LeO.refl _)
      | (with_reducible exact LeO.none _)
      | (with_reducible refine LeO.ite ?_ ?_)
      | (with_reducible refine LeO.bind ?_ (fun _ => ?_))
      | exact impl_isLetters.mono _ _
      | exact LeO.none _
      | refine LeO.ite ?_ ?_
      | refine LeO.bind ?_ (fun _ => ?_)
set_option maxHeartbeats 8000000 in
set_option maxRecDepth 100000 in
theorem impl_IsWord.calls (k : Nat) (a0 : ByteArray) (r : Bool) (w : World) (h : impl_IsWord.f k a0 = some r) :
    Calls Try.prog 71 #[.string a0] w fun e w' => e = .returned (.bool r) ∧ Drawn0 w w' := by
  have H : (if (a0.size : Int) ≤ 30 then ((impl_isLetters.f k a0).bind fun ai => (some ai)) else (some false)) = some r := h
  clear h
  by_cases c2 : (a0.size : Int) ≤ 30
  · rw [if_pos c2] at H
    have c2b0 : decide ((a0.size : Int) ≤ 30) = true := decide_eq_true c2
    have c2b1 : decide (a0.size ≤ 30) = true := decide_eq_true (by omega)
    clear c2
    replace H := Option.bind_eq_some_iff.mp H
    obtain ⟨ai, A30, H⟩ := H
    replace H : (some ai) = some r := H
    have A3 := am_ A30
    clear A30
    obtain rfl := Option.some.inj H
    simp only [Option.some.injEq, Prod.mk.injEq] at H
    obtain ⟨rfl⟩ := H
    go_enter Try.func71, Try.ntmps71
    go_wp2_with (first | (go_at_call 121; (with_reducible refine (impl_isLetters.calls k a0 ai _ A3.out).mono ?_); rintro e w' ⟨rfl, ⟨nd, rfl⟩⟩))
    go_ret
    exact ⟨by first | rfl | (simp; done) | (simp [*]; done), by repeat (first | exact Drawn0.refl _ | apply Drawn0.step)⟩
  · rw [if_neg c2] at H
    have c2b0 : decide ((a0.size : Int) ≤ 30) = false := decide_eq_false c2
    have c2b1 : decide (a0.size ≤ 30) = false := decide_eq_false (by omega)
    clear c2
    obtain rfl := Option.some.inj H
    simp only [Option.some.injEq, Prod.mk.injEq] at H
    obtain ⟨rfl⟩ := H
    go_enter Try.func71, Try.ntmps71
    go_wp2
    go_ret
    exact ⟨by first | rfl | (simp; done) | (simp [*]; done), by repeat (first | exact Drawn0.refl _ | apply Drawn0.step)⟩
end Go.Proofs.Ytogamkblkoobkaa.P
end
section
namespace Go.Proofs.Ytogamkblkoobkaa.Pl
open Go.RowKit Go.Proofs.Ytogamkblkoobkaa.P Go.Proofs.YtogamkblkoobkaaW.PrintWords Go.Proofs.YtogamkblkoobkaaW.PrintLast Go.Proofs.YtogamkblkoobkaaW.PrintMore
set_option linter.unusedVariables false
set_option linter.unusedSimpArgs false
def letIdx (b : Int) : Int := if b = 97 then 0 else if b = 98 then 1 else if b = 99 then 2 else -1
theorem spec_letter (b : Int) : Ev (fun k => spec_LetterIndex.f k b) (letIdx b) := by
  simp only [spec_LetterIndex.f]
  have e0 : bt (⟨#[97, 98, 99]⟩ : ByteArray) 0 = 97 := rfl
  have e1 : bt (⟨#[97, 98, 99]⟩ : ByteArray) 1 = 98 := rfl
  have e2 : bt (⟨#[97, 98, 99]⟩ : ByteArray) 2 = 99 := rfl
  have w0 : wrap64 ((0 : Int) + 1) = 1 := by unfold wrap64; omega
  have w1 : wrap64 ((1 : Int) + 1) = 2 := by unfold wrap64; omega
  have w2 : wrap64 ((2 : Int) + 1) = 3 := by unfold wrap64; omega
  refine next ?_
  simp only [spec_LetterIndex.l0, if_pos (show (0 : Int) < 3 by omega), if_pos (show (0 : Int) ≤ 0 by omega), e0, w0, letIdx]
  by_cases h : b = 97
  · simp only [h, if_true]
    exact Ev.now _
  · simp only [if_neg h, if_neg (fun e => h (Eq.symm e))]
    refine next ?_
    simp only [spec_LetterIndex.l0, if_pos (show (1 : Int) < 3 by omega), if_pos (show (0 : Int) ≤ 1 by omega), e1, w1]
    by_cases h : b = 98
    · simp only [h, if_true]
      exact Ev.now _
    · simp only [if_neg h, if_neg (fun e => h (Eq.symm e))]
      refine next ?_
      simp only [spec_LetterIndex.l0, if_pos (show (2 : Int) < 3 by omega), if_pos (show (0 : Int) ≤ 2 by omega), e2, w2]
      by_cases h : b = 99
      · simp only [h, if_true]
        exact Ev.now _
      · simp only [if_neg h, if_neg (fun e => h (Eq.symm e))]
        refine next ?_
        simp only [spec_LetterIndex.l0, if_neg (show ¬ (3 : Int) < 3 by omega)]
        exact Ev.now _
theorem u8_eq {b : Int} (h0 : 0 ≤ b) (h1 : b ≤ 255) (c : Nat) (hc : c < 256) : (b.toNat.toUInt8 = UInt8.ofNat c) ↔ b = c := by
  constructor
  · intro h
    have := congrArg UInt8.toNat h
    simp at this
    omega
  · rintro rfl
    simp
theorem impl_letter {b : Int} (h0 : 0 ≤ b) (h1 : b ≤ 255) : impl_LetterIndex.f b = some (letIdx b) := by
  simp only [impl_LetterIndex.f, strings_IndexByte.f, Option.bind_some, letIdx]
  have e97 := u8_eq h0 h1 97 (by omega)
  have e98 := u8_eq h0 h1 98 (by omega)
  have e99 := u8_eq h0 h1 99 (by omega)
  congr 1
  by_cases h : b = 97
  · rw [h]; rfl
  · by_cases h2 : b = 98
    · rw [h2]; rfl
    · by_cases h3 : b = 99
      · rw [h3]; rfl
      · have n97 : ¬ b.toNat.toUInt8 = 97 := fun e => h (e97.mp e)
        have n98 : ¬ b.toNat.toUInt8 = 98 := fun e => h2 (e98.mp e)
        have n99 : ¬ b.toNat.toUInt8 = 99 := fun e => h3 (e99.mp e)
        rw [if_neg h, if_neg h2, if_neg h3]
        have q1 : ¬ (97 : UInt8) = b.toNat.toUInt8 := fun e => n97 e.symm
        have q2 : ¬ (98 : UInt8) = b.toNat.toUInt8 := fun e => n98 e.symm
        have q3 : ¬ (99 : UInt8) = b.toNat.toUInt8 := fun e => n99 e.symm
        simp only [Lib.indexByte, beq_iff_eq, n97, n98, n99, q1, q2, q3, if_false]
        rfl
def lets (l : List Int) : Bool := l.all fun b => decide (0 ≤ letIdx b)
def word (s : ByteArray) : Bool := lets (bytesOf s) && decide (s.size ≤ 30)
theorem letIdx_range (b : Int) : -1 ≤ letIdx b ∧ letIdx b ≤ 2 := by
  unfold letIdx
  split
  · omega
  · split
    · omega
    · split <;> omega
theorem spec_word_l0 (s : ByteArray) (hs : s.size ≤ 140737488351232) : ∀ d i : Nat, i + d = s.size → Ev (fun k => spec_IsWord.l0 k s i) (lets ((bytesOf s).drop i) && decide ((s.size : Int) ≤ 30)) := by
  intro d
  induction d with
  | zero =>
    intro i h
    refine next ?_
    simp only [spec_IsWord.l0, if_neg (show ¬ (i : Int) < (s.size : Int) by omega), drop_end s i (by omega)]
    exact ev_some (by simp [lets])
  | succ d ih =>
    intro i h
    refine next ?_
    simp only [spec_IsWord.l0, if_pos (show (i : Int) < (s.size : Int) by omega), if_pos (show (0 : Int) ≤ i by omega)]
    refine Ev.bind (spec_letter _) ?_
    rw [drop_cons s i (by omega)]
    by_cases hl : letIdx (bt s i) < 0
    · simp only [if_pos hl]
      exact ev_some (by simp [lets, show ¬ 0 ≤ letIdx (bt s i) by omega])
    · simp only [if_neg hl, up1 (show i < 9223372036854775807 by omega)]
      exact ev_eq (ih (i + 1) (by omega)) (by simp [lets, show 0 ≤ letIdx (bt s i) by omega])
theorem spec_word (s : ByteArray) (hs : s.size ≤ 140737488351232) : Ev (fun k => spec_IsWord.f k s) (word s) :=
  ev_eq (spec_word_l0 s hs s.size 0 (by omega)) (by
    have e : decide ((s.size : Int) ≤ 30) = decide (s.size ≤ 30) := decide_eq_decide.mpr (by omega)
    simp only [word, e, List.drop_zero])
theorem impl_lets_l0 (s : ByteArray) (hs : s.size ≤ 140737488351232) : ∀ d i : Nat, i + d = s.size → Ev (fun k => impl_isLetters.l0 k s i) (lets ((bytesOf s).drop i)) := by
  intro d
  induction d with
  | zero =>
    intro i h
    refine next ?_
    simp only [impl_isLetters.l0, if_neg (show ¬ (i : Int) < (s.size : Int) by omega), drop_end s i (by omega)]
    exact ev_some (by simp [lets])
  | succ d ih =>
    intro i h
    refine next ?_
    simp only [impl_isLetters.l0, if_pos (show (i : Int) < (s.size : Int) by omega), if_pos (show (0 : Int) ≤ i by omega), impl_letter (bt_range s i).1 (bt_range s i).2, Option.bind_some]
    rw [drop_cons s i (by omega)]
    by_cases hl : letIdx (bt s i) < 0
    · simp only [if_pos hl]
      exact ev_some (by simp [lets, show ¬ 0 ≤ letIdx (bt s i) by omega])
    · simp only [if_neg hl, up1 (show i < 9223372036854775807 by omega)]
      exact ev_eq (ih (i + 1) (by omega)) (by simp [lets, show 0 ≤ letIdx (bt s i) by omega])
theorem impl_word (s : ByteArray) (hs : s.size ≤ 140737488351232) : Ev (fun k => impl_IsWord.f k s) (word s) := by
  simp only [impl_IsWord.f]
  by_cases h : s.size ≤ 30
  · simp only [if_pos (show (s.size : Int) ≤ 30 by omega)]
    refine Ev.bind (impl_lets_l0 s hs s.size 0 (by omega)) ?_
    exact ev_some (by simp [word, h])
  · simp only [if_neg (show ¬ (s.size : Int) ≤ 30 by omega)]
    exact ev_some (by simp [word, h])
end Go.Proofs.Ytogamkblkoobkaa.Pl
end
section
namespace Go.Proofs.Ytogamkblkoobkaa.Bf
open Go.RowKit Go.Proofs.Ytogamkblkoobkaa.Pl Go.Proofs.Ytogamkblkoobkaa.Mp Go.Proofs.YtogamkblkoobkaaW.PrintWords Go.Proofs.YtogamkblkoobkaaW.PrintLast Go.Proofs.YtogamkblkoobkaaW.PrintMore
set_option linter.unusedVariables false
set_option linter.unusedSimpArgs false
set_option linter.unusedSectionVars false
section
variable {α : Type} [DecidableEq α] {nx : α → Nat → α} {x0 : α} {dom : α → Prop} {N : Nat} {good : α → Bool}
end
end Go.Proofs.Ytogamkblkoobkaa.Bf
end
section
namespace Go.Proofs.Ytogamkblkoobkaa.Bf
open Go.RowKit Go.Proofs.Ytogamkblkoobkaa.Pl Go.Proofs.Ytogamkblkoobkaa.Mp Go.Proofs.YtogamkblkoobkaaW.PrintWords Go.Proofs.YtogamkblkoobkaaW.PrintLast Go.Proofs.YtogamkblkoobkaaW.PrintMore
set_option linter.unusedVariables false
set_option linter.unusedSimpArgs false
set_option linter.unusedSectionVars false
def wv (bs : List Int) : Nat := bs.foldl (fun v b => 3 * v + (letIdx b).toNat + 1) 0
section
variable {α : Type} [DecidableEq α] {nx : α → Nat → α} {x0 : α} {dom : α → Prop} {N : Nat} {good : α → Bool}
def V (p : St α) (j : Nat) : Nat := wv (bytesOf (p.2.getD j ByteArray.empty))
end
end Go.Proofs.Ytogamkblkoobkaa.Bf
end
section
namespace Go.Proofs.Ytogamkblkoobkaa.Lg
set_option linter.unusedVariables false
set_option linter.unusedSectionVars false
theorem nodup_len {α : Type} [DecidableEq α] : ∀ (s t : List α), s.Nodup → (∀ x ∈ s, x ∈ t) → s.length ≤ t.length
  | [], t, _, _ => Nat.zero_le _
  | a :: s, t, hn, hs => by
    rw [List.nodup_cons] at hn
    have hm := hs a List.mem_cons_self
    have h1 := nodup_len s (t.erase a) hn.2 (fun x hx => by
      have hne : x ≠ a := by rintro rfl; exact hn.1 hx
      exact (List.mem_erase_of_ne hne).mpr (hs x (List.mem_cons_of_mem _ hx)))
    rw [List.length_erase_of_mem hm] at h1
    have := List.length_pos_of_mem hm
    simp only [List.length_cons]
    omega
section
variable {α : Type} [DecidableEq α]
def add (L : List α) (y : α) : List α := if y ∈ L then L else L ++ [y]
def adds (L ys : List α) : List α := ys.foldl add L
inductive Runs (succ : α → List α) : List α → Nat → List α → Prop
  | stop {L : List α} {i : Nat} (h : L.length ≤ i) : Runs succ L i L
  | step {L R : List α} {i : Nat} (h : i < L.length) (hr : Runs succ (adds L (succ L[i])) (i + 1) R) : Runs succ L i R
theorem mem_add {L : List α} {y z : α} : z ∈ add L y ↔ z ∈ L ∨ z = y := by
  unfold add
  split
  · rename_i h
    constructor
    · exact Or.inl
    · rintro (q | rfl)
      · exact q
      · exact h
  · simp
theorem mem_adds {ys : List α} : ∀ {L : List α} {z : α}, z ∈ adds L ys ↔ z ∈ L ∨ z ∈ ys := by
  induction ys with
  | nil => intro L z; simp [adds]
  | cons y ys ih =>
    intro L z
    show z ∈ adds (add L y) ys ↔ _
    rw [ih, mem_add]
    simp only [List.mem_cons]
    constructor
    · rintro ((h | h) | h) <;> simp [h]
    · rintro (h | h | h) <;> simp [h]
theorem adds_nil (L : List α) : adds L [] = L := rfl
theorem adds_cons (L : List α) (y : α) (ys : List α) : adds L (y :: ys) = adds (add L y) ys := rfl
theorem adds_append (L ys zs : List α) : adds L (ys ++ zs) = adds (adds L ys) zs := by simp [adds, List.foldl_append]
theorem add_in {L : List α} {y : α} (h : y ∈ L) : add L y = L := by unfold add; rw [if_pos h]
theorem add_out {L : List α} {y : α} (h : y ∉ L) : add L y = L ++ [y] := by unfold add; rw [if_neg h]
theorem adds_in {ys : List α} : ∀ {L : List α}, (∀ y ∈ ys, y ∈ L) → adds L ys = L := by
  induction ys with
  | nil => intro L _; rfl
  | cons y ys ih =>
    intro L h
    rw [adds_cons, add_in (h y List.mem_cons_self)]
    exact ih fun z hz => h z (List.mem_cons_of_mem _ hz)
theorem add_pre (L : List α) (y : α) : L <+: add L y := by
  unfold add
  split
  · exact List.prefix_refl _
  · exact List.prefix_append _ _
theorem adds_pre (ys : List α) : ∀ L : List α, L <+: adds L ys := by
  induction ys with
  | nil => intro L; exact List.prefix_refl _
  | cons y ys ih => intro L; exact (add_pre L y).trans (ih _)
theorem nodup_add {L : List α} (h : L.Nodup) (y : α) : (add L y).Nodup := by
  unfold add
  split
  · exact h
  · rename_i hn
    rw [List.nodup_append]
    refine ⟨h, by simp, ?_⟩
    rintro a ha b hb rfl
    rw [List.mem_singleton] at hb
    subst hb
    exact hn ha
theorem nodup_adds (ys : List α) : ∀ {L : List α}, L.Nodup → (adds L ys).Nodup := by
  induction ys with
  | nil => intro L h; exact h
  | cons y ys ih => intro L h; exact ih (nodup_add h y)
theorem Runs.det {succ : α → List α} {L R R' : List α} {i : Nat} (h : Runs succ L i R) (h' : Runs succ L i R') : R = R' := by
  induction h with
  | stop h =>
    cases h' with
    | stop _ => rfl
    | step h2 _ => omega
  | step h _ ih =>
    cases h' with
    | stop h2 => omega
    | step _ hr => exact ih hr
theorem Runs.pre {succ : α → List α} {L R : List α} {i : Nat} (h : Runs succ L i R) : L <+: R := by
  induction h with
  | stop h => exact List.prefix_refl _
  | step h _ ih => exact (adds_pre _ _).trans ih
theorem Runs.nodup {succ : α → List α} {L R : List α} {i : Nat} (h : Runs succ L i R) : L.Nodup → R.Nodup := by
  induction h with
  | stop h => exact id
  | step h _ ih => exact fun hn => ih (nodup_adds _ hn)
theorem Runs.all {succ : α → List α} {L R : List α} {i : Nat} (h : Runs succ L i R) {p : α → Prop} (hp : ∀ x, p x → ∀ y ∈ succ x, p y) : (∀ x ∈ L, p x) → ∀ x ∈ R, p x := by
  induction h with
  | stop h => exact id
  | step h _ ih =>
    refine fun ha => ih fun x hx => ?_
    rcases mem_adds.mp hx with q | q
    · exact ha x q
    · exact hp _ (ha _ (List.getElem_mem h)) x q
theorem Runs.closed {succ : α → List α} {L R : List α} {i : Nat} (h : Runs succ L i R) (hc : ∀ j (hj : j < L.length), j < i → ∀ y ∈ succ L[j], y ∈ L) : ∀ x ∈ R, ∀ y ∈ succ x, y ∈ R := by
  induction h with
  | stop h =>
    intro x hx y hy
    obtain ⟨j, hj, rfl⟩ := List.mem_iff_getElem.mp hx
    exact hc j hj (by omega) y hy
  | @step L R i h _ ih =>
    refine ih fun j hj hji y hy => ?_
    have hpre := adds_pre (succ L[i]) L
    by_cases hjl : j < L.length
    · have e : (adds L (succ L[i]))[j] = L[j] := (hpre.getElem hjl).symm
      rw [e] at hy
      by_cases hj2 : j < i
      · exact hpre.subset (hc j hjl hj2 y hy)
      · obtain rfl : j = i := by omega
        exact mem_adds.mpr (Or.inr hy)
    · omega
theorem Runs.ends {succ : α → List α} {dom : α → Prop} {N : Nat} (hd : ∀ x, dom x → ∀ y ∈ succ x, dom y) (hcard : ∀ s : List α, s.Nodup → (∀ x ∈ s, dom x) → s.length ≤ N) : ∀ (d : Nat) (L : List α) (i : Nat), L.Nodup → (∀ x ∈ L, dom x) → i ≤ L.length → N ≤ d + i → ∃ R, Runs succ L i R
  | 0, L, i, hn, ha, hi, hd0 => ⟨L, .stop (by have := hcard L hn ha; omega)⟩
  | d + 1, L, i, hn, ha, hi, hd0 => by
    by_cases h : i < L.length
    · have ha2 : ∀ x ∈ adds L (succ L[i]), dom x := fun x hx => by
        rcases mem_adds.mp hx with q | q
        · exact ha x q
        · exact hd _ (ha _ (List.getElem_mem h)) x q
      obtain ⟨R, hR⟩ := Runs.ends hd hcard d (adds L (succ L[i])) (i + 1) (nodup_adds _ hn) ha2 (by have := (adds_pre (succ L[i]) L).length_le; omega) (by omega)
      exact ⟨R, .step h hR⟩
    · exact ⟨L, .stop (by omega)⟩
end
section
variable {α β : Type} [DecidableEq α] [DecidableEq β]
def dd (l : List β) : List β := adds [] l
theorem dd_snoc (l : List β) (y : β) : dd (l ++ [y]) = add (dd l) y := by unfold dd; rw [adds_append]; rfl
theorem mem_dd {l : List β} {y : β} : y ∈ dd l ↔ y ∈ l := by unfold dd; rw [mem_adds]; simp
theorem dd_append (l m : List β) : dd (l ++ m) = adds (dd l) m := adds_append _ _ _
theorem dd_nodup (l : List β) : (dd l).Nodup := nodup_adds _ (by simp)
theorem dd_id {l : List β} (h : l.Nodup) : dd l = l := by
  suffices H : ∀ (m k : List β), (k ++ m).Nodup → adds k m = k ++ m from H l [] (by simpa using h)
  intro m
  induction m with
  | nil => intro k _; simp [adds_nil]
  | cons y m ih =>
    intro k hk
    have hny : y ∉ k := by
      intro hm
      rw [List.nodup_append] at hk
      exact hk.2.2 y hm y List.mem_cons_self rfl
    rw [adds_cons, add_out hny, ih]
    · simp
    · simpa using hk
theorem dd_adds (f : α → β) (xs : List α) : ∀ L : List α, dd ((adds L xs).map f) = adds (dd (L.map f)) (xs.map f) := by
  induction xs with
  | nil => intro L; rfl
  | cons x xs ih =>
    intro L
    rw [adds_cons, ih, List.map_cons, adds_cons]
    congr 1
    by_cases h : x ∈ L
    · rw [add_in h, add_in (mem_dd.mpr (List.mem_map_of_mem h))]
    · rw [add_out h, List.map_append, List.map_singleton, dd_snoc]
theorem Runs.map {succ : α → List α} {succ' : β → List β} {f : α → β} {dom : α → Prop} (hd : ∀ x, dom x → ∀ y ∈ succ x, dom y) (hf : ∀ x, dom x → (succ x).map f = succ' (f x)) {L R : List α} {i : Nat} (h : Runs succ L i R)
    (hall : ∀ x ∈ L, dom x) (hi : i ≤ L.length) (hc : ∀ j (hj : j < L.length), j < i → ∀ y ∈ succ L[j], y ∈ L) : Runs succ' (dd (L.map f)) (dd ((L.take i).map f)).length (dd (R.map f)) := by
  induction h with
  | @stop L i h =>
    have e : L.take i = L := List.take_of_length_le h
    rw [e]
    exact .stop (Nat.le_refl _)
  | @step L R i h hr ih =>
    have hpre := adds_pre (succ L[i]) L
    have hdi := hall _ (List.getElem_mem h)
    have ha2 : ∀ x ∈ adds L (succ L[i]), dom x := fun x hx => by
      rcases mem_adds.mp hx with q | q
      · exact hall x q
      · exact hd _ hdi x q
    have hc2 : ∀ j (hj : j < (adds L (succ L[i])).length), j < i + 1 → ∀ y ∈ succ (adds L (succ L[i]))[j], y ∈ adds L (succ L[i]) := fun j hj hji y hy => by
      have hjl : j < L.length := by omega
      have e : (adds L (succ L[i]))[j] = L[j] := (hpre.getElem hjl).symm
      rw [e] at hy
      by_cases hj2 : j < i
      · exact hpre.subset (hc j hjl hj2 y hy)
      · obtain rfl : j = i := by omega
        exact mem_adds.mpr (Or.inr hy)
    have IH := ih ha2 (by have := hpre.length_le; omega) hc2
    rw [dd_adds, hf _ hdi] at IH
    have et : (adds L (succ L[i])).take (i + 1) = L.take i ++ [L[i]] := by
      obtain ⟨t, ht⟩ := hpre
      have h2 : (adds L (succ L[i])).take (i + 1) = L.take (i + 1) := by rw [← ht, List.take_append_of_le_length (by omega)]
      rw [h2, List.take_succ_eq_append_getElem h]
    rw [et, List.map_append, List.map_singleton, dd_snoc] at IH
    have hpm : dd ((L.take i).map f ++ [f L[i]]) <+: dd (L.map f) := by
      have e2 : L.map f = ((L.take i).map f ++ [f L[i]]) ++ (L.drop (i + 1)).map f := by
        rw [← List.map_singleton, ← List.map_append, ← List.map_append, ← List.take_succ_eq_append_getElem h, List.take_append_drop]
      have h3 := adds_pre ((L.drop (i + 1)).map f) (dd ((L.take i).map f ++ [f L[i]]))
      rw [← dd_append, ← e2] at h3
      exact h3
    rw [dd_snoc] at hpm
    by_cases hm : f L[i] ∈ dd ((L.take i).map f)
    · rw [add_in hm] at IH
      obtain ⟨x, hx, hxe⟩ := List.mem_map.mp (mem_dd.mp hm)
      obtain ⟨j, hj, rfl⟩ := List.mem_iff_getElem.mp hx
      have hj' : j < i := by simp only [List.length_take] at hj; omega
      have hjl : j < L.length := by omega
      have eL : (L.take i)[j] = L[j] := List.getElem_take
      have : adds (dd (L.map f)) (succ' (f L[i])) = dd (L.map f) := by
        refine adds_in fun y hy => ?_
        rw [← hxe, eL, ← hf _ (hall _ (List.getElem_mem hjl))] at hy
        obtain ⟨z, hz, rfl⟩ := List.mem_map.mp hy
        exact mem_dd.mpr (List.mem_map_of_mem (hc j hjl hj' z hz))
      rw [this] at IH
      exact IH
    · rw [add_out hm] at IH hpm
      have hlt : (dd ((L.take i).map f)).length < (dd (L.map f)).length := by
        have := hpm.length_le
        simp only [List.length_append, List.length_singleton] at this
        omega
      have eg : (dd (L.map f))[(dd ((L.take i).map f)).length] = f L[i] := by
        rw [← hpm.getElem (by simp)]
        simp
      refine .step hlt ?_
      rw [eg]
      rw [List.length_append, List.length_singleton] at IH
      exact IH
theorem Runs.map0 {succ : α → List α} {succ' : β → List β} {f : α → β} {dom : α → Prop} (hd : ∀ x, dom x → ∀ y ∈ succ x, dom y) (hf : ∀ x, dom x → (succ x).map f = succ' (f x)) {x0 : α} {R : List α} (h : Runs succ [x0] 0 R) (h0 : dom x0) : Runs succ' [f x0] 0 (dd (R.map f)) := by
  have := h.map hd hf (fun x hx => by rw [List.mem_singleton] at hx; subst hx; exact h0) (Nat.zero_le _) (fun j _ hj => by omega)
  simpa [dd, adds, add] using this
end
end Go.Proofs.Ytogamkblkoobkaa.Lg
end
