/- Texts of the proof of FnExactConcatDfa, put together. No condition. -/
import Derived.Test.YtogamkblkoobkaaQFnExactConcatDfa2
import Derived.Test.YtogamkblkoobkaaQFnExactConcatDfa3
section
namespace Go.Proofs.Ytogamkblkoobkaa.P
open Go.RowKit Go.Proofs.YtogamkblkoobkaaW.PrintWords Go.Proofs.YtogamkblkoobkaaW.PrintLast Go.Proofs.YtogamkblkoobkaaW.PrintMore
attribute [local go_sem] max2_int min2_int max_two min_two max_three min_three max_four min_four
set_option linter.unusedVariables false
set_option linter.unusedSimpArgs false
mutual
def spec_l5Classes.l0 : Nat → Int → List Int → Int → List Bool → List (List Int) → Option (List Int)
  | 0, _, _, _, _, _ => none
  | k + 1, x3, x4, x5, af, ah => if x5 < x3 then (if 0 ≤ x5 then (if x5 < (af.length : Int) then (if rdOf false af x5 = true then (if x5 < (x4.length : Int) then (spec_l5Classes.l0 k x3 (x4.set (x5 : Int).toNat 1) (wrap64 (x5 + 1)) af ah) else (none)) else (spec_l5Classes.l0 k x3 x4 (wrap64 (x5 + 1)) af ah)) else (none)) else (none)) else (spec_l5Classes.l1 k x3 x4 0 af ah)
def spec_l5Classes.l1 : Nat → Int → List Int → Int → List Bool → List (List Int) → Option (List Int)
  | 0, _, _, _, _, _ => none
  | k + 1, x3, x4, x6, af, ah => if x6 ≤ x3 then (if 0 ≤ x3 then (if (x3 : Int).toNat ≤ 35184372088832 then (spec_l5Classes.l2 k x3 x4 x6 (List.replicate (x3 : Int).toNat 0) 0 af ah) else (none)) else (none)) else (some x4)
def spec_l5Classes.l2 : Nat → Int → List Int → Int → List Int → Int → List Bool → List (List Int) → Option (List Int)
  | 0, _, _, _, _, _, _, _ => none
  | k + 1, x3, x4, x6, x7, x8, af, ah => if x8 < x3 then (if 0 ≤ x8 then (if x8 < (x7.length : Int) then (spec_l5Classes.l3 k x3 x4 x6 (x7.set (x8 : Int).toNat x8) x8 0 af ah) else (none)) else (none)) else (spec_l5Classes.l1 k x3 x7 (wrap64 (x6 + 1)) af ah)
def spec_l5Classes.l3 : Nat → Int → List Int → Int → List Int → Int → Int → List Bool → List (List Int) → Option (List Int)
  | 0, _, _, _, _, _, _, _, _ => none
  | k + 1, x3, x4, x6, x7, x8, x9, af, ah => if x9 < x8 then ((spec_l5Same.f k af ah x4 x9 x8).bind fun aI => (if aI = true then (if 0 ≤ x8 then (if x8 < (x7.length : Int) then (spec_l5Classes.l2 k x3 x4 x6 (x7.set (x8 : Int).toNat x9) (wrap64 (x8 + 1)) af ah) else (none)) else (none)) else (spec_l5Classes.l3 k x3 x4 x6 x7 x8 (wrap64 (x9 + 1)) af ah))) else (spec_l5Classes.l2 k x3 x4 x6 x7 (wrap64 (x8 + 1)) af ah)
end
def spec_l5Classes.f (k : Nat) (l0_0 : List Bool) (l0_1 : List (List Int)) : Option (List Int) := if 0 ≤ (l0_0.length : Int) then (if ((l0_0.length : Int) : Int).toNat ≤ 35184372088832 then (spec_l5Classes.l0 k (l0_0.length : Int) (List.replicate ((l0_0.length : Int) : Int).toNat 0) 0 l0_0 l0_1) else (none)) else (none)
theorem spec_l5Classes.mono_l : ∀ k, (∀ y0 y1 y2 y3 y4, LeO (spec_l5Classes.l0 k y0 y1 y2 y3 y4) (spec_l5Classes.l0 (k + 1) y0 y1 y2 y3 y4)) ∧ (∀ y0 y1 y2 y3 y4, LeO (spec_l5Classes.l1 k y0 y1 y2 y3 y4) (spec_l5Classes.l1 (k + 1) y0 y1 y2 y3 y4)) ∧ (∀ y0 y1 y2 y3 y4 y5 y6, LeO (spec_l5Classes.l2 k y0 y1 y2 y3 y4 y5 y6) (spec_l5Classes.l2 (k + 1) y0 y1 y2 y3 y4 y5 y6)) ∧ (∀ y0 y1 y2 y3 y4 y5 y6 y7, LeO (spec_l5Classes.l3 k y0 y1 y2 y3 y4 y5 y6 y7) (spec_l5Classes.l3 (k + 1) y0 y1 y2 y3 y4 y5 y6 y7))
 | 0 => ⟨fun _ _ _ _ _ r h => by simp [spec_l5Classes.l0] at h, fun _ _ _ _ _ r h => by simp [spec_l5Classes.l1] at h, fun _ _ _ _ _ _ _ r h => by simp [spec_l5Classes.l2] at h, fun _ _ _ _ _ _ _ _ r h => by simp [spec_l5Classes.l3] at h⟩
 | k + 1 => by
  obtain ⟨ih0, ih1, ih2, ih3⟩ := spec_l5Classes.mono_l k
  refine ⟨?_, ?_, ?_, ?_⟩
  ·intro y0 y1 y2 y3 y4
   unfold spec_l5Classes.l0
   repeat' first
   | (with_reducible exact ih0 _ _ _ _ _)
   | (with_reducible exact ih1 _ _ _ _ _)
   | (with_reducible exact ih2 _ _ _ _ _ _ _)
   | (with_reducible exact ih3 _ _ _ _ _ _ _ _)
   | (with_reducible exact spec_l5Same.mono _ _ _ _ _ _)
   | (with_reducible exact LeO.refl _)
   | (with_reducible exact LeO.none _)
   | (with_reducible refine LeO.ite ?_ ?_)
   | (with_reducible refine LeO.bind ?_ (fun _ => ?_))
   | exact ih0 _ _ _ _ _
   | exact ih1 _ _ _ _ _
   | exact ih2 _ _ _ _ _ _ _
   | exact ih3 _ _ _ _ _ _ _ _
   | exact spec_l5Same.mono _ _ _ _ _ _
   | exact LeO.none _
   | refine LeO.ite ?_ ?_
   | refine LeO.bind ?_ (fun _ => ?_)
  ·intro y0 y1 y2 y3 y4
   unfold spec_l5Classes.l1
   repeat' first
   | (with_reducible exact ih0 _ _ _ _ _)
   | (with_reducible exact ih1 _ _ _ _ _)
   | (with_reducible exact ih2 _ _ _ _ _ _ _)
   | (with_reducible exact ih3 _ _ _ _ _ _ _ _)
   | (with_reducible exact spec_l5Same.mono _ _ _ _ _ _)
   | (with_reducible exact LeO.refl _)
   | (with_reducible exact LeO.none _)
   | (with_reducible refine LeO.ite ?_ ?_)
   | (with_reducible refine LeO.bind ?_ (fun _ => ?_))
   | exact ih0 _ _ _ _ _
   | exact ih1 _ _ _ _ _
   | exact ih2 _ _ _ _ _ _ _
   | exact ih3 _ _ _ _ _ _ _ _
   | exact spec_l5Same.mono _ _ _ _ _ _
   | exact LeO.none _
   | refine LeO.ite ?_ ?_
   | refine LeO.bind ?_ (fun _ => ?_)
  ·intro y0 y1 y2 y3 y4 y5 y6
   unfold spec_l5Classes.l2
   repeat' first
   | (with_reducible exact ih0 _ _ _ _ _)
   | (with_reducible exact ih1 _ _ _ _ _)
   | (with_reducible exact ih2 _ _ _ _ _ _ _)
   | (with_reducible exact ih3 _ _ _ _ _ _ _ _)
   | (with_reducible exact spec_l5Same.mono _ _ _ _ _ _)
   | (with_reducible exact LeO.refl _)
   | (with_reducible exact LeO.none _)
   | (with_reducible refine LeO.ite ?_ ?_)
   | (with_reducible refine LeO.bind ?_ (fun _ => ?_))
   | exact ih0 _ _ _ _ _
   | exact ih1 _ _ _ _ _
   | exact ih2 _ _ _ _ _ _ _
   | exact ih3 _ _ _ _ _ _ _ _
   | exact spec_l5Same.mono _ _ _ _ _ _
   | exact LeO.none _
   | refine LeO.ite ?_ ?_
   | refine LeO.bind ?_ (fun _ => ?_)
  ·intro y0 y1 y2 y3 y4 y5 y6 y7
   unfold spec_l5Classes.l3
   repeat' first
   | (with_reducible exact ih0 _ _ _ _ _)
   | (with_reducible exact ih1 _ _ _ _ _)
   | (with_reducible exact ih2 _ _ _ _ _ _ _)
   | (with_reducible exact ih3 _ _ _ _ _ _ _ _)
   | (with_reducible exact spec_l5Same.mono _ _ _ _ _ _)
   | (with_reducible exact LeO.refl _)
   | (with_reducible exact LeO.none _)
   | (with_reducible refine LeO.ite ?_ ?_)
   | (with_reducible refine LeO.bind ?_ (fun _ => ?_))
   | exact ih0 _ _ _ _ _
   | exact ih1 _ _ _ _ _
   | exact ih2 _ _ _ _ _ _ _
   | exact ih3 _ _ _ _ _ _ _ _
   | exact spec_l5Same.mono _ _ _ _ _ _
   | exact LeO.none _
   | refine LeO.ite ?_ ?_
   | refine LeO.bind ?_ (fun _ => ?_)
theorem spec_l5Classes.mono : ∀ a0 a1 k, LeO (spec_l5Classes.f k a0 a1) (spec_l5Classes.f (k + 1) a0 a1) := by
 intro a0 a1 k
 obtain ⟨ih0, ih1, ih2, ih3⟩ := spec_l5Classes.mono_l k
 unfold spec_l5Classes.f
 repeat' first
   | (with_reducible exact ih0 _ _ _ _ _)
   | (with_reducible exact ih1 _ _ _ _ _)
   | (with_reducible exact ih2 _ _ _ _ _ _ _)
   | (with_reducible exact ih3 _ _ _ _ _ _ _ _)
   | (with_reducible exact spec_l5Same.mono _ _ _ _ _ _)
   | (with_reducible exact LeO.refl _)
   | (with_reducible exact LeO.none _)
   | (with_reducible refine LeO.ite ?_ ?_)
   | (with_reducible refine LeO.bind ?_ (fun _ => ?_))
   | exact ih0 _ _ _ _ _
   | exact ih1 _ _ _ _ _
   | exact ih2 _ _ _ _ _ _ _
   | exact ih3 _ _ _ _ _ _ _ _
   | exact spec_l5Same.mono _ _ _ _ _ _
   | exact LeO.none _
   | refine LeO.ite ?_ ?_
   | refine LeO.bind ?_ (fun _ => ?_)
theorem zp4_0_ {p q g1 : Prop} (h : p) (h1 : g1) (c : p → g1 → q := by intro h_ h1_; repeat (first | (with_reducible first | exact h_ | apply below_alloc | apply pw_below_drewN | apply below_drew1 | refine below_set ?_ h1_) | exact h_)) : q := c h h1
set_option maxHeartbeats 8000000 in
set_option maxRecDepth 100000 in
theorem spec_l5Classes.calls (k : Nat) (A0_0 : Option Addr) (c0_0 : Nat) (l0_0 : List Bool) (A0_1 : Option Addr) (c0_1 : Nat) (l0_1 : List (List Int)) (r : List Int) (w : World) (hr0_0 : Kd.C Kd.bool w A0_0 l0_0.length l0_0) (hc0_0 : l0_0.length ≤ c0_0) (hr0_1 : Kd.C (Kd.slice 3 (Kd.int .i64)) w A0_1 l0_1.length l0_1) (hc0_1 : l0_1.length ≤ c0_1) (h : spec_l5Classes.f k l0_0 l0_1 = some r) :
  Calls Try.prog 126 #[.agg #[.slice A0_0 l0_0.length c0_0, .slice A0_1 l0_1.length c0_1]] w fun e w' => ∃ v0_ : Value, e = .returned (v0_) ∧ Kd.R (Kd.int .i64) 3 w' w.heap.size (fun _ => True) v0_ r ∧ Below w.heap.size w w' := by
 have hu27 := Try.underlying27
 have aG := am_ hr0_0
 have aM := am_ hc0_0
 clear hr0_0 hc0_0
 have aN := am_ hr0_1
 have aO := am_ hc0_1
 clear hr0_1 hc0_1
 have HB := am_ (Below.refl w.heap.size w)
 have H : (if 0 ≤ (l0_0.length : Int) then (if ((l0_0.length : Int) : Int).toNat ≤ 35184372088832 then (spec_l5Classes.l0 k (l0_0.length : Int) (List.replicate ((l0_0.length : Int) : Int).toNat 0) 0 l0_0 l0_1) else (none)) else (none)) = some r := h
 clear h
 by_cases c2 : 0 ≤ (l0_0.length : Int)
 ·rw [if_pos c2] at H
  have c2b0 := eq_true c2
  have c2b1 : decide (0 ≤ (l0_0.length : Int)) = true := decide_eq_true c2
  clear c2
  by_cases c3 : ((l0_0.length : Int) : Int).toNat ≤ 35184372088832
  ·rw [if_pos c3] at H
   have c3b0 := eq_true c3
   have c3b1 : decide (((l0_0.length : Int) : Int).toNat ≤ 35184372088832) = true := decide_eq_true c3
   clear c3
   obtain ⟨aS, hy131⟩ : ∃ y_ : List Int, y_ = (List.replicate ((l0_0.length : Int) : Int).toNat 0) := ⟨_, rfl⟩
   replace H : (spec_l5Classes.l0 k (l0_0.length : Int) aS 0 l0_0 l0_1) = some r := by first | (rw [hy131]; with_reducible exact H) | (have H2_ := (Option.bind_some _ _).symm.trans H; rw [hy131]; with_reducible exact H2_) | (have H2_ := (Option.bind_some _ _).symm.trans H; with_reducible exact H2_) | with_reducible exact H | (rw [hy131]; exact H) | exact H
   have aP := am_ hy131
   clear hy131
   have H' := am_ H
   clear H
   go_enter Try.func126, Try.ntmps126
   go_wp2_with (first | ((with_reducible refine gate_dst (N := 1) rfl ?_); refine box_event ?hg (N := 1) ?hd (cs := #[.slice A0_0 l0_0.length c0_0, .slice A0_1 l0_1.length c0_1]) (t := 27) ?hr ?_; (case hd => rfl); (case hg => rfl); (case hr => first | (go_simp; done) | (go_simp; rfl)); intro aq hg w4 hbox hb; replace aa := am_ (hbox); replace bx := am_ ((by rw [hg]; exact (below_size (b0_ HB.out)) : w.heap.size ≤ aq)); replace aj := am_ ((by rw [hg]; exact (below_size (b0_ HB.out)) : w.heap.size ≤ aq)); replace HB := am_ (below_step (b0_ HB.out) hb); clear hb hbox hg; have au := ck_ (v := (.slice A0_0 l0_0.length c0_0)) aa 0 rfl; have av := ck_ (v := (.slice A0_1 l0_1.length c0_1)) aa 1 rfl; have aw := blk_frozen aa.out 0; have ax := blk_frozen aa.out 1) | ((with_reducible refine gate_dst (N := 14) rfl ?_); refine Kd.R_make (Kd.int .i64) _ 3 rfl (N := 14) rfl 67 _ _ rfl (l0_0.length : Int) rfl rfl Try.underlying67 (.int .i64 0) 8 info3 rfl (by decide) (by omega) 0 (ok := fun _ => True) (okp := fun _ => True) rfl (fun _ hk => hk) trivial (of_decide_eq_true ah_) (Nat.le_trans (Nat.mul_le_mul_right _ (of_decide_eq_true ah_ : (l0_0.length : Int).toNat ≤ 35184372088832)) (by omega)) (Below.refl _ _) (Nat.le_refl _) ?_; intro bi w6 ho7 hb hg_ hnew_; clear hg_ hnew_; (first | rw [← aP.out] at ho7 | (simp only [Int.reduceToNat] at ho7; rw [← aP.out] at ho7)); have n0_ := am_ (Kd.R_lower ho7 (below_size (b1_ HB.out aj.out))); have n1_ := am_ (blk_below (rb_ aa.out) hb); have n2_ := am_ (below_step (b1_ HB.out aj.out) hb); clear aa; clear HB; have bd := n0_; have aa := n1_; have HB := n2_; clear n0_ n1_ n2_; clear hb ho7))
   go_loopg [5] k (fun kq v5 w' => ∃ (al : List Int) (ae : Int), v5 = .int .i64 ae ∧ Aside0 (spec_l5Classes.l0 kq (l0_0.length : Int) al ae l0_0 l0_1 = some r) ∧ Aside0 (kq ≤ k) ∧ Aside0 (Kd.R (Kd.int .i64) 3 w' w.heap.size (fun _ => True) bi al) ∧ Aside0 (w'.heap[aq]? = some (.cells #[(.slice A0_0 l0_0.length c0_0), (.slice A0_1 l0_1.length c0_1)] 27 (0, 0))) ∧ Aside0 (Below w.heap.size w w'))
   case atStart => exact ⟨(aS), (0), (by first | rfl | (simp; done) | (simp [*]; done)), H', ⟨Nat.le_refl _⟩, ⟨by refine rr_ ?_; exact bd.out⟩, ⟨by refine rb_ ?_; exact aa.out⟩, ⟨by exact zp4_0_ HB.out aj.out⟩⟩
   case round =>
    clear H'
    try clear c1
    try clear c2
    try clear c2b0
    try clear c2b1
    try clear p2
    try clear c3
    try clear c3b0
    try clear c3b1
    try clear au
    try clear av
    try clear aw
    try clear ax
    obtain ⟨al, ae, rfl, HA, HK1, ad, aa, HB⟩ := hrel
    cases gk with
    | zero => exact absurd HA.out (by simp [spec_l5Classes.l0])
    | succ k1 =>
     have H := HA.out
     clear HA
     simp only [spec_l5Classes.l0] at H
     by_cases c8 : ae < (l0_0.length : Int)
     ·rw [if_pos c8] at H
      have c8b0 : decide (ae < (l0_0.length : Int)) = true := decide_eq_true c8
      clear c8
      by_cases c9 : 0 ≤ ae
      ·rw [if_pos c9] at H
       have c9b0 : decide (0 ≤ ae) = true := decide_eq_true c9
       clear c9
       by_cases c10 : ae < (l0_0.length : Int)
       ·rw [if_pos c10] at H
        have c10b0 : decide (ae < (l0_0.length : Int)) = true := decide_eq_true c10
        clear c10
        obtain ⟨bq11, hbq11⟩ : ∃ b_ : Bool, b_ = (rdOf false l0_0 ae) := ⟨_, rfl⟩
        replace H : (if bq11 = true then (if ae < (al.length : Int) then (spec_l5Classes.l0 k1 (l0_0.length : Int) (al.set (ae : Int).toNat 1) (wrap64 (ae + 1)) l0_0 l0_1) else (none)) else (spec_l5Classes.l0 k1 (l0_0.length : Int) al (wrap64 (ae + 1)) l0_0 l0_1)) = some r := by rw [← hbq11] at H; exact H
        have Nbq11 := am_ hbq11
        clear hbq11
        by_cases c12 : bq11 = true
        ·subst c12
         have H1 : (if ae < (al.length : Int) then (spec_l5Classes.l0 k1 (l0_0.length : Int) (al.set (ae : Int).toNat 1) (wrap64 (ae + 1)) l0_0 l0_1) else (none)) = some r := by rw [if_pos rfl] at H; exact H
         clear H
         have H := H1
         clear H1
         by_cases c13 : ae < (al.length : Int)
         ·rw [if_pos c13] at H
          have c13b0 : decide (ae < (al.length : Int)) = true := decide_eq_true c13
          clear c13
          obtain ⟨aJ, hy135⟩ : ∃ y_ : List Int, y_ = (al.set (ae : Int).toNat 1) := ⟨_, rfl⟩
          replace H : (spec_l5Classes.l0 k1 (l0_0.length : Int) aJ (wrap64 (ae + 1)) l0_0 l0_1) = some r := by first | (rw [hy135]; with_reducible exact H) | (have H2_ := (Option.bind_some _ _).symm.trans H; rw [hy135]; with_reducible exact H2_) | (have H2_ := (Option.bind_some _ _).symm.trans H; with_reducible exact H2_) | with_reducible exact H | (rw [hy135]; exact H) | exact H
          have be := am_ hy135
          clear hy135
          have H' := am_ H
          clear H
          have ay := ck_ (v := (.slice A0_0 l0_0.length c0_0)) aa 0 rfl
          have az := ck_ (v := (.slice A0_1 l0_1.length c0_1)) aa 1 rfl
          have aA := blk_frozen aa.out 0
          have aB := blk_frozen aa.out 1
          have p134 : 0 ≤ (ae : Int) := of_decide_eq_true ah_
          have q134 : ae < (l0_0.length : Int) := of_decide_eq_true ah_
          obtain ⟨aQ, e134, ai⟩ := Kd.at_bool aG.out ae p134 q134
          (try rw [← Nbq11.out] at ai)
          cases e134
          replace ai := (HB.out.cell (World.block_lt_of_cell? w _ ai)).trans ai
          replace p134 := eq_true p134
          replace q134 := eq_true q134
          have p14 : 0 ≤ (ae : Int) := of_decide_eq_true ah_
          have q14 : (ae : Int) < ((al.length : Int) : Int) := of_decide_eq_true ah_
          obtain ⟨go14, bj, aT, aU, gl14, cl14, HG14⟩ := Kd.R_form ad.out (by omega)
          (first | cases aT | (injection aT with ea_ en_ ec_; (first | subst ea_ | (injection ea_ with ea_; subst ea_)); subst ec_; clear en_))
          have GB14 := am_ aU
          have GG14 := am_ HG14
          clear aU gl14 HG14
          obtain ⟨aH, hf14_0⟩ := Kd.R_celln 0 ad.out (ae : Int) p14 q14
          replace p14 := eq_true p14
          replace q14 := eq_true q14
          have HP16 := Kd.R_putg ad.out (ae : Int) 1
          go_wp2_with (first | ((with_reducible refine gate_store (t := 3) (p := 27) rfl ?_); refine store_event (t := 3) (p := 27) (v := ?vo_w17) (w1 := (wr.setCell ⟨go14, (ae : Int).toNat, none⟩ (.int .i64 1))) ?hg ?ho ?hn ?hr ?_; (case ho => rfl); (case hg => rfl); (case hn => rfl); (case hr => first | (go_simp; done) | (go_simp; rfl)); intro w17 hw; have hg : wr.grownBy w17 (some go14) := (by rw [hw]; exact HP16.2); have hp_ : Kd.R (Kd.int .i64) 3 w17 w.heap.size (fun _ => True) (.slice (some ⟨go14, 0, none⟩) al.length bj) aJ := (by rw [hw, be.out]; exact HP16.1); clear HP16; have n0_ := am_ (hp_); have n1_ := am_ (blk_grown (g := aq) (o := .cells #[.slice (some aQ) l0_0.length c0_0, .slice A0_1 l0_1.length c0_1] 27 (0, 0)) (rb_ aa.out) hg (Kd.R_ne ad.out aa.out (by decide))); have n2_ := am_ ((by rw [hw]; exact below_set (HB.out) GB14.out : Below w.heap.size w w17)); clear ad; clear aa; clear HB; have ad := n0_; have aa := n1_; have HB := n2_; clear n0_ n1_ n2_; clear hg hw hp_))
          go_roundg k1
          case measure => have := HK1.out; omega
          case rel => exact ⟨(aJ), (wrap64 (ae + 1)), (by first | rfl | (simp; done) | (simp [*]; done)), H', ⟨by have := HK1.out; omega⟩, ⟨by refine rr_ ?_; exact ad.out⟩, ⟨by refine rb_ ?_; exact aa.out⟩, ⟨by exact zp4_0_ HB.out aj.out⟩⟩
         ·rw [if_neg c13] at H
          exact absurd H (by simp)
        ·replace c12 := Bool.eq_false_iff.mpr c12
         subst c12
         have H1 : (spec_l5Classes.l0 k1 (l0_0.length : Int) al (wrap64 (ae + 1)) l0_0 l0_1) = some r := by rw [if_neg (show ¬ (false = true) by decide)] at H; exact H
         clear H
         have H := H1
         clear H1
         have H' := am_ H
         clear H
         have aC := ck_ (v := (.slice A0_0 l0_0.length c0_0)) aa 0 rfl
         have aD := ck_ (v := (.slice A0_1 l0_1.length c0_1)) aa 1 rfl
         have aE := blk_frozen aa.out 0
         have aF := blk_frozen aa.out 1
         have p134 : 0 ≤ (ae : Int) := of_decide_eq_true ah_
         have q134 : ae < (l0_0.length : Int) := of_decide_eq_true ah_
         obtain ⟨aQ, e134, ai⟩ := Kd.at_bool aG.out ae p134 q134
         (try rw [← Nbq11.out] at ai)
         cases e134
         replace ai := (HB.out.cell (World.block_lt_of_cell? w _ ai)).trans ai
         replace p134 := eq_true p134
         replace q134 := eq_true q134
         go_wp2
         go_roundg k1
         case measure => have := HK1.out; omega
         case rel => exact ⟨(al), (wrap64 (ae + 1)), (by first | rfl | (simp; done) | (simp [*]; done)), H', ⟨by have := HK1.out; omega⟩, ⟨by refine rr_ ?_; exact ad.out⟩, ⟨by refine rb_ ?_; exact aa.out⟩, ⟨by exact zp4_0_ HB.out aj.out⟩⟩
       ·rw [if_neg c10] at H
        exact absurd H (by simp)
      ·rw [if_neg c9] at H
       exact absurd H (by simp)
     ·rw [if_neg c8] at H
      have c8b0 : decide (ae < (l0_0.length : Int)) = false := decide_eq_false c8
      clear c8
      have H' := am_ H
      clear H
      go_wp2
      go_loopg [4, 6] k1 (fun kq v4 v6 w' => ∃ (ak : List Int) (ao : Int), v6 = .int .i64 ao ∧ Aside0 (spec_l5Classes.l1 kq (l0_0.length : Int) ak ao l0_0 l0_1 = some r) ∧ Aside0 (kq ≤ k1) ∧ Aside0 (Kd.R (Kd.int .i64) 3 w' w.heap.size (fun _ => True) v4 ak) ∧ Aside0 (w'.heap[aq]? = some (.cells #[(.slice A0_0 l0_0.length c0_0), (.slice A0_1 l0_1.length c0_1)] 27 (0, 0))) ∧ Aside0 (Below w.heap.size w w'))
      case atStart => exact ⟨(al), (0), (by first | rfl | (simp; done) | (simp [*]; done)), H', ⟨Nat.le_refl _⟩, ⟨by refine rr_ ?_; exact ad.out⟩, ⟨by refine rb_ ?_; exact aa.out⟩, ⟨by exact zp4_0_ HB.out aj.out⟩⟩
      case round =>
       clear H'
       try clear c1
       try clear p1
       try clear q1
       try clear hx1
       try clear hf1
       try clear c2
       try clear c2b0
       try clear c2b1
       try clear p2
       try clear c3
       try clear c3b0
       try clear c3b1
       try clear p6
       try clear c8
       try clear c8b0
       try clear c9
       try clear c9b0
       try clear c10
       try clear c10b0
       try clear q11
       try clear c12
       try clear c13
       try clear c13b0
       try clear p13
       try clear q13
       try clear hx13
       try clear p14
       try clear q14
       try clear hx14
       try clear hf14
       try clear ay
       try clear az
       try clear aC
       try clear aD
       try clear au
       try clear av
       try clear aA
       try clear aB
       try clear aE
       try clear aF
       try clear aw
       try clear ax
       try clear ai
       try clear aH
       try clear p134
       try clear p14
       try clear p2
       try clear q134
       try clear q14
       obtain ⟨ak, ao, rfl, HA, HK2, ad, aa, HB⟩ := hrel
       cases gk with
       | zero => exact absurd HA.out (by simp [spec_l5Classes.l1])
       | succ k2 =>
        have H := HA.out
        clear HA
        simp only [spec_l5Classes.l1] at H
        by_cases c19 : ao ≤ (l0_0.length : Int)
        ·rw [if_pos c19] at H
         have c19b0 : decide (ao ≤ (l0_0.length : Int)) = true := decide_eq_true c19
         clear c19
         by_cases c20 : 0 ≤ (l0_0.length : Int)
         ·rw [if_pos c20] at H
          have c20b0 := eq_true c20
          have c20b1 : decide (0 ≤ (l0_0.length : Int)) = true := decide_eq_true c20
          clear c20
          by_cases c21 : ((l0_0.length : Int) : Int).toNat ≤ 35184372088832
          ·rw [if_pos c21] at H
           have c21b0 := eq_true c21
           have c21b1 : decide (((l0_0.length : Int) : Int).toNat ≤ 35184372088832) = true := decide_eq_true c21
           clear c21
           obtain ⟨aV, hy136⟩ : ∃ y_ : List Int, y_ = (List.replicate ((l0_0.length : Int) : Int).toNat 0) := ⟨_, rfl⟩
           replace H : (spec_l5Classes.l2 k2 (l0_0.length : Int) ak ao aV 0 l0_0 l0_1) = some r := by first | (rw [hy136]; with_reducible exact H) | (have H2_ := (Option.bind_some _ _).symm.trans H; rw [hy136]; with_reducible exact H2_) | (have H2_ := (Option.bind_some _ _).symm.trans H; with_reducible exact H2_) | with_reducible exact H | (rw [hy136]; exact H) | exact H
           have aR := am_ hy136
           clear hy136
           have H' := am_ H
           clear H
           go_wp2_with (first | ((with_reducible refine gate_dst (N := 34) rfl ?_); refine Kd.R_make (Kd.int .i64) _ 3 rfl (N := 34) rfl 67 _ _ rfl (l0_0.length : Int) rfl rfl Try.underlying67 (.int .i64 0) 8 info3 rfl (by decide) (by omega) 0 (ok := fun _ => True) (okp := fun _ => True) rfl (fun _ hk => hk) trivial (of_decide_eq_true ah_) (Nat.le_trans (Nat.mul_le_mul_right _ (of_decide_eq_true ah_ : (l0_0.length : Int).toNat ≤ 35184372088832)) (by omega)) (Below.refl _ _) (Nat.le_refl _) ?_; intro aW w22 ho23 hb hg_ hnew_; clear hg_ hnew_; (first | rw [← aR.out] at ho23 | (simp only [Int.reduceToNat] at ho23; rw [← aR.out] at ho23)); have n0_ := am_ (Kd.R_elder' (rr_ ad.out) (Kd.R_base ho23) hb); have n1_ := am_ (Kd.R_lower (Kd.R_new' ho23 (Kd.R_lt (rr_ ad.out))) (below_size (b1_ HB.out aj.out))); have n2_ := am_ (blk_below (rb_ aa.out) hb); have n3_ := am_ (below_step (b1_ HB.out aj.out) hb); clear ad; clear aa; clear HB; have ad := n0_; have bf := n1_; have aa := n2_; have HB := n3_; clear n0_ n1_ n2_ n3_; clear hb ho23))
           go_loopg [8] k2 (fun kq v8 w' => ∃ (ap : List Int) (ab : Int), v8 = .int .i64 ab ∧ Aside0 (spec_l5Classes.l2 kq (l0_0.length : Int) ak ao ap ab l0_0 l0_1 = some r) ∧ Aside0 (kq ≤ k2) ∧ Aside0 (Kd.R (Kd.int .i64) 3 w' w.heap.size (fun k_ => some k_ ≠ (aW : Value).ownBlock) u4 ak) ∧ Aside0 (Kd.R (Kd.int .i64) 3 w' w.heap.size (fun k_ => some k_ ≠ (u4 : Value).ownBlock) aW ap) ∧ Aside0 (w'.heap[aq]? = some (.cells #[(.slice A0_0 l0_0.length c0_0), (.slice A0_1 l0_1.length c0_1)] 27 (0, 0))) ∧ Aside0 (Below w.heap.size w w'))
           case atStart => exact ⟨(aV), (0), (by first | rfl | (simp; done) | (simp [*]; done)), H', ⟨Nat.le_refl _⟩, ⟨by refine rr_ ?_; exact Kd.R_mono ad.out (fun _ hk => hk.2)⟩, ⟨by refine rr_ ?_; exact Kd.R_mono bf.out (fun _ hk => hk.2)⟩, ⟨by refine rb_ ?_; exact aa.out⟩, ⟨by exact zp4_0_ HB.out aj.out⟩⟩
           case round =>
            clear H'
            try clear c1
            try clear p1
            try clear q1
            try clear hx1
            try clear hf1
            try clear c2
            try clear c2b0
            try clear c2b1
            try clear p2
            try clear c3
            try clear c3b0
            try clear c3b1
            try clear p6
            try clear c8
            try clear c8b0
            try clear c9
            try clear c9b0
            try clear c10
            try clear c10b0
            try clear q11
            try clear c12
            try clear c13
            try clear c13b0
            try clear p13
            try clear q13
            try clear hx13
            try clear p14
            try clear q14
            try clear hx14
            try clear hf14
            try clear c19
            try clear c19b0
            try clear c20
            try clear c20b0
            try clear c20b1
            try clear c21
            try clear c21b0
            try clear c21b1
            try clear ay
            try clear az
            try clear aC
            try clear aD
            try clear au
            try clear av
            try clear aA
            try clear aB
            try clear aE
            try clear aF
            try clear aw
            try clear ax
            try clear ai
            try clear aH
            try clear p1
            try clear p13
            try clear p134
            try clear p14
            try clear p2
            try clear p6
            try clear q1
            try clear q11
            try clear q13
            try clear q134
            try clear q14
            obtain ⟨ap, ab, rfl, HA, HK3, ad, ag, aa, HB⟩ := hrel
            cases gk with
            | zero => exact absurd HA.out (by simp [spec_l5Classes.l2])
            | succ k3 =>
             have H := HA.out
             clear HA
             simp only [spec_l5Classes.l2] at H
             by_cases c24 : ab < (l0_0.length : Int)
             ·rw [if_pos c24] at H
              have c24b0 : decide (ab < (l0_0.length : Int)) = true := decide_eq_true c24
              clear c24
              by_cases c25 : 0 ≤ ab
              ·rw [if_pos c25] at H
               have c25b0 : decide (0 ≤ ab) = true := decide_eq_true c25
               clear c25
               by_cases c26 : ab < (ap.length : Int)
               ·rw [if_pos c26] at H
                have c26b0 : decide (ab < (ap.length : Int)) = true := decide_eq_true c26
                clear c26
                obtain ⟨aK, hy139⟩ : ∃ y_ : List Int, y_ = (ap.set (ab : Int).toNat ab) := ⟨_, rfl⟩
                replace H : (spec_l5Classes.l3 k3 (l0_0.length : Int) ak ao aK ab 0 l0_0 l0_1) = some r := by first | (rw [hy139]; with_reducible exact H) | (have H2_ := (Option.bind_some _ _).symm.trans H; rw [hy139]; with_reducible exact H2_) | (have H2_ := (Option.bind_some _ _).symm.trans H; with_reducible exact H2_) | with_reducible exact H | (rw [hy139]; exact H) | exact H
                have bg := am_ hy139
                clear hy139
                have H' := am_ H
                clear H
                have p27 : 0 ≤ (ab : Int) := of_decide_eq_true ah_
                have q27 : (ab : Int) < ((ap.length : Int) : Int) := of_decide_eq_true ah_
                obtain ⟨go27, ar, aX, aY, gl27, cl27, HG27⟩ := Kd.R_form ag.out (by omega)
                (first | cases aX | (injection aX with ea_ en_ ec_; (first | subst ea_ | (injection ea_ with ea_; subst ea_)); subst ec_; clear en_))
                have GB27 := am_ aY
                have GG27 := am_ HG27
                clear aY gl27 HG27
                obtain ⟨aZ, hf27_0⟩ := Kd.R_celln 0 ag.out (ab : Int) p27 q27
                replace p27 := eq_true p27
                replace q27 := eq_true q27
                have HP28 := Kd.R_putg ag.out (ab : Int) ab
                go_wp2_with (first | ((with_reducible refine gate_store (t := 3) (p := 43) rfl ?_); refine store_event (t := 3) (p := 43) (v := ?vo_w29) (w1 := (wr.setCell ⟨go27, (ab : Int).toNat, none⟩ (.int .i64 ab))) ?hg ?ho ?hn ?hr ?_; (case ho => rfl); (case hg => rfl); (case hn => rfl); (case hr => first | (go_simp; done) | (go_simp; rfl)); intro w29 hw; have hg : wr.grownBy w29 (some go27) := (by rw [hw]; exact HP28.2); have hp_ : Kd.R (Kd.int .i64) 3 w29 w.heap.size (fun k_ => some k_ ≠ (u4 : Value).ownBlock) (.slice (some ⟨go27, 0, none⟩) ap.length ar) aK := (by rw [hw, bg.out]; exact HP28.1); clear HP28; have n0_ := am_ (Kd.R_after (v := (.slice (some ⟨go27, 0, none⟩) ap.length ar)) (v1 := (.slice (some ⟨go27, 0, none⟩) ap.length ar)) (ok := (fun _ => True)) (by refine rr_ ?_; exact Kd.R_mono ad.out (fun _ hk => ⟨trivial, hk⟩)) hg (.inl rfl)); have n1_ := am_ (hp_); have n2_ := am_ (blk_grown (g := aq) (o := .cells #[.slice A0_0 l0_0.length c0_0, .slice A0_1 l0_1.length c0_1] 27 (0, 0)) (rb_ aa.out) hg (Kd.R_ne ag.out aa.out (by decide))); have n3_ := am_ ((by rw [hw]; exact below_set (HB.out) GB27.out : Below w.heap.size w w29)); clear ad; clear ag; clear aa; clear HB; have ad := n0_; have ag := n1_; have aa := n2_; have HB := n3_; clear n0_ n1_ n2_ n3_; clear hg hw hp_))
                go_loopg [9] k3 (fun kq v9 w' => ∃ (an : List Int) (am : Int), v9 = .int .i64 am ∧ Aside0 (spec_l5Classes.l3 kq (l0_0.length : Int) ak ao an ab am l0_0 l0_1 = some r) ∧ Aside0 (kq ≤ k3) ∧ Aside0 (Kd.R (Kd.int .i64) 3 w' w.heap.size (fun k_ => some k_ ≠ ((.slice (some ⟨go27, 0, none⟩) ap.length ar) : Value).ownBlock) u4 ak) ∧ Aside0 (Kd.R (Kd.int .i64) 3 w' w.heap.size (fun k_ => some k_ ≠ (u4 : Value).ownBlock) (.slice (some ⟨go27, 0, none⟩) ap.length ar) an) ∧ Aside0 (w'.heap[aq]? = some (.cells #[(.slice A0_0 l0_0.length c0_0), (.slice A0_1 l0_1.length c0_1)] 27 (0, 0))) ∧ Aside0 (Below w.heap.size w w'))
                case atStart => exact ⟨(aK), (0), (by first | rfl | (simp; done) | (simp [*]; done)), H', ⟨Nat.le_refl _⟩, ⟨by refine rr_ ?_; exact Kd.R_mono ad.out (fun _ hk => hk.2)⟩, ⟨by refine rr_ ?_; exact ag.out⟩, ⟨by refine rb_ ?_; exact aa.out⟩, ⟨by exact zp4_0_ HB.out aj.out⟩⟩
                case round =>
                 clear H'
                 try clear c1
                 try clear p1
                 try clear q1
                 try clear hx1
                 try clear hf1
                 try clear c2
                 try clear c2b0
                 try clear c2b1
                 try clear p2
                 try clear q2
                 try clear hx2
                 try clear hf2
                 try clear c3
                 try clear c3b0
                 try clear c3b1
                 try clear p6
                 try clear c8
                 try clear c8b0
                 try clear c9
                 try clear c9b0
                 try clear c10
                 try clear c10b0
                 try clear q11
                 try clear c12
                 try clear c13
                 try clear c13b0
                 try clear p13
                 try clear q13
                 try clear hx13
                 try clear p14
                 try clear q14
                 try clear hx14
                 try clear hf14
                 try clear c19
                 try clear c19b0
                 try clear c20
                 try clear c20b0
                 try clear c20b1
                 try clear c21
                 try clear c21b0
                 try clear c21b1
                 try clear c24
                 try clear c24b0
                 try clear c25
                 try clear c25b0
                 try clear c26
                 try clear c26b0
                 try clear p27
                 try clear q27
                 try clear hx27
                 try clear hf27
                 try clear ay
                 try clear az
                 try clear aC
                 try clear aD
                 try clear au
                 try clear av
                 try clear aA
                 try clear aB
                 try clear aE
                 try clear aF
                 try clear aw
                 try clear ax
                 try clear ai
                 try clear aH
                 try clear aZ
                 try clear p1
                 try clear p13
                 try clear p134
                 try clear p14
                 try clear p2
                 try clear p27
                 try clear p6
                 try clear q1
                 try clear q11
                 try clear q13
                 try clear q134
                 try clear q14
                 try clear q27
                 obtain ⟨an, am, rfl, HA, HK4, ad, ag, aa, HB⟩ := hrel
                 have hl7_4 := (Kd.R_reads' ag.out).1
                 rw [hl7_4] at ag
                 (try simp only [hl7_4])
                 (try simp only [hl7_4] at aa)
                 (try simp only [hl7_4] at ad)
                 cases gk with
                 | zero => exact absurd HA.out (by simp [spec_l5Classes.l3])
                 | succ k4 =>
                  have H := HA.out
                  clear HA
                  simp only [spec_l5Classes.l3] at H
                  by_cases c30 : am < ab
                  ·rw [if_pos c30] at H
                   have c30b0 : decide (am < ab) = true := decide_eq_true c30
                   clear c30
                   replace H := Option.bind_eq_some_iff.mp H
                   obtain ⟨aI, ba, H⟩ := H
                   have A31 := am_ ba
                   clear ba
                   by_cases c32 : aI = true
                   ·subst c32
                    have H1 : (if 0 ≤ ab then (if ab < (an.length : Int) then (spec_l5Classes.l2 k4 (l0_0.length : Int) ak ao (an.set (ab : Int).toNat am) (wrap64 (ab + 1)) l0_0 l0_1) else (none)) else (none)) = some r := by rw [if_pos rfl] at H; exact H
                    clear H
                    have H := H1
                    clear H1
                    by_cases c33 : 0 ≤ ab
                    ·rw [if_pos c33] at H
                     have c33b0 : decide (0 ≤ ab) = true := decide_eq_true c33
                     clear c33
                     by_cases c34 : ab < (an.length : Int)
                     ·rw [if_pos c34] at H
                      have c34b0 : decide (ab < (an.length : Int)) = true := decide_eq_true c34
                      clear c34
                      obtain ⟨aL, hy141⟩ : ∃ y_ : List Int, y_ = (an.set (ab : Int).toNat am) := ⟨_, rfl⟩
                      replace H : (spec_l5Classes.l2 k4 (l0_0.length : Int) ak ao aL (wrap64 (ab + 1)) l0_0 l0_1) = some r := by first | (rw [hy141]; with_reducible exact H) | (have H2_ := (Option.bind_some _ _).symm.trans H; rw [hy141]; with_reducible exact H2_) | (have H2_ := (Option.bind_some _ _).symm.trans H; with_reducible exact H2_) | with_reducible exact H | (rw [hy141]; exact H) | exact H
                      have bh := am_ hy141
                      clear hy141
                      have H' := am_ H
                      clear H
                      have bo := ck_ (v := (.slice A0_0 l0_0.length c0_0)) aa 0 rfl
                      have bp := ck_ (v := (.slice A0_1 l0_1.length c0_1)) aa 1 rfl
                      have bq := blk_frozen aa.out 0
                      have br := blk_frozen aa.out 1
                      obtain ⟨bb, bc, bk⟩ := Kd.R_slice ad.out
                      subst bk
                      go_wp2_with (first | ((with_reducible refine gate_callee (f := 133) rfl ?_); refine gL_ (some 53) Try.func133 #[.agg #[.slice A0_0 l0_0.length c0_0, .slice A0_1 l0_1.length c0_1], .slice bb ak.length bc, .int .i64 am, .int .i64 ab] ?_; (with_reducible refine (spec_l5Same.calls k4 _ _ l0_0 _ _ l0_1 _ _ ak am ab true _ ?side1 ?side2 ?side3 ?side4 ?side5 ?side6 A31.out).mono ?_); (case side1 => exact rc_ (Kd.C_below aG.out HB.out)); (case side2 => exact aM.out); (case side3 => exact rc_ (Kd.C_below aN.out HB.out)); (case side4 => exact aO.out); (case side5 => exact rc_ ((Kd.R_reads' ad.out).2.2)); (case side6 => exact (Kd.R_reads' ad.out).2.1); rintro e w38 ⟨rfl, hb⟩; refine ⟨_, rfl, ?_⟩; have n0_ := am_ (Kd.R_below (rr_ ad.out) hb); have n1_ := am_ (Kd.R_below (rr_ ag.out) hb); have n2_ := am_ (blk_below (rb_ aa.out) hb); have n3_ := am_ (below_step (b1_ HB.out aj.out) hb); clear ad; clear ag; clear aa; clear HB; have ad := n0_; have ag := n1_; have aa := n2_; have HB := n3_; clear n0_ n1_ n2_ n3_; (try clear hb); (try clear hb2); (try clear hk); (try clear hi); have p35 : 0 ≤ (ab : Int) := of_decide_eq_true ah_; have q35 : (ab : Int) < ((an.length : Int) : Int) := of_decide_eq_true ah_; obtain ⟨bw, hf35_0⟩ := Kd.R_celln 0 ag.out (ab : Int) p35 q35; replace p35 := eq_true p35; replace q35 := eq_true q35; obtain ⟨hy39_, hz39_⟩ := Kd.R_celln 0 ag.out (ab : Int) (of_decide_eq_true ah_) (of_decide_eq_true ah_); have HP39 := Kd.R_putg ag.out (ab : Int) am) | ((with_reducible refine gate_store (t := 3) (p := 57) rfl ?_); refine store_event (t := 3) (p := 57) (v := ?vo_w40) (w1 := (w38.setCell ⟨go27, (ab : Int).toNat, none⟩ (.int .i64 am))) ?hg ?ho ?hn ?hr ?_; (case ho => rfl); (case hg => rfl); (case hn => rfl); (case hr => first | (go_simp; done) | (go_simp; rfl)); intro w40 hw; have hg : w38.grownBy w40 (some go27) := (by rw [hw]; exact HP39.2); have hp_ : Kd.R (Kd.int .i64) 3 w40 w.heap.size (fun k_ => some k_ ≠ (.slice bb ak.length bc : Value).ownBlock) (.slice (some ⟨go27, 0, none⟩) an.length ar) aL := (by rw [hw, bh.out]; exact HP39.1); clear HP39; have n0_ := am_ (Kd.R_after (v := (.slice (some ⟨go27, 0, none⟩) an.length ar)) (v1 := (.slice (some ⟨go27, 0, none⟩) an.length ar)) (ok := (fun _ => True)) (by refine rr_ ?_; exact Kd.R_mono ad.out (fun _ hk => ⟨trivial, hk⟩)) hg (.inl rfl)); have n1_ := am_ (hp_); have n2_ := am_ (blk_grown (g := aq) (o := .cells #[.slice A0_0 l0_0.length c0_0, .slice A0_1 l0_1.length c0_1] 27 (0, 0)) (rb_ aa.out) hg (Kd.R_ne ag.out aa.out (by decide))); have n3_ := am_ ((by rw [hw]; exact below_set (HB.out) GB27.out : Below w.heap.size w w40)); clear ad; clear ag; clear aa; clear HB; have ad := n0_; have ag := n1_; have aa := n2_; have HB := n3_; clear n0_ n1_ n2_ n3_; clear hg hw hp_))
                      (try simp only [← hl7_4])
                      go_roundg k4
                      case measure => have := HK1.out; have := HK2.out; have := HK3.out; have := HK4.out; omega
                      case rel => exact ⟨(aL), (wrap64 (ab + 1)), (by first | rfl | (simp; done) | (simp [*]; done)), H', ⟨by have := HK1.out; have := HK2.out; have := HK3.out; have := HK4.out; omega⟩, ⟨by (try simp only [hl7_4]); refine rr_ ?_; exact Kd.R_mono ad.out (fun _ hk => hk.2)⟩, ⟨by (try simp only [hl7_4]); refine rr_ ?_; exact ag.out⟩, ⟨by (try simp only [hl7_4]); refine rb_ ?_; exact aa.out⟩, ⟨by exact zp4_0_ HB.out aj.out⟩⟩
                     ·rw [if_neg c34] at H
                      exact absurd H (by simp)
                    ·rw [if_neg c33] at H
                     exact absurd H (by simp)
                   ·replace c32 := Bool.eq_false_iff.mpr c32
                    subst c32
                    have H1 : (spec_l5Classes.l3 k4 (l0_0.length : Int) ak ao an ab (wrap64 (am + 1)) l0_0 l0_1) = some r := by rw [if_neg (show ¬ (false = true) by decide)] at H; exact H
                    clear H
                    have H := H1
                    clear H1
                    have H' := am_ H
                    clear H
                    have bs := ck_ (v := (.slice A0_0 l0_0.length c0_0)) aa 0 rfl
                    have bt := ck_ (v := (.slice A0_1 l0_1.length c0_1)) aa 1 rfl
                    have bu := blk_frozen aa.out 0
                    have bv := blk_frozen aa.out 1
                    obtain ⟨bl, bm, bn⟩ := Kd.R_slice ad.out
                    subst bn
                    go_wp2_with (first | ((with_reducible refine gate_callee (f := 133) rfl ?_); refine gL_ (some 53) Try.func133 #[.agg #[.slice A0_0 l0_0.length c0_0, .slice A0_1 l0_1.length c0_1], .slice bl ak.length bm, .int .i64 am, .int .i64 ab] ?_; (with_reducible refine (spec_l5Same.calls k4 _ _ l0_0 _ _ l0_1 _ _ ak am ab false _ ?side1 ?side2 ?side3 ?side4 ?side5 ?side6 A31.out).mono ?_); (case side1 => exact rc_ (Kd.C_below aG.out HB.out)); (case side2 => exact aM.out); (case side3 => exact rc_ (Kd.C_below aN.out HB.out)); (case side4 => exact aO.out); (case side5 => exact rc_ ((Kd.R_reads' ad.out).2.2)); (case side6 => exact (Kd.R_reads' ad.out).2.1); rintro e w43 ⟨rfl, hb⟩; refine ⟨_, rfl, ?_⟩; have n0_ := am_ (Kd.R_below (rr_ ad.out) hb); have n1_ := am_ (Kd.R_below (rr_ ag.out) hb); have n2_ := am_ (blk_below (rb_ aa.out) hb); have n3_ := am_ (below_step (b1_ HB.out aj.out) hb); clear ad; clear ag; clear aa; clear HB; have ad := n0_; have ag := n1_; have aa := n2_; have HB := n3_; clear n0_ n1_ n2_ n3_; (try clear hb); (try clear hb2); (try clear hk); (try clear hi)))
                    (try simp only [← hl7_4])
                    go_roundg k4
                    case measure => have := HK1.out; have := HK2.out; have := HK3.out; have := HK4.out; omega
                    case rel => exact ⟨(an), (wrap64 (am + 1)), (by first | rfl | (simp; done) | (simp [*]; done)), H', ⟨by have := HK1.out; have := HK2.out; have := HK3.out; have := HK4.out; omega⟩, ⟨by (try simp only [hl7_4]); refine rr_ ?_; exact ad.out⟩, ⟨by (try simp only [hl7_4]); refine rr_ ?_; exact ag.out⟩, ⟨by (try simp only [hl7_4]); refine rb_ ?_; exact aa.out⟩, ⟨by exact zp4_0_ HB.out aj.out⟩⟩
                  ·rw [if_neg c30] at H
                   have c30b0 : decide (am < ab) = false := decide_eq_false c30
                   clear c30
                   have H' := am_ H
                   clear H
                   go_wp2
                   (try simp only [← hl7_4])
                   go_roundg k4
                   case measure => have := HK1.out; have := HK2.out; have := HK3.out; have := HK4.out; omega
                   case rel => exact ⟨(an), (wrap64 (ab + 1)), (by first | rfl | (simp; done) | (simp [*]; done)), H', ⟨by have := HK1.out; have := HK2.out; have := HK3.out; have := HK4.out; omega⟩, ⟨by (try simp only [hl7_4]); refine rr_ ?_; exact ad.out⟩, ⟨by (try simp only [hl7_4]); refine rr_ ?_; exact ag.out⟩, ⟨by (try simp only [hl7_4]); refine rb_ ?_; exact aa.out⟩, ⟨by exact zp4_0_ HB.out aj.out⟩⟩
               ·rw [if_neg c26] at H
                exact absurd H (by simp)
              ·rw [if_neg c25] at H
               exact absurd H (by simp)
             ·rw [if_neg c24] at H
              have c24b0 : decide (ab < (l0_0.length : Int)) = false := decide_eq_false c24
              clear c24
              have H' := am_ H
              clear H
              go_wp2
              go_roundg k3
              case measure => have := HK1.out; have := HK2.out; have := HK3.out; omega
              case rel => exact ⟨(ap), (wrap64 (ao + 1)), (by first | rfl | (simp; done) | (simp [*]; done)), H', ⟨by have := HK1.out; have := HK2.out; have := HK3.out; omega⟩, ⟨by refine rr_ ?_; exact Kd.R_mono ag.out (fun _ hk => trivial)⟩, ⟨by refine rb_ ?_; exact aa.out⟩, ⟨by exact zp4_0_ HB.out aj.out⟩⟩
          ·rw [if_neg c21] at H
           exact absurd H (by simp)
         ·rw [if_neg c20] at H
          exact absurd H (by simp)
        ·rw [if_neg c19] at H
         have c19b0 : decide (ao ≤ (l0_0.length : Int)) = false := decide_eq_false c19
         clear c19
         obtain rfl := Option.some.inj H
         simp only [Option.some.injEq, Prod.mk.injEq] at H
         obtain ⟨rfl⟩ := H
         go_wp2
         go_ret
         exact ⟨_, by first | rfl | (simp [errW_none, errW_some] <;> rfl) | (simp [*, errW_none, errW_some] <;> rfl), by refine rr_ ?_; exact ad.out, by exact zp4_0_ HB.out aj.out⟩
  ·rw [if_neg c3] at H
   exact absurd H (by simp)
 ·rw [if_neg c2] at H
  exact absurd H (by simp)
end Go.Proofs.Ytogamkblkoobkaa.P
end
section
namespace Go.Proofs.Ytogamkblkoobkaa.Can
open Go.RowKit Go.Proofs.Ytogamkblkoobkaa Go.Proofs.Ytogamkblkoobkaa.P Go.Proofs.Ytogamkblkoobkaa.Lg Go.Proofs.Ytogamkblkoobkaa.Pl Go.Proofs.Ytogamkblkoobkaa.Mp Go.Proofs.Ytogamkblkoobkaa.Bf Go.Proofs.Ytogamkblkoobkaa.Mn Go.Proofs.YtogamkblkoobkaaW.PrintWords Go.Proofs.YtogamkblkoobkaaW.PrintLast Go.Proofs.YtogamkblkoobkaaW.PrintMore
set_option linter.unusedVariables false
set_option linter.unusedSimpArgs false
set_option linter.unusedSectionVars false
def findOf (l : List Int) (x : Int) : Int := if x ∈ l then (l.idxOf x : Int) else -1
theorem find_l0 (l : List Int) (x : Int) (hl : l.length ≤ 2000000) : ∀ d i : Nat, i + d = l.length → x ∉ l.take i → Ev (fun k => spec_l5Find.l0 k l x i) (findOf l x) := by
  intro d
  induction d with
  | zero =>
    intro i h hx
    refine next ?_
    simp only [spec_l5Find.l0, if_neg (show ¬ (i : Int) < (l.length : Int) by omega)]
    rw [List.take_of_length_le (by omega)] at hx
    exact ev_some (by unfold findOf; rw [if_neg hx])
  | succ d ih =>
    intro i h hx
    have hi : i < l.length := by omega
    refine next ?_
    simp only [spec_l5Find.l0, if_pos (show (i : Int) < (l.length : Int) by omega), if_pos (show (0 : Int) ≤ (i : Int) by omega), rd_get l i hi]
    by_cases e : l[i] = x
    · simp only [if_pos e]
      refine ev_some ?_
      have hm : x ∈ l := e ▸ List.getElem_mem hi
      unfold findOf
      rw [if_pos hm]
      have : l.idxOf x = i := by
        conv => lhs; rw [← List.take_append_drop i l, List.drop_eq_getElem_cons hi]
        rw [List.idxOf_append, if_neg hx, e, List.idxOf_cons_self]
        simp
        omega
      rw [this]
    · simp only [if_neg e]
      rw [up1 (by omega)]
      refine ih (i + 1) (by omega) ?_
      rw [List.take_succ_eq_append_getElem hi]
      intro hm
      rcases List.mem_append.mp hm with q | q
      · exact hx q
      · rw [List.mem_singleton] at q
        exact e q.symm
theorem find_ev (l : List Int) (x : Int) (hl : l.length ≤ 2000000) : Ev (fun k => spec_l5Find.f k l x) (findOf l x) := find_l0 l x hl l.length 0 (by omega) (by simp)
def eqAt (nx : List (List Int)) (cl : List Int) (p q : Int) (j : Int) : Bool := rd cl (rd (rowOf nx p) j) == rd cl (rd (rowOf nx q) j)
def sameB (nx : List (List Int)) (cl : List Int) (p q : Int) : Bool := (((rd cl p == rd cl q) && eqAt nx cl p q 0) && eqAt nx cl p q 1) && eqAt nx cl p q 2
theorem sameB_iff {nx : List (List Int)} {cl : List Int} {p q : Int} : sameB nx cl p q = true ↔ rd cl p = rd cl q ∧ ∀ k : Fin 3, rd cl (rd (rowOf nx p) (k.val : Int)) = rd cl (rd (rowOf nx q) (k.val : Int)) := by
  unfold sameB eqAt
  simp only [Bool.and_eq_true, beq_iff_eq]
  constructor
  · rintro ⟨⟨⟨h, h0⟩, h1⟩, h2⟩
    refine ⟨h, fun k => ?_⟩
    match k with
    | 0 => exact h0
    | 1 => exact h1
    | 2 => exact h2
  · rintro ⟨h, hk⟩
    exact ⟨⟨⟨h, hk 0⟩, hk 1⟩, hk 2⟩
section
variable {acc : List Bool} {nx : List (List Int)} {cl : List Int}
theorem same_step (hf : Fits acc nx) (hcl : cl.length = acc.length) {p q : Int} (hp : 0 ≤ p ∧ p < (acc.length : Int)) (hq : 0 ≤ q ∧ q < (acc.length : Int)) (b : Bool) (j : Nat) (hj : j < 3) {r : Bool}
    (h : Ev (fun k => spec_l5Same.l0 k cl p q (b && eqAt nx cl p q j) ((j + 1 : Nat) : Int) acc nx) r) : Ev (fun k => spec_l5Same.l0 k cl p q b (j : Int) acc nx) r := by
  refine next ?_
  have h1 : (rd_L1 nx p).length = 3 ∧ ∀ x ∈ rd_L1 nx p, 0 ≤ x ∧ x < (acc.length : Int) := hf.row p hp
  have h2 : (rd_L1 nx q).length = 3 ∧ ∀ x ∈ rd_L1 nx q, 0 ≤ x ∧ x < (acc.length : Int) := hf.row q hq
  have hl := hf.len
  have e1 := h1.2 _ (rd_mem h1.1 ⟨j, hj⟩)
  have e2 := h2.2 _ (rd_mem h2.1 ⟨j, hj⟩)
  dsimp only at e1 e2
  cases b with
  | true =>
    simp only [spec_l5Same.l0, if_pos (show (j : Int) < 3 by omega), if_pos hp.1, if_pos hq.1, if_pos (show p < (nx.length : Int) by omega), if_pos (show q < (nx.length : Int) by omega), if_pos (show (0 : Int) ≤ (j : Int) by omega), if_pos (show (j : Int) < ((rd_L1 nx p).length : Int) by omega), if_pos (show (j : Int) < ((rd_L1 nx q).length : Int) by omega), if_pos e1.1, if_pos e2.1, if_pos (show rd (rd_L1 nx p) (j : Int) < (cl.length : Int) by omega), if_pos (show rd (rd_L1 nx q) (j : Int) < (cl.length : Int) by omega), if_true]
    rw [up1 (by omega)]
    exact h
  | false =>
    simp only [spec_l5Same.l0, if_pos (show (j : Int) < 3 by omega), if_neg (show ¬ false = true by decide)]
    rw [up1 (by omega)]
    exact h
theorem same_ev (hf : Fits acc nx) (hcl : cl.length = acc.length) {p q : Int} (hp : 0 ≤ p ∧ p < (acc.length : Int)) (hq : 0 ≤ q ∧ q < (acc.length : Int)) : Ev (fun k => spec_l5Same.f k acc nx cl p q) (sameB nx cl p q) := by
  have hl := hf.len
  have h0 : Ev (fun k => spec_l5Same.l0 k cl p q (rd cl p == rd cl q) ((0 : Nat) : Int) acc nx) (sameB nx cl p q) := by
    refine same_step hf hcl hp hq _ 0 (by omega) (same_step hf hcl hp hq _ 1 (by omega) (same_step hf hcl hp hq _ 2 (by omega) ?_))
    refine next ?_
    simp only [spec_l5Same.l0, if_neg (show ¬ ((2 + 1 : Nat) : Int) < 3 by decide)]
    exact ev_some rfl
  refine h0.congr fun k => ?_
  simp only [spec_l5Same.f, if_pos hp.1, if_pos hq.1, if_pos (show p < (cl.length : Int) by omega), if_pos (show q < (cl.length : Int) by omega)]
  rfl
def cl0 (acc : List Bool) : List Int := acc.map fun b => if b = true then 1 else 0
def leastF (nx : List (List Int)) (cl : List Int) (q : Nat) : Int := (((List.range q).find? (fun p : Nat => sameB nx cl (p : Int) (q : Int))).getD q : Nat)
def refS (nx : List (List Int)) (cl : List Int) : List Int := (List.range cl.length).map (leastF nx cl)
def iterS (nx : List (List Int)) : Nat → List Int → List Int
  | 0, cl => cl
  | d + 1, cl => iterS nx d (refS nx cl)
theorem set_at {n i : Nat} (hi : i < n) (A : List Int) (hA : A.length = i) (y : Int) : (A ++ List.replicate (n - i) (0 : Int)).set i y = (A ++ [y]) ++ List.replicate (n - (i + 1)) 0 := by
  have := set_mid A (0 : Int) y (List.replicate (n - (i + 1)) 0)
  rw [hA] at this
  rw [show n - i = (n - (i + 1)) + 1 by omega, List.replicate_succ]
  exact this
theorem cls_l3 (hf : Fits acc nx) (hcl : cl.length = acc.length) (hb : acc.length ≤ 1100000) (t : Int) (X : List Int) (hX : X.length = acc.length) (i : Nat) (hi : i < acc.length) {r : List Int}
    (h : Ev (fun k => spec_l5Classes.l2 k (acc.length : Int) cl t (X.set i (leastF nx cl i)) ((i + 1 : Nat) : Int) acc nx) r) :
    ∀ d p : Nat, p + d = i → (∀ p' : Nat, p' < p → sameB nx cl p' i = false) → Ev (fun k => spec_l5Classes.l3 k (acc.length : Int) cl t (X.set i (i : Int)) (i : Int) (p : Int) acc nx) r := by
  intro d
  induction d with
  | zero =>
    intro p hp hno
    refine next ?_
    simp only [spec_l5Classes.l3, if_neg (show ¬ (p : Int) < (i : Int) by omega)]
    rw [up1 (by omega)]
    have e : leastF nx cl i = (i : Int) := by
      unfold leastF
      have : (List.range i).find? (fun p : Nat => sameB nx cl (p : Int) (i : Int)) = none := by
        rw [List.find?_eq_none]
        intro x hx
        rw [List.mem_range] at hx
        rw [hno x (by omega)]
        decide
      rw [this]
      rfl
    rw [← e]
    exact h
  | succ d ih =>
    intro p hp hno
    refine next ?_
    simp only [spec_l5Classes.l3, if_pos (show (p : Int) < (i : Int) by omega)]
    refine (same_ev hf hcl (p := (p : Int)) (q := (i : Int)) (by omega) (by omega)).bind ?_
    cases hs : sameB nx cl (p : Int) (i : Int) with
    | true =>
      simp only [if_true, if_pos (show (0 : Int) ≤ (i : Int) by omega), if_pos (show (i : Int) < ((X.set i (i : Int)).length : Int) by rw [List.length_set]; omega), Int.toNat_natCast, List.set_set]
      rw [up1 (by omega)]
      have e : leastF nx cl i = (p : Int) := by
        unfold leastF
        have : (List.range i).find? (fun p : Nat => sameB nx cl (p : Int) (i : Int)) = some p := by
          rw [List.find?_eq_some_iff_getElem]
          refine ⟨hs, p, by simp; omega, by simp, fun j hj => ?_⟩
          rw [List.getElem_range, hno j hj]
          rfl
        rw [this]
        rfl
      rw [← e]
      exact h
    | false =>
      simp only [if_neg (show ¬ false = true by decide)]
      rw [up1 (by omega)]
      refine ih (p + 1) (by omega) fun p' hp' => ?_
      by_cases e : p' = p
      · subst e; exact hs
      · exact hno p' (by omega)
theorem cls_l2 (hf : Fits acc nx) (hcl : cl.length = acc.length) (hb : acc.length ≤ 1100000) (t : Nat) (ht : t ≤ 1100000) {r : List Int}
    (h : Ev (fun k => spec_l5Classes.l1 k (acc.length : Int) (refS nx cl) ((t + 1 : Nat) : Int) acc nx) r) :
    ∀ d i : Nat, i + d = acc.length → Ev (fun k => spec_l5Classes.l2 k (acc.length : Int) cl (t : Int) ((List.range i).map (leastF nx cl) ++ List.replicate (acc.length - i) 0) (i : Int) acc nx) r := by
  intro d
  induction d with
  | zero =>
    intro i hi
    refine next ?_
    simp only [spec_l5Classes.l2, if_neg (show ¬ (i : Int) < (acc.length : Int) by omega)]
    rw [up1 (by omega)]
    have e : (List.range i).map (leastF nx cl) ++ List.replicate (acc.length - i) 0 = refS nx cl := by
      unfold refS
      rw [hcl, show i = acc.length by omega]
      simp
    rw [e]
    exact h
  | succ d ih =>
    intro i hi
    refine next ?_
    have hlen : ((List.range i).map (leastF nx cl) ++ List.replicate (acc.length - i) (0 : Int)).length = acc.length := by simp; omega
    simp only [spec_l5Classes.l2, if_pos (show (i : Int) < (acc.length : Int) by omega), if_pos (show (0 : Int) ≤ (i : Int) by omega), if_pos (show (i : Int) < (((List.range i).map (leastF nx cl) ++ List.replicate (acc.length - i) (0 : Int)).length : Int) by omega), Int.toNat_natCast]
    refine cls_l3 hf hcl hb (t : Int) _ hlen i (by omega) ?_ i 0 (by omega) (fun _ h => by omega)
    rw [set_at (by omega) _ (by simp), ← List.map_singleton, ← List.map_append, ← List.range_succ]
    exact ih (i + 1) (by omega)
theorem refS_len (nx : List (List Int)) (cl : List Int) : (refS nx cl).length = cl.length := by simp [refS]
theorem cls_l1 (hf : Fits acc nx) (hb : acc.length ≤ 1100000) : ∀ (d t : Nat) (cl : List Int), cl.length = acc.length → t + d = acc.length + 1 → Ev (fun k => spec_l5Classes.l1 k (acc.length : Int) cl (t : Int) acc nx) (iterS nx d cl) := by
  intro d
  induction d with
  | zero =>
    intro t cl hcl ht
    refine next ?_
    simp only [spec_l5Classes.l1, if_neg (show ¬ (t : Int) ≤ (acc.length : Int) by omega)]
    exact ev_some rfl
  | succ d ih =>
    intro t cl hcl ht
    refine next ?_
    simp only [spec_l5Classes.l1, if_pos (show (t : Int) ≤ (acc.length : Int) by omega), if_pos (show (0 : Int) ≤ (acc.length : Int) by omega), Int.toNat_natCast, if_pos (show acc.length ≤ 35184372088832 by omega)]
    show Ev _ (iterS nx d (refS nx cl))
    have := cls_l2 hf hcl hb t (by omega) (ih (t + 1) (refS nx cl) (by rw [refS_len]; exact hcl) (by omega)) acc.length 0 (by omega)
    simpa using this
theorem cls_l0 (hf : Fits acc nx) (hb : acc.length ≤ 1100000) {r : List Int} (h : Ev (fun k => spec_l5Classes.l1 k (acc.length : Int) (cl0 acc) 0 acc nx) r) :
    ∀ d i : Nat, i + d = acc.length → Ev (fun k => spec_l5Classes.l0 k (acc.length : Int) ((acc.take i).map (fun b => if b = true then (1 : Int) else 0) ++ List.replicate (acc.length - i) 0) (i : Int) acc nx) r := by
  intro d
  induction d with
  | zero =>
    intro i hi
    refine next ?_
    simp only [spec_l5Classes.l0, if_neg (show ¬ (i : Int) < (acc.length : Int) by omega)]
    rw [List.take_of_length_le (by omega), show acc.length - i = 0 by omega]
    simpa [cl0] using h
  | succ d ih =>
    intro i hi
    refine next ?_
    have hii : i < acc.length := by omega
    have hlen : (((acc.take i).map (fun b => if b = true then (1 : Int) else 0) ++ List.replicate (acc.length - i) (0 : Int)).length : Int) = (acc.length : Int) := by simp; omega
    have hs : ∀ y, ((acc.take i).map (fun b => if b = true then (1 : Int) else 0) ++ List.replicate (acc.length - i) (0 : Int)).set i y = ((acc.take i).map (fun b => if b = true then (1 : Int) else 0) ++ [y]) ++ List.replicate (acc.length - (i + 1)) 0 := fun y => set_at hii _ (by simp; omega) y
    have hz := hs 0
    have hsame : ((acc.take i).map (fun b => if b = true then (1 : Int) else 0) ++ List.replicate (acc.length - i) (0 : Int)).set i 0 = (acc.take i).map (fun b => if b = true then (1 : Int) else 0) ++ List.replicate (acc.length - i) (0 : Int) := by
      rw [hz, show acc.length - i = (acc.length - (i + 1)) + 1 by omega, List.replicate_succ]
      simp
    have IH := ih (i + 1) (by omega)
    rw [List.take_succ_eq_append_getElem hii, List.map_append, List.map_singleton] at IH
    simp only [spec_l5Classes.l0, if_pos (show (i : Int) < (acc.length : Int) by omega), if_pos (show (0 : Int) ≤ (i : Int) by omega), rdOf_get false acc i hii]
    rw [up1 (by omega)]
    cases hb2 : acc[i] with
    | true =>
      rw [hb2] at IH
      simp only [if_true] at IH ⊢
      simp only [hlen, if_pos (show (i : Int) < (acc.length : Int) by omega), Int.toNat_natCast, hs]
      exact IH
    | false =>
      rw [hb2] at IH
      simp only [if_neg (show ¬ false = true by decide)] at IH ⊢
      rw [← hsame, hz]
      exact IH
theorem cls_ev (hf : Fits acc nx) (hb : acc.length ≤ 1100000) : Ev (fun k => spec_l5Classes.f k acc nx) (iterS nx (acc.length + 1) (cl0 acc)) := by
  have h1 := cls_l1 hf hb (acc.length + 1) 0 (cl0 acc) (by simp [cl0]) (by omega)
  have h0 := cls_l0 hf hb h1 acc.length 0 (by omega)
  refine h0.congr fun k => ?_
  simp only [spec_l5Classes.f, if_pos (show (0 : Int) ≤ (acc.length : Int) by omega), Int.toNat_natCast, if_pos (show acc.length ≤ 35184372088832 by omega)]
  simp
end
end Go.Proofs.Ytogamkblkoobkaa.Can
end
