/- Texts of the proof of FnExactLengthsOf, put together. No condition. -/
import Derived.Test.YtpgdhpnmagmooaaQFnExactLengthsOf2
import Derived.Shelf.Abstract
import Derived.Lib.Walk
import Derived.Deep.Slices
import Derived.Lib.SmallJoins
section
namespace Go.Proofs.Ytpgdhpnmagmooaa.P
open Go.RowKit Go.Proofs.YtpgdhpnmagmooaaW.PrintWords Go.Proofs.YtpgdhpnmagmooaaW.PrintLast Go.Proofs.YtpgdhpnmagmooaaW.PrintMore
attribute [local go_sem] max2_int min2_int max_two min_two max_three min_three max_four min_four
set_option linter.unusedVariables false
set_option linter.unusedSimpArgs false
def laws_toBoolS.l0 : Nat → List Bool → List Bool → Int → Option (List Bool)
  | 0, _, _, _ => none
  | k + 1, x0, x3, x4 => if x4 < (x0.length : Int) then (if 0 ≤ x4 then (if x4 < (x3.length : Int) then (laws_toBoolS.l0 k x0 (x3.set (x4 : Int).toNat (rdOf false x0 x4)) (wrap64 (x4 + 1))) else (none)) else (none)) else (some x3)
def laws_toBoolS.f (k : Nat) (l0 : List Bool) : Option (List Bool) := if 0 ≤ (l0.length : Int) then (if ((l0.length : Int) : Int).toNat ≤ 281474976710656 then (laws_toBoolS.l0 k l0 (List.replicate ((l0.length : Int) : Int).toNat false) 0) else (none)) else (none)
theorem laws_toBoolS.mono_l : ∀ k, (∀ y0 y1 y2, LeO (laws_toBoolS.l0 k y0 y1 y2) (laws_toBoolS.l0 (k + 1) y0 y1 y2))
  | 0 => fun _ _ _ r h => by simp [laws_toBoolS.l0] at h
  | k + 1 => by
    have ih0 := laws_toBoolS.mono_l k
    · intro y0 y1 y2
      unfold laws_toBoolS.l0
      repeat' first
      | (with_reducible exact ih0 _ _ _)
      | (with_reducible exact LeO.refl _)
      | (with_reducible exact LeO.none _)
      | (with_reducible refine LeO.ite ?_ ?_)
      | (with_reducible refine LeO.bind ?_ (fun _ => ?_))
      | exact ih0 _ _ _
      | exact LeO.none _
      | refine LeO.ite ?_ ?_
      | refine LeO.bind ?_ (fun _ => ?_)
theorem laws_toBoolS.mono : ∀ a0 k, LeO (laws_toBoolS.f k a0) (laws_toBoolS.f (k + 1) a0) := by
  intro a0 k
  have ih0 := laws_toBoolS.mono_l k
  unfold laws_toBoolS.f
  repeat' first
      | (with_reducible exact ih0 _ _ _)
      | (with_reducible exact LeO.refl _)
      | (with_reducible exact LeO.none _)
      | (with_reducible refine LeO.ite ?_ ?_)
      | (with_reducible refine LeO.bind ?_ (fun _ => ?_))
      | exact ih0 _ _ _
      | exact LeO.none _
      | refine LeO.ite ?_ ?_
      | refine LeO.bind ?_ (fun _ => ?_)
theorem zp7_0_ {p q : Prop} (h : p) (c : p → q := by intro h_; repeat (first | (with_reducible first | exact h_ | apply below_alloc | apply pw_below_drewN | apply below_drew1) | exact h_)) : q := c h
set_option maxHeartbeats 8000000 in
set_option maxRecDepth 100000 in
theorem laws_toBoolS.calls (k : Nat) (A0 : Option Addr) (c0 : Nat) (l0 : List Bool) (r : List Bool) (w : World) (hr0 : Kd.C Kd.bool w A0 l0.length l0) (hc0 : l0.length ≤ c0) (h : laws_toBoolS.f k l0 = some r) :
    Calls Try.prog 29 #[.slice A0 l0.length c0] w fun e w' => ∃ v0_ : Value, e = .returned (v0_) ∧ Kd.R Kd.bool 4 w' w.heap.size (fun _ => True) v0_ r ∧ Below w.heap.size w w' := by
  have HR0 := am_ hr0
  have HC0 := am_ hc0
  clear hr0 hc0
  have HB := am_ (Below.refl w.heap.size w)
  have H : (if 0 ≤ (l0.length : Int) then (if ((l0.length : Int) : Int).toNat ≤ 281474976710656 then (laws_toBoolS.l0 k l0 (List.replicate ((l0.length : Int) : Int).toNat false) 0) else (none)) else (none)) = some r := h
  clear h
  by_cases c2 : 0 ≤ (l0.length : Int)
  · rw [if_pos c2] at H
    have c2b0 := eq_true c2
    have c2b1 : decide (0 ≤ (l0.length : Int)) = true := decide_eq_true c2
    clear c2
    by_cases c3 : ((l0.length : Int) : Int).toNat ≤ 281474976710656
    · rw [if_pos c3] at H
      have c3b0 := eq_true c3
      have c3b1 : decide (((l0.length : Int) : Int).toNat ≤ 281474976710656) = true := decide_eq_true c3
      clear c3
      obtain ⟨aR, hy179⟩ : ∃ y_ : List Bool, y_ = (List.replicate ((l0.length : Int) : Int).toNat false) := ⟨_, rfl⟩
      replace H : (laws_toBoolS.l0 k l0 aR 0) = some r := by first | (rw [hy179]; with_reducible exact H) | (have H2_ := (Option.bind_some _ _).symm.trans H; rw [hy179]; with_reducible exact H2_) | (have H2_ := (Option.bind_some _ _).symm.trans H; with_reducible exact H2_) | with_reducible exact H | (rw [hy179]; exact H) | exact H
      have aL := am_ hy179
      clear hy179
      have H' := am_ H
      clear H
      go_enter Try.func29, Try.ntmps29
      go_wp2_with (first | ((with_reducible refine gate_dst (N := 7) rfl ?_); refine Kd.R_make Kd.bool _ 4 rfl (N := 7) rfl 22 _ _ rfl (l0.length : Int) rfl rfl Try.underlying22 (.bool false) 1 info4 rfl (by decide) (by omega) false (ok := fun _ => True) (okp := fun _ => True) rfl (fun _ hk => hk) trivial (of_decide_eq_true ah_) (Nat.le_trans (Nat.mul_le_mul_right _ (of_decide_eq_true ah_ : (l0.length : Int).toNat ≤ 281474976710656)) (by omega)) (Below.refl _ _) (Nat.le_refl _) ?_; intro bk w4 ho5 hb hg_ hnew_; clear hg_ hnew_; (first | rw [← aL.out] at ho5 | (simp only [Int.reduceToNat] at ho5; rw [← aL.out] at ho5)); replace aZ := am_ (Kd.R_lower ho5 (below_size (b0_ HB.out))); replace HB := am_ (below_step (b0_ HB.out) hb); clear hb ho5))
      go_loopg [4] k (fun kq v4 w' => ∃ (ae : List Bool) (aa : Int), v4 = .int .i64 aa ∧ Aside0 (laws_toBoolS.l0 kq l0 ae aa = some r) ∧ Aside0 (kq ≤ k) ∧ Aside0 (Kd.R Kd.bool 4 w' w.heap.size (fun _ => True) bk ae) ∧ Aside0 (Below w.heap.size w w'))
      case atStart => exact ⟨(aR), (0), (by first | rfl | (simp; done) | (simp [*]; done)), H', ⟨Nat.le_refl _⟩, ⟨by refine rr_ ?_; exact aZ.out⟩, ⟨by exact zp7_0_ HB.out⟩⟩
      case round =>
        clear H'
        try clear c2
        try clear c2b0
        try clear c2b1
        try clear p2
        try clear c3
        try clear c3b0
        try clear c3b1
        obtain ⟨ae, aa, rfl, HA, HK1, ab, HB⟩ := hrel
        cases gk with
        | zero => exact absurd HA.out (by simp [laws_toBoolS.l0])
        | succ k1 =>
          have H := HA.out
          clear HA
          simp only [laws_toBoolS.l0] at H
          by_cases c6 : aa < (l0.length : Int)
          · rw [if_pos c6] at H
            have c6b0 : decide (aa < (l0.length : Int)) = true := decide_eq_true c6
            clear c6
            by_cases c7 : 0 ≤ aa
            · rw [if_pos c7] at H
              have c7b0 : decide (0 ≤ aa) = true := decide_eq_true c7
              clear c7
              by_cases c8 : aa < (ae.length : Int)
              · rw [if_pos c8] at H
                have c8b0 : decide (aa < (ae.length : Int)) = true := decide_eq_true c8
                clear c8
                obtain ⟨aI, hy183⟩ : ∃ y_ : List Bool, y_ = (ae.set (aa : Int).toNat (rdOf false l0 aa)) := ⟨_, rfl⟩
                replace H : (laws_toBoolS.l0 k1 l0 aI (wrap64 (aa + 1))) = some r := by first | (rw [hy183]; with_reducible exact H) | (have H2_ := (Option.bind_some _ _).symm.trans H; rw [hy183]; with_reducible exact H2_) | (have H2_ := (Option.bind_some _ _).symm.trans H; with_reducible exact H2_) | with_reducible exact H | (rw [hy183]; exact H) | exact H
                have ba := am_ hy183
                clear hy183
                have H' := am_ H
                clear H
                have p182 : 0 ≤ (aa : Int) := of_decide_eq_true ah_
                have q182 : aa < (l0.length : Int) := of_decide_eq_true ah_
                obtain ⟨bK, e182, av⟩ := Kd.at_bool HR0.out aa p182 q182
                cases e182
                replace av := (HB.out.cell (World.block_lt_of_cell? w _ av)).trans av
                replace p182 := eq_true p182
                replace q182 := eq_true q182
                have p9 : 0 ≤ (aa : Int) := of_decide_eq_true ah_
                have q9 : (aa : Int) < ((ae.length : Int) : Int) := of_decide_eq_true ah_
                obtain ⟨go9, co9, eo9, gb9, gl9, cl9, HG9⟩ := Kd.R_form ab.out (by omega)
                (first | cases eo9 | (injection eo9 with ea_ en_ ec_; (first | subst ea_ | (injection ea_ with ea_; subst ea_)); subst ec_; clear en_))
                have GB9 := am_ gb9
                have GG9 := am_ HG9
                clear gb9 gl9 HG9
                obtain ⟨bb, hf9_0⟩ := Kd.R_celln false ab.out (aa : Int) p9 q9
                replace p9 := eq_true p9
                replace q9 := eq_true q9
                have HP10 := Kd.R_putg ab.out (aa : Int) (rdOf false l0 aa)
                go_wp2_with (first | ((with_reducible refine gate_store (t := 4) (p := 20) rfl ?_); refine store_event (t := 4) (p := 20) (v := ?vo_w11) (w1 := (wr.setCell ⟨go9, (aa : Int).toNat, none⟩ (.bool (rdOf false l0 aa)))) ?hg ?ho ?hn ?hr ?_; (case ho => rfl); (case hg => rfl); (case hn => rfl); (case hr => first | (go_simp; done) | (go_simp; rfl)); intro w11 hw; have hg : wr.grownBy w11 (some go9) := (by rw [hw]; exact HP10.2); have hp_ : Kd.R Kd.bool 4 w11 w.heap.size (fun _ => True) (.slice (some ⟨go9, 0, none⟩) ae.length co9) aI := (by rw [hw, ba.out]; exact HP10.1); clear HP10; have n0_ := am_ (hp_); have n1_ := am_ ((by rw [hw]; exact below_set (HB.out) GB9.out : Below w.heap.size w w11)); clear ab; clear HB; have ab := n0_; have HB := n1_; clear n0_ n1_; clear hg hw hp_))
                go_roundg k1
                case measure => have := HK1.out; omega
                case rel => exact ⟨(aI), (wrap64 (aa + 1)), (by first | rfl | (simp; done) | (simp [*]; done)), H', ⟨by have := HK1.out; omega⟩, ⟨by refine rr_ ?_; exact ab.out⟩, ⟨by exact zp7_0_ HB.out⟩⟩
              · rw [if_neg c8] at H
                exact absurd H (by simp)
            · rw [if_neg c7] at H
              exact absurd H (by simp)
          · rw [if_neg c6] at H
            have c6b0 : decide (aa < (l0.length : Int)) = false := decide_eq_false c6
            clear c6
            obtain rfl := Option.some.inj H
            simp only [Option.some.injEq, Prod.mk.injEq] at H
            obtain ⟨rfl⟩ := H
            go_wp2
            go_ret
            exact ⟨_, by first | rfl | (simp [errW_none, errW_some] <;> rfl) | (simp [*, errW_none, errW_some] <;> rfl), by refine rr_ ?_; exact ab.out, by exact zp7_0_ HB.out⟩
    · rw [if_neg c3] at H
      exact absurd H (by simp)
  · rw [if_neg c2] at H
    exact absurd H (by simp)
def laws_toIntS.l0 : Nat → List Int → List Int → Int → Option (List Int)
  | 0, _, _, _ => none
  | k + 1, x0, x3, x4 => if x4 < (x0.length : Int) then (if 0 ≤ x4 then (if x4 < (x3.length : Int) then (laws_toIntS.l0 k x0 (x3.set (x4 : Int).toNat (rd x0 x4)) (wrap64 (x4 + 1))) else (none)) else (none)) else (some x3)
def laws_toIntS.f (k : Nat) (l0 : List Int) : Option (List Int) := if 0 ≤ (l0.length : Int) then (if ((l0.length : Int) : Int).toNat ≤ 35184372088832 then (laws_toIntS.l0 k l0 (List.replicate ((l0.length : Int) : Int).toNat 0) 0) else (none)) else (none)
theorem laws_toIntS.mono_l : ∀ k, (∀ y0 y1 y2, LeO (laws_toIntS.l0 k y0 y1 y2) (laws_toIntS.l0 (k + 1) y0 y1 y2))
  | 0 => fun _ _ _ r h => by simp [laws_toIntS.l0] at h
  | k + 1 => by
    have ih0 := laws_toIntS.mono_l k
    · intro y0 y1 y2
      unfold laws_toIntS.l0
      repeat' first
      | (with_reducible exact ih0 _ _ _)
      | (with_reducible exact LeO.refl _)
      | (with_reducible exact LeO.none _)
      | (with_reducible refine LeO.ite ?_ ?_)
      | (with_reducible refine LeO.bind ?_ (fun _ => ?_))
      | exact ih0 _ _ _
      | exact LeO.none _
      | refine LeO.ite ?_ ?_
      | refine LeO.bind ?_ (fun _ => ?_)
theorem laws_toIntS.mono : ∀ a0 k, LeO (laws_toIntS.f k a0) (laws_toIntS.f (k + 1) a0) := by
  intro a0 k
  have ih0 := laws_toIntS.mono_l k
  unfold laws_toIntS.f
  repeat' first
      | (with_reducible exact ih0 _ _ _)
      | (with_reducible exact LeO.refl _)
      | (with_reducible exact LeO.none _)
      | (with_reducible refine LeO.ite ?_ ?_)
      | (with_reducible refine LeO.bind ?_ (fun _ => ?_))
      | exact ih0 _ _ _
      | exact LeO.none _
      | refine LeO.ite ?_ ?_
      | refine LeO.bind ?_ (fun _ => ?_)
set_option maxHeartbeats 8000000 in
set_option maxRecDepth 100000 in
theorem laws_toIntS.calls (k : Nat) (A0 : Option Addr) (c0 : Nat) (l0 : List Int) (r : List Int) (w : World) (hr0 : Kd.C (Kd.int .i64) w A0 l0.length l0) (hc0 : l0.length ≤ c0) (h : laws_toIntS.f k l0 = some r) :
    Calls Try.prog 48 #[.slice A0 l0.length c0] w fun e w' => ∃ v0_ : Value, e = .returned (v0_) ∧ Kd.R (Kd.int .i64) 3 w' w.heap.size (fun _ => True) v0_ r ∧ Below w.heap.size w w' := by
  have HR0 := am_ hr0
  have HC0 := am_ hc0
  clear hr0 hc0
  have HB := am_ (Below.refl w.heap.size w)
  have H : (if 0 ≤ (l0.length : Int) then (if ((l0.length : Int) : Int).toNat ≤ 35184372088832 then (laws_toIntS.l0 k l0 (List.replicate ((l0.length : Int) : Int).toNat 0) 0) else (none)) else (none)) = some r := h
  clear h
  by_cases c2 : 0 ≤ (l0.length : Int)
  · rw [if_pos c2] at H
    have c2b0 := eq_true c2
    have c2b1 : decide (0 ≤ (l0.length : Int)) = true := decide_eq_true c2
    clear c2
    by_cases c3 : ((l0.length : Int) : Int).toNat ≤ 35184372088832
    · rw [if_pos c3] at H
      have c3b0 := eq_true c3
      have c3b1 : decide (((l0.length : Int) : Int).toNat ≤ 35184372088832) = true := decide_eq_true c3
      clear c3
      obtain ⟨aS, hy184⟩ : ∃ y_ : List Int, y_ = (List.replicate ((l0.length : Int) : Int).toNat 0) := ⟨_, rfl⟩
      replace H : (laws_toIntS.l0 k l0 aS 0) = some r := by first | (rw [hy184]; with_reducible exact H) | (have H2_ := (Option.bind_some _ _).symm.trans H; rw [hy184]; with_reducible exact H2_) | (have H2_ := (Option.bind_some _ _).symm.trans H; with_reducible exact H2_) | with_reducible exact H | (rw [hy184]; exact H) | exact H
      have aM := am_ hy184
      clear hy184
      have H' := am_ H
      clear H
      go_enter Try.func48, Try.ntmps48
      go_wp2_with (first | ((with_reducible refine gate_dst (N := 7) rfl ?_); refine Kd.R_make (Kd.int .i64) _ 3 rfl (N := 7) rfl 43 _ _ rfl (l0.length : Int) rfl rfl Try.underlying43 (.int .i64 0) 8 info3 rfl (by decide) (by omega) 0 (ok := fun _ => True) (okp := fun _ => True) rfl (fun _ hk => hk) trivial (of_decide_eq_true ah_) (Nat.le_trans (Nat.mul_le_mul_right _ (of_decide_eq_true ah_ : (l0.length : Int).toNat ≤ 35184372088832)) (by omega)) (Below.refl _ _) (Nat.le_refl _) ?_; intro bl w4 ho5 hb hg_ hnew_; clear hg_ hnew_; (first | rw [← aM.out] at ho5 | (simp only [Int.reduceToNat] at ho5; rw [← aM.out] at ho5)); replace bc := am_ (Kd.R_lower ho5 (below_size (b0_ HB.out))); replace HB := am_ (below_step (b0_ HB.out) hb); clear hb ho5))
      go_loopg [4] k (fun kq v4 w' => ∃ (ae : List Int) (aa : Int), v4 = .int .i64 aa ∧ Aside0 (laws_toIntS.l0 kq l0 ae aa = some r) ∧ Aside0 (kq ≤ k) ∧ Aside0 (Kd.R (Kd.int .i64) 3 w' w.heap.size (fun _ => True) bl ae) ∧ Aside0 (Below w.heap.size w w'))
      case atStart => exact ⟨(aS), (0), (by first | rfl | (simp; done) | (simp [*]; done)), H', ⟨Nat.le_refl _⟩, ⟨by refine rr_ ?_; exact bc.out⟩, ⟨by exact zp7_0_ HB.out⟩⟩
      case round =>
        clear H'
        try clear c2
        try clear c2b0
        try clear c2b1
        try clear p2
        try clear c3
        try clear c3b0
        try clear c3b1
        try clear c4
        obtain ⟨ae, aa, rfl, HA, HK1, ab, HB⟩ := hrel
        cases gk with
        | zero => exact absurd HA.out (by simp [laws_toIntS.l0])
        | succ k1 =>
          have H := HA.out
          clear HA
          simp only [laws_toIntS.l0] at H
          by_cases c6 : aa < (l0.length : Int)
          · rw [if_pos c6] at H
            have c6b0 : decide (aa < (l0.length : Int)) = true := decide_eq_true c6
            clear c6
            by_cases c7 : 0 ≤ aa
            · rw [if_pos c7] at H
              have c7b0 : decide (0 ≤ aa) = true := decide_eq_true c7
              clear c7
              by_cases c8 : aa < (ae.length : Int)
              · rw [if_pos c8] at H
                have c8b0 : decide (aa < (ae.length : Int)) = true := decide_eq_true c8
                clear c8
                obtain ⟨aJ, hy188⟩ : ∃ y_ : List Int, y_ = (ae.set (aa : Int).toNat (rd l0 aa)) := ⟨_, rfl⟩
                replace H : (laws_toIntS.l0 k1 l0 aJ (wrap64 (aa + 1))) = some r := by first | (rw [hy188]; with_reducible exact H) | (have H2_ := (Option.bind_some _ _).symm.trans H; rw [hy188]; with_reducible exact H2_) | (have H2_ := (Option.bind_some _ _).symm.trans H; with_reducible exact H2_) | with_reducible exact H | (rw [hy188]; exact H) | exact H
                have bd := am_ hy188
                clear hy188
                have H' := am_ H
                clear H
                have p187 : 0 ≤ (aa : Int) := of_decide_eq_true ah_
                have q187 : aa < (l0.length : Int) := of_decide_eq_true ah_
                obtain ⟨bL, e187, aw⟩ := Kd.at_int HR0.out aa p187 q187
                cases e187
                replace aw := (HB.out.cell (World.block_lt_of_cell? w _ aw)).trans aw
                replace p187 := eq_true p187
                replace q187 := eq_true q187
                have p9 : 0 ≤ (aa : Int) := of_decide_eq_true ah_
                have q9 : (aa : Int) < ((ae.length : Int) : Int) := of_decide_eq_true ah_
                obtain ⟨go9, co9, eo9, gb9, gl9, cl9, HG9⟩ := Kd.R_form ab.out (by omega)
                (first | cases eo9 | (injection eo9 with ea_ en_ ec_; (first | subst ea_ | (injection ea_ with ea_; subst ea_)); subst ec_; clear en_))
                have GB9 := am_ gb9
                have GG9 := am_ HG9
                clear gb9 gl9 HG9
                obtain ⟨bb, hf9_0⟩ := Kd.R_celln 0 ab.out (aa : Int) p9 q9
                replace p9 := eq_true p9
                replace q9 := eq_true q9
                have HP10 := Kd.R_putg ab.out (aa : Int) (rd l0 aa)
                go_wp2_with (first | ((with_reducible refine gate_store (t := 3) (p := 20) rfl ?_); refine store_event (t := 3) (p := 20) (v := ?vo_w11) (w1 := (wr.setCell ⟨go9, (aa : Int).toNat, none⟩ (.int .i64 (rd l0 aa)))) ?hg ?ho ?hn ?hr ?_; (case ho => rfl); (case hg => rfl); (case hn => rfl); (case hr => first | (go_simp; done) | (go_simp; rfl)); intro w11 hw; have hg : wr.grownBy w11 (some go9) := (by rw [hw]; exact HP10.2); have hp_ : Kd.R (Kd.int .i64) 3 w11 w.heap.size (fun _ => True) (.slice (some ⟨go9, 0, none⟩) ae.length co9) aJ := (by rw [hw, bd.out]; exact HP10.1); clear HP10; have n0_ := am_ (hp_); have n1_ := am_ ((by rw [hw]; exact below_set (HB.out) GB9.out : Below w.heap.size w w11)); clear ab; clear HB; have ab := n0_; have HB := n1_; clear n0_ n1_; clear hg hw hp_))
                go_roundg k1
                case measure => have := HK1.out; omega
                case rel => exact ⟨(aJ), (wrap64 (aa + 1)), (by first | rfl | (simp; done) | (simp [*]; done)), H', ⟨by have := HK1.out; omega⟩, ⟨by refine rr_ ?_; exact ab.out⟩, ⟨by exact zp7_0_ HB.out⟩⟩
              · rw [if_neg c8] at H
                exact absurd H (by simp)
            · rw [if_neg c7] at H
              exact absurd H (by simp)
          · rw [if_neg c6] at H
            have c6b0 : decide (aa < (l0.length : Int)) = false := decide_eq_false c6
            clear c6
            obtain rfl := Option.some.inj H
            simp only [Option.some.injEq, Prod.mk.injEq] at H
            obtain ⟨rfl⟩ := H
            go_wp2
            go_ret
            exact ⟨_, by first | rfl | (simp [errW_none, errW_some] <;> rfl) | (simp [*, errW_none, errW_some] <;> rfl), by refine rr_ ?_; exact ab.out, by exact zp7_0_ HB.out⟩
    · rw [if_neg c3] at H
      exact absurd H (by simp)
  · rw [if_neg c2] at H
    exact absurd H (by simp)
def laws_toIntSS.l0 : Nat → List (List Int) → List (List Int) → Int → Option ((List (List Int)))
  | 0, _, _, _ => none
  | k + 1, x0, x3, x4 => if x4 < (x0.length : Int) then (if 0 ≤ x4 then ((laws_toIntS.f k (rd_L1 x0 x4)).bind fun aA => (if x4 < (x3.length : Int) then (laws_toIntSS.l0 k x0 (x3.set (x4 : Int).toNat aA) (wrap64 (x4 + 1))) else (none))) else (none)) else (some x3)
def laws_toIntSS.f (k : Nat) (l0 : List (List Int)) : Option ((List (List Int))) := if 0 ≤ (l0.length : Int) then (if ((l0.length : Int) : Int).toNat ≤ 11728124029610 then (laws_toIntSS.l0 k l0 (List.replicate ((l0.length : Int) : Int).toNat []) 0) else (none)) else (none)
theorem laws_toIntSS.mono_l : ∀ k, (∀ y0 y1 y2, LeO (laws_toIntSS.l0 k y0 y1 y2) (laws_toIntSS.l0 (k + 1) y0 y1 y2))
  | 0 => fun _ _ _ r h => by simp [laws_toIntSS.l0] at h
  | k + 1 => by
    have ih0 := laws_toIntSS.mono_l k
    · intro y0 y1 y2
      unfold laws_toIntSS.l0
      repeat' first
      | (with_reducible exact ih0 _ _ _)
      | (with_reducible exact laws_toIntS.mono _ _)
      | (with_reducible exact LeO.refl _)
      | (with_reducible exact LeO.none _)
      | (with_reducible refine LeO.ite ?_ ?_)
      | (with_reducible refine LeO.bind ?_ (fun _ => ?_))
      | exact ih0 _ _ _
      | exact laws_toIntS.mono _ _
      | exact LeO.none _
      | refine LeO.ite ?_ ?_
      | refine LeO.bind ?_ (fun _ => ?_)
theorem laws_toIntSS.mono : ∀ a0 k, LeO (laws_toIntSS.f k a0) (laws_toIntSS.f (k + 1) a0) := by
  intro a0 k
  have ih0 := laws_toIntSS.mono_l k
  unfold laws_toIntSS.f
  repeat' first
      | (with_reducible exact ih0 _ _ _)
      | (with_reducible exact laws_toIntS.mono _ _)
      | (with_reducible exact LeO.refl _)
      | (with_reducible exact LeO.none _)
      | (with_reducible refine LeO.ite ?_ ?_)
      | (with_reducible refine LeO.bind ?_ (fun _ => ?_))
      | exact ih0 _ _ _
      | exact laws_toIntS.mono _ _
      | exact LeO.none _
      | refine LeO.ite ?_ ?_
      | refine LeO.bind ?_ (fun _ => ?_)
set_option maxHeartbeats 8000000 in
set_option maxRecDepth 100000 in
theorem laws_toIntSS.calls (k : Nat) (A0 : Option Addr) (c0 : Nat) (l0 : List (List Int)) (r : List (List Int)) (w : World) (hr0 : Kd.C (Kd.slice 3 (Kd.int .i64)) w A0 l0.length l0) (hc0 : l0.length ≤ c0) (h : laws_toIntSS.f k l0 = some r) :
    Calls Try.prog 30 #[.slice A0 l0.length c0] w fun e w' => ∃ v0_ : Value, e = .returned (v0_) ∧ Kd.S (Kd.slice 3 (Kd.int .i64)) 43 w' w.heap.size (fun _ => True) v0_ r ∧ Below w.heap.size w w' := by
  have HR0 := am_ hr0
  have HC0 := am_ hc0
  clear hr0 hc0
  have HB := am_ (Below.refl w.heap.size w)
  have H : (if 0 ≤ (l0.length : Int) then (if ((l0.length : Int) : Int).toNat ≤ 11728124029610 then (laws_toIntSS.l0 k l0 (List.replicate ((l0.length : Int) : Int).toNat []) 0) else (none)) else (none)) = some r := h
  clear h
  by_cases c2 : 0 ≤ (l0.length : Int)
  · rw [if_pos c2] at H
    have c2b0 := eq_true c2
    have c2b1 : decide (0 ≤ (l0.length : Int)) = true := decide_eq_true c2
    clear c2
    by_cases c3 : ((l0.length : Int) : Int).toNat ≤ 11728124029610
    · rw [if_pos c3] at H
      have c3b0 := eq_true c3
      have c3b1 : decide (((l0.length : Int) : Int).toNat ≤ 11728124029610) = true := decide_eq_true c3
      clear c3
      obtain ⟨aT, hy189⟩ : ∃ y_ : List (List Int), y_ = (List.replicate ((l0.length : Int) : Int).toNat []) := ⟨_, rfl⟩
      replace H : (laws_toIntSS.l0 k l0 aT 0) = some r := by first | (rw [hy189]; with_reducible exact H) | (have H2_ := (Option.bind_some _ _).symm.trans H; rw [hy189]; with_reducible exact H2_) | (have H2_ := (Option.bind_some _ _).symm.trans H; with_reducible exact H2_) | with_reducible exact H | (rw [hy189]; exact H) | exact H
      have aN := am_ hy189
      clear hy189
      have H' := am_ H
      clear H
      go_enter Try.func30, Try.ntmps30
      go_wp2_with (first | ((with_reducible refine gate_dst (N := 7) rfl ?_); refine Kd.S_make (Kd.slice 3 (Kd.int .i64)) _ 43 rfl (N := 7) rfl 23 _ _ rfl (l0.length : Int) rfl rfl Try.underlying23 (.slice none 0 0) 24 info43 rfl (by decide) (by omega) [] (ok := fun _ => True) (okp := fun _ => True) ⟨_, rfl, Kd.R_nil _ _ _ _ _⟩ (fun _ hk => hk) trivial (of_decide_eq_true ah_) (Nat.le_trans (Nat.mul_le_mul_right _ (of_decide_eq_true ah_ : (l0.length : Int).toNat ≤ 11728124029610)) (by omega)) (Below.refl _ _) (Nat.le_refl _) ?_; intro bm w4 ho5 hb hg_ hnew_; clear hg_ hnew_; (first | rw [← aN.out] at ho5 | (simp only [Int.reduceToNat] at ho5; rw [← aN.out] at ho5)); replace be := am_ (Kd.S_lower ho5 (below_size (b0_ HB.out))); replace HB := am_ (below_step (b0_ HB.out) hb); clear hb ho5))
      go_loopg [4] k (fun kq v4 w' => ∃ (ae : List (List Int)) (aa : Int), v4 = .int .i64 aa ∧ Aside0 (laws_toIntSS.l0 kq l0 ae aa = some r) ∧ Aside0 (kq ≤ k) ∧ Aside0 (Kd.S (Kd.slice 3 (Kd.int .i64)) 43 w' w.heap.size (fun _ => True) bm ae) ∧ Aside0 (Below w.heap.size w w'))
      case atStart => exact ⟨(aT), (0), (by first | rfl | (simp; done) | (simp [*]; done)), H', ⟨Nat.le_refl _⟩, ⟨by refine rs_ ?_; exact be.out⟩, ⟨by exact zp7_0_ HB.out⟩⟩
      case round =>
        clear H'
        try clear c2
        try clear c2b0
        try clear c2b1
        try clear p2
        try clear c3
        try clear c3b0
        try clear c3b1
        obtain ⟨ae, aa, rfl, HA, HK1, ab, HB⟩ := hrel
        cases gk with
        | zero => exact absurd HA.out (by simp [laws_toIntSS.l0])
        | succ k1 =>
          have H := HA.out
          clear HA
          simp only [laws_toIntSS.l0] at H
          by_cases c6 : aa < (l0.length : Int)
          · rw [if_pos c6] at H
            have c6b0 : decide (aa < (l0.length : Int)) = true := decide_eq_true c6
            clear c6
            by_cases c7 : 0 ≤ aa
            · rw [if_pos c7] at H
              have c7b0 : decide (0 ≤ aa) = true := decide_eq_true c7
              clear c7
              replace H := Option.bind_eq_some_iff.mp H
              obtain ⟨aA, A80, H⟩ := H
              have A8 := am_ A80
              clear A80
              by_cases c9 : aa < (ae.length : Int)
              · rw [if_pos c9] at H
                have c9b0 : decide (aa < (ae.length : Int)) = true := decide_eq_true c9
                clear c9
                obtain ⟨aK, hy196⟩ : ∃ y_ : List (List Int), y_ = (ae.set (aa : Int).toNat aA) := ⟨_, rfl⟩
                replace H : (laws_toIntSS.l0 k1 l0 aK (wrap64 (aa + 1))) = some r := by first | (rw [hy196]; with_reducible exact H) | (have H2_ := (Option.bind_some _ _).symm.trans H; rw [hy196]; with_reducible exact H2_) | (have H2_ := (Option.bind_some _ _).symm.trans H; with_reducible exact H2_) | with_reducible exact H | (rw [hy196]; exact H) | exact H
                have bf := am_ hy196
                clear hy196
                have H' := am_ H
                clear H
                have p192 : 0 ≤ (aa : Int) := of_decide_eq_true ah_
                have q192 : aa < (l0.length : Int) := of_decide_eq_true ah_
                obtain ⟨bM, A192_0, c192_0, e192, ax, hl192_0, hi192_0⟩ := at_L1 HR0.out aa p192 q192
                cases e192
                replace ax := (HB.out.cell (World.block_lt_of_cell? w _ ax)).trans ax
                have aP := am_ hi192_0
                have aQ := am_ hl192_0
                clear hi192_0 hl192_0
                replace p192 := eq_true p192
                replace q192 := eq_true q192
                go_wp2_with (first | ((with_reducible refine gate_callee (f := 48) rfl ?_); refine gL_ (some 20) Try.func48 #[.slice A192_0 (rd_L1 l0 aa).length c192_0] ?_; (with_reducible refine (laws_toIntS.calls k1 _ _ (rd_L1 l0 aa) aA _ ?side1 ?side2 A8.out).mono ?_); (case side1 => exact rc_ (Kd.C_below aP.out HB.out)); (case side2 => exact aQ.out); rintro e w11 ⟨aD, rfl, ho0, hb⟩; refine ⟨_, rfl, ?_⟩; have n0_ := am_ (Kd.S_elder' (rs_ ab.out) (Kd.R_base ho0) hb); have n1_ := am_ (Kd.R_lower ho0 (below_size (b0_ HB.out))); have n2_ := am_ (below_step (b0_ HB.out) hb); clear ab; clear HB; have ab := n0_; have az := n1_; have HB := n2_; clear n0_ n1_ n2_; (try clear hb); (try clear hb2); (try clear hk); (try clear hi); (try clear ho0); have p10 : 0 ≤ (aa : Int) := of_decide_eq_true ah_; have q10 : (aa : Int) < ((ae.length : Int) : Int) := of_decide_eq_true ah_; obtain ⟨go10, aU, aV, aW, gl10, cl10, HG10⟩ := Kd.S_form ab.out (by omega); (first | cases aV | (injection aV with ea_ en_ ec_; (first | subst ea_ | (injection ea_ with ea_; subst ea_)); subst ec_; clear en_)); have GB10 := am_ aW; have GG10 := am_ HG10; clear aW gl10 HG10; obtain ⟨_, ce10, hcl10, hM10, hcc10, hfr10, _, _⟩ := Kd.S_elem ab.out [] (aa : Int) p10 q10; obtain ⟨ve10_0, rfl, ge10_0⟩ := hM10; have aX := hcc10 0 _ rfl; have hf10_0 := hfr10 0; (try simp only [show ((Kd.slice 3 (Kd.int .i64))).sz = 1 from rfl, Nat.mul_one, Nat.add_zero] at aX); (try simp only [show ((Kd.slice 3 (Kd.int .i64))).sz = 1 from rfl, Nat.mul_one, Nat.add_zero] at hf10_0); (try clear hcl10); (try clear hcc10); (try clear hfr10); (try clear hM10); replace p10 := eq_true p10; replace q10 := eq_true q10; have n_ := am_ (Kd.S_mono (ok' := (fun k_ => some k_ ≠ (aD : Value).ownBlock)) ab.out (fun k_ hk => hk.2)); clear ab; have ab := n_; clear n_; have HX12 := am_ (show Kd.S (Kd.slice 3 (Kd.int .i64)) 43 w11 w.heap.size (fun k_ => ((fun _ => True)) k_ ∧ ¬ ((fun k_ => some k_ = (aD : Value).ownBlock)) k_) (.slice (some ⟨go10, 0, none⟩) ae.length aU) ae from (by refine rs_ ?_; exact Kd.S_mono ab.out (fun k_ hk => ⟨trivial, fun e_ => hk e_⟩))); obtain ⟨oki12, ce12, hcl12, hM12, hcc12, hfr12, hoki12, hH12⟩ := Kd.S_elem HX12.out [] (aa : Int) (of_decide_eq_true ah_) (by have h_ : (aa : Int) < ((ae.length : Int) : Int) := of_decide_eq_true ah_; first | exact h_ | (have e_ := (Kd.S_reads' ab.out).1; omega) | simpa using h_); obtain ⟨ve12_0, rfl, ge12_0⟩ := hM12; have HP12 := Kd.S_seg hH12 (of_decide_eq_true ah_) (by have h_ : (aa : Int) < ((ae.length : Int) : Int) := of_decide_eq_true ah_; first | exact h_ | (have e_ := (Kd.S_reads' ab.out).1; omega) | simpa using h_) (seg := [aD]) (j := 0) (show 1 ≤ 1 from by decide) (x' := aA) (Kd.M_row (Kd.R_mono (Kd.R_tight rfl (Kd.R_mono (ok' := fun k_ => ((fun _ => True)) k_ ∧ k_ ≠ go10) (Kd.R_apart' (az.out) (Kd.S_typed ab.out) (by decide)) (fun k_ hk => ⟨trivial, fun e_ => (hk.2) (by rw [e_]; rfl)⟩))) (fun _ h_ => Or.inr (h_)))) (fun _ hk => hk) (fun k_ hk_ => ((Kd.R_mono (ok' := fun k_ => ((fun _ => True)) k_ ∧ k_ ≠ go10) (Kd.R_apart' (az.out) (Kd.S_typed ab.out) (by decide)) (fun k_ hk => ⟨trivial, fun e_ => (hk.2) (by rw [e_]; rfl)⟩))).1 k_ hk_.symm); have aY := hcc12 0 _ rfl; (try simp only [show ((Kd.slice 3 (Kd.int .i64))).sz = 1 from rfl, Nat.mul_one, Nat.add_zero] at aY); have hf12_0 := hfr12 0; (try simp only [show ((Kd.slice 3 (Kd.int .i64))).sz = 1 from rfl, Nat.mul_one, Nat.add_zero] at hf12_0); (try clear hcl12); (try clear hcc12); (try clear hfr12); (try clear hM12); (try clear hoki12); (try clear hH12); (try simp only [show ((Kd.slice 3 (Kd.int .i64))).sz = 1 from rfl, Nat.mul_one, Nat.add_zero] at HP12)) | ((with_reducible refine gate_store (t := 43) (p := 21) rfl ?_); refine store_event (t := 43) (p := 21) (v := ?vo_w13) (w1 := (w11.setCell ⟨go10, (aa : Int).toNat, none⟩ (aD))) ?hg ?ho ?hn ?hr ?_; (case ho => rfl); (case hg => rfl); (case hn => rfl); (case hr => first | (go_simp; done) | (go_simp; rfl) | (obtain ⟨A_, c_, hv_, _⟩ := Kd.R_reads az.out; rw [hv_]; first | (go_simp; done) | (go_simp; rfl))); intro w13 hw; have hg : w11.grownBy w13 (some go10) := (by rw [hw]; exact HP12.2); have hp_ : Kd.S (Kd.slice 3 (Kd.int .i64)) 43 w13 w.heap.size (fun _ => True) (.slice (some ⟨go10, 0, none⟩) ae.length aU) aK := (by rw [hw, bf.out]; exact HP12.1); clear HP12; have n0_ := am_ (hp_); have n1_ := am_ ((by rw [hw]; exact below_set (HB.out) GB10.out : Below w.heap.size w w13)); clear ab; clear HB; clear az; have ab := n0_; have HB := n1_; clear n0_ n1_; clear hg hw hp_))
                go_roundg k1
                case measure => have := HK1.out; omega
                case rel => exact ⟨(aK), (wrap64 (aa + 1)), (by first | rfl | (simp; done) | (simp [*]; done)), H', ⟨by have := HK1.out; omega⟩, ⟨by refine rs_ ?_; exact ab.out⟩, ⟨by exact zp7_0_ HB.out⟩⟩
              · rw [if_neg c9] at H
                exact absurd H (by simp)
            · rw [if_neg c7] at H
              exact absurd H (by simp)
          · rw [if_neg c6] at H
            have c6b0 : decide (aa < (l0.length : Int)) = false := decide_eq_false c6
            clear c6
            obtain rfl := Option.some.inj H
            simp only [Option.some.injEq, Prod.mk.injEq] at H
            obtain ⟨rfl⟩ := H
            go_wp2
            go_ret
            exact ⟨_, by first | rfl | (simp [errW_none, errW_some] <;> rfl) | (simp [*, errW_none, errW_some] <;> rfl), by refine rs_ ?_; exact ab.out, by exact zp7_0_ HB.out⟩
    · rw [if_neg c3] at H
      exact absurd H (by simp)
  · rw [if_neg c2] at H
    exact absurd H (by simp)
def laws_toDfa.f (k : Nat) (l0_0 : List Bool) (l0_1 : List (List Int)) : Option (List Bool × (List (List Int))) := (laws_toBoolS.f k l0_0).bind fun aj => ((laws_toIntSS.f k l0_1).bind fun ak => (some (aj, ak)))
theorem laws_toDfa.mono : ∀ a0 a1 k, LeO (laws_toDfa.f k a0 a1) (laws_toDfa.f (k + 1) a0 a1) := by
  intro a0 a1 k
  unfold laws_toDfa.f
  repeat' first
      | (with_reducible exact laws_toBoolS.mono _ _)
      | (with_reducible exact laws_toIntSS.mono _ _)
      | (with_reducible exact LeO.refl _)
      | (with_reducible exact LeO.none _)
      | (with_reducible refine LeO.ite ?_ ?_)
      | (with_reducible refine LeO.bind ?_ (fun _ => ?_))
      | exact laws_toBoolS.mono _ _
      | exact laws_toIntSS.mono _ _
      | exact LeO.none _
      | refine LeO.ite ?_ ?_
      | refine LeO.bind ?_ (fun _ => ?_)
set_option maxHeartbeats 8000000 in
set_option maxRecDepth 100000 in
theorem laws_toDfa.calls (k : Nat) (A0_0 : Option Addr) (c0_0 : Nat) (l0_0 : List Bool) (A0_1 : Option Addr) (c0_1 : Nat) (l0_1 : List (List Int)) (r1 : List Bool) (r2 : List (List Int)) (w : World) (hr0_0 : Kd.C Kd.bool w A0_0 l0_0.length l0_0) (hc0_0 : l0_0.length ≤ c0_0) (hr0_1 : Kd.C (Kd.slice 3 (Kd.int .i64)) w A0_1 l0_1.length l0_1) (hc0_1 : l0_1.length ≤ c0_1) (h : laws_toDfa.f k l0_0 l0_1 = some (r1, r2)) :
    Calls Try.prog 8 #[.agg #[.slice A0_0 l0_0.length c0_0, .slice A0_1 l0_1.length c0_1]] w fun e w' => ∃ v0_ v1_ : Value, e = .returned (.agg #[v0_, v1_]) ∧ Kd.R Kd.bool 4 w' w.heap.size (fun _ => True) v0_ r1 ∧ Kd.S (Kd.slice 3 (Kd.int .i64)) 43 w' w.heap.size (fun _ => True) v1_ r2 ∧ Below w.heap.size w w' := by
  have hu25 := Try.underlying25
  have hu28 := Try.underlying28
  have bg := am_ hr0_0
  have bh := am_ hc0_0
  clear hr0_0 hc0_0
  have bi := am_ hr0_1
  have bj := am_ hc0_1
  clear hr0_1 hc0_1
  have HB := am_ (Below.refl w.heap.size w)
  have H : ((laws_toBoolS.f k l0_0).bind fun aj => ((laws_toIntSS.f k l0_1).bind fun ak => (some (aj, ak)))) = some (r1, r2) := h
  clear h
  replace H := Option.bind_eq_some_iff.mp H
  obtain ⟨aj, A20, H⟩ := H
  replace H : ((laws_toIntSS.f k l0_1).bind fun ak => (some (aj, ak))) = some (r1, r2) := H
  have A2 := am_ A20
  clear A20
  replace H := Option.bind_eq_some_iff.mp H
  obtain ⟨ak, A30, H⟩ := H
  replace H : (some (aj, ak)) = some (r1, r2) := H
  have A3 := am_ A30
  clear A30
  simp only [Option.some.injEq, Prod.mk.injEq] at H
  obtain ⟨rfl, rfl⟩ := H
  go_enter Try.func8, Try.ntmps8
  go_wp2_with (first | ((with_reducible refine gate_dst (N := 1) rfl ?_); refine box_event ?hg (N := 1) ?hd (cs := #[.slice A0_0 l0_0.length c0_0, .slice A0_1 l0_1.length c0_1]) (t := 25) ?hr ?_; (case hd => rfl); (case hg => rfl); (case hr => first | (go_simp; done) | (go_simp; rfl)); intro an hg w4 hbox hb; replace ad := am_ (hbox); replace bN := am_ ((by rw [hg]; exact (below_size (b0_ HB.out)) : w.heap.size ≤ an)); replace ah := am_ ((by rw [hg]; exact (below_size (b0_ HB.out)) : w.heap.size ≤ an)); replace HB := am_ (below_step (b0_ HB.out) hb); clear hb hbox hg) | ((with_reducible refine gate_dst (N := 2) rfl ?_); refine box_event ?hg (N := 2) ?hd (cs := #[.slice none 0 0, .slice none 0 0]) (t := 28) ?hr ?_; (case hd => rfl); (case hg => rfl); (case hr => first | (go_simp; done) | (go_simp; rfl)); intro ai hg w5 hbox hb; have n0_ := am_ (blk_below (rb_ ad.out) hb); have n1_ := am_ (below_step (b1_ HB.out ah.out) hb); have n2_ := am_ (hbox); have n3_ := am_ ((by rw [hg]; exact (below_size (b1_ HB.out ah.out)) : w.heap.size ≤ ai)); have n4_ := am_ ((by rw [hg]; exact (below_size (b1_ HB.out ah.out)) : w.heap.size ≤ ai)); have n5_ := am_ ((by rw [hg]; exact Nat.ne_of_lt (blk_lt (rb_ ad.out)) : an ≠ ai)); have n6_ := am_ ((by rw [hg]; exact Nat.ne_of_gt (blk_lt (rb_ ad.out)) : ai ≠ an)); clear ad; clear HB; have ad := n0_; have HB := n1_; have af := n2_; have bO := n3_; have am := n4_; have aE := n5_; have aF := n6_; clear n0_ n1_ n2_ n3_ n4_ n5_ n6_; clear hb hbox hg) | ((with_reducible refine gate_dst (N := 3) rfl ?_); refine box_event ?hg (N := 3) ?hd (cs := #[.slice none 0 0, .slice none 0 0]) (t := 28) ?hr ?_; (case hd => rfl); (case hg => rfl); (case hr => first | (go_simp; done) | (go_simp; rfl)); intro al hg w6 hbox hb; have n0_ := am_ (blk_below (rb_ ad.out) hb); have n1_ := am_ (blk_below (rb_ af.out) hb); have n2_ := am_ (below_step (b2_ HB.out ah.out am.out) hb); have n3_ := am_ (hbox); have n4_ := am_ ((by rw [hg]; exact (below_size (b2_ HB.out ah.out am.out)) : w.heap.size ≤ al)); have n5_ := am_ ((by rw [hg]; exact (below_size (b2_ HB.out ah.out am.out)) : w.heap.size ≤ al)); have n6_ := am_ ((by rw [hg]; exact Nat.ne_of_lt (blk_lt (rb_ ad.out)) : an ≠ al)); have n7_ := am_ ((by rw [hg]; exact Nat.ne_of_gt (blk_lt (rb_ ad.out)) : al ≠ an)); have n8_ := am_ ((by rw [hg]; exact Nat.ne_of_lt (blk_lt (rb_ af.out)) : ai ≠ al)); have n9_ := am_ ((by rw [hg]; exact Nat.ne_of_gt (blk_lt (rb_ af.out)) : al ≠ ai)); clear ad; clear af; clear HB; have ad := n0_; have af := n1_; have HB := n2_; have ag := n3_; have bP := n4_; have ap := n5_; have ay := n6_; have aG := n7_; have ao := n8_; have aH := n9_; clear n0_ n1_ n2_ n3_ n4_ n5_ n6_ n7_ n8_ n9_; clear hb hbox hg; have bS := aE.out; have bT := aF.out; have bU := ay.out; have bV := aG.out; have bG := ck_ (v := (.slice A0_0 l0_0.length c0_0)) ad 0 rfl; have bH := ck_ (v := (.slice A0_1 l0_1.length c0_1)) ad 1 rfl; have bI := blk_frozen ad.out 0; have bJ := blk_frozen ad.out 1) | ((with_reducible refine gate_callee (f := 29) rfl ?_); refine gL_ (some 6) Try.func29 #[.slice A0_0 l0_0.length c0_0] ?_; (with_reducible refine (laws_toBoolS.calls k _ _ l0_0 aj _ ?side1 ?side2 A2.out).mono ?_); (case side1 => exact rc_ (Kd.C_below bg.out HB.out)); (case side2 => exact bh.out); rintro e w10 ⟨bW, rfl, ho0, hb⟩; refine ⟨_, rfl, ?_⟩; have n0_ := am_ (Kd.R_lower ho0 (below_size (b3_ HB.out ah.out am.out ap.out))); have n1_ := am_ (blk_below (rb_ ad.out) hb); have n2_ := am_ (blk_below (rb_ af.out) hb); have n3_ := am_ (blk_below (rb_ ag.out) hb); have n4_ := am_ (below_step (b3_ HB.out ah.out am.out ap.out) hb); clear ad; clear af; clear ag; clear HB; have au := n0_; have ad := n1_; have af := n2_; have ag := n3_; have HB := n4_; clear n0_ n1_ n2_ n3_ n4_; (try clear hb); (try clear hb2); (try clear hk); (try clear hi); (try clear ho0); obtain ⟨aq, ar, bn⟩ := Kd.R_slice au.out; subst bn; have bQ := aH.out; have bR := ao.out; have bp := ck_ (v := (.slice none 0 0)) ag 0 rfl; have bq := ck_ (v := (.slice none 0 0)) ag 1 rfl; have br := blk_frozen ag.out 0; have bs := blk_frozen ag.out 1; have bt := ck_ (v := (.slice A0_0 l0_0.length c0_0)) ad 0 rfl; have bu := ck_ (v := (.slice A0_1 l0_1.length c0_1)) ad 1 rfl; have bv := blk_frozen ad.out 0; have bw := blk_frozen ad.out 1) | ((with_reducible refine gate_callee (f := 30) rfl ?_); refine gL_ (some 10) Try.func30 #[.slice A0_1 l0_1.length c0_1] ?_; (with_reducible refine (laws_toIntSS.calls k _ _ l0_1 ak _ ?side1 ?side2 A3.out).mono ?_); (case side1 => exact Kd.C_below bi.out (b3_ HB.out ah.out am.out ap.out)); (case side2 => exact bj.out); rintro e w15 ⟨bX, rfl, ho0, hb⟩; refine ⟨_, rfl, ?_⟩; have n0_ := am_ (Kd.R_below (rr_ (Kd.R_mono (Kd.R_far (p := ⟨al, 0, none⟩) (Kd.R_types au.out ag.out (by decide)) (fun _ hk => hk.2) (.slice aq aj.length ar)) (fun _ h_ => h_.1))) hb); have n1_ := am_ (Kd.S_lower ho0 (below_size (b3_ HB.out ah.out am.out ap.out))); have n2_ := am_ (blk_below (g := an) (o := .cells #[.slice A0_0 l0_0.length c0_0, .slice A0_1 l0_1.length c0_1] 25 (0, 0)) (by refine rb_ ?_; refine blk_far ?_ ay.out _; refine rb_ ?_; exact ad.out) hb); have n3_ := am_ (blk_below (g := ai) (o := .cells #[.slice none 0 0, .slice none 0 0] 28 (0, 0)) (by refine rb_ ?_; refine blk_far ?_ ao.out _; refine rb_ ?_; exact af.out) hb); have n4_ := am_ (blk_below (g := al) (o := .cells #[.slice aq aj.length ar, .slice none 0 0] 28 (0, 0)) (by refine rb_ ?_; refine blk_put (cs := #[.slice none 0 0, .slice none 0 0]) ?_ 0 _ rfl; refine rb_ ?_; exact ag.out) hb); have n5_ := am_ (below_step (b3_ HB.out ah.out am.out ap.out) hb); clear au; clear ad; clear af; clear ag; clear HB; have au := n0_; have aO := n1_; have ad := n2_; have af := n3_; have ag := n4_; have HB := n5_; clear n0_ n1_ n2_ n3_ n4_ n5_; (try clear hb); (try clear hb2); (try clear hk); (try clear hi); (try clear ho0); obtain ⟨aB, aC, bo⟩ := Kd.S_slice aO.out; subst bo; have bx := ck_ (v := (.slice aq aj.length ar)) ag 0 rfl; have bz := ck_ (v := (.slice none 0 0)) ag 1 rfl; have bA := blk_frozen ag.out 0; have bB := blk_frozen ag.out 1; have bC := ck_ (v := (.slice none 0 0)) af 0 rfl; have bD := ck_ (v := (.slice none 0 0)) af 1 rfl; have bE := blk_frozen af.out 0; have bF := blk_frozen af.out 1))
  refine bodyPost_ret (results_cell_row rfl _ _ ai 28 #[.slice aq aj.length ar, .slice aB ak.length aC] (0, 0) _ rfl (by refine rb_ ?_; refine blk_put (cs := #[.slice aq aj.length ar, .slice none 0 0]) ?_ 1 _ rfl; refine rb_ ?_; refine blk_put (cs := #[.slice none 0 0, .slice none 0 0]) ?_ 0 _ rfl; refine rb_ ?_; refine blk_far ?_ ao.out _; refine rb_ ?_; exact af.out) Try.underlying28 rfl (by kernel_rfl)) rfl ?_
  exact ⟨_, _, by first | rfl | (simp [errW_none, errW_some] <;> rfl) | (simp [*, errW_none, errW_some] <;> rfl), by refine rr_ ?_; exact Kd.R_mono (Kd.R_far (p := ⟨ai, 1, none⟩) (Kd.R_far (p := ⟨ai, 0, none⟩) (Kd.R_far (p := ⟨al, 1, none⟩) (Kd.R_types (Kd.R_types au.out ag.out (by decide)) af.out (by decide)) (fun _ hk => hk.1.2) (.slice aB ak.length aC)) (fun _ hk => hk.2) (.slice aq aj.length ar)) (fun _ hk => hk.2) (.slice aB ak.length aC)) (fun _ hk => trivial), by refine rs_ ?_; exact Kd.S_mono (Kd.S_far (p := ⟨ai, 1, none⟩) (Kd.S_far (p := ⟨ai, 0, none⟩) (Kd.S_far (p := ⟨al, 1, none⟩) (Kd.S_types (Kd.S_types aO.out ag.out (by decide)) af.out (by decide)) (fun _ hk => hk.1.2) (.slice aB ak.length aC)) (fun _ hk => hk.2) (.slice aq aj.length ar)) (fun _ hk => hk.2) (.slice aB ak.length aC)) (fun _ hk => trivial), by repeat (first | (with_reducible first | exact HB.out | apply below_alloc | apply pw_below_drewN | apply below_drew1 | refine below_set ?_ ah.out | refine below_set ?_ am.out | refine below_set ?_ ap.out) | exact HB.out)⟩
def impl_within.f (a0 : Int) (a1 : Int) (a2 : Int) : Option (Bool) := if a0 ≥ a1 then (some (decide (a0 ≤ a2))) else (some false)
set_option maxHeartbeats 8000000 in
set_option maxRecDepth 100000 in
theorem impl_within.calls (a0 : Int) (a1 : Int) (a2 : Int) (r : Bool) (w : World) (h : impl_within.f a0 a1 a2 = some r) :
    Calls Try.prog 49 #[.int .i64 a0, .int .i64 a1, .int .i64 a2] w fun e w' => e = .returned (.bool r) ∧ Drawn0 w w' := by
  have H : (if a0 ≥ a1 then (some (decide (a0 ≤ a2))) else (some false)) = some r := h
  clear h
  by_cases c4 : a0 ≥ a1
  · rw [if_pos c4] at H
    have c4b0 : decide (a1 ≤ a0) = true := decide_eq_true c4
    clear c4
    obtain rfl := Option.some.inj H
    simp only [Option.some.injEq, Prod.mk.injEq] at H
    obtain ⟨rfl⟩ := H
    go_enter Try.func49, Try.ntmps49
    go_wp2
    go_ret
    exact ⟨by first | rfl | (simp; done) | (simp [*]; done), by repeat (first | exact Drawn0.refl _ | apply Drawn0.step)⟩
  · rw [if_neg c4] at H
    have c4b0 : decide (a1 ≤ a0) = false := decide_eq_false c4
    clear c4
    obtain rfl := Option.some.inj H
    simp only [Option.some.injEq, Prod.mk.injEq] at H
    obtain ⟨rfl⟩ := H
    go_enter Try.func49, Try.ntmps49
    go_wp2
    go_ret
    exact ⟨by first | rfl | (simp; done) | (simp [*]; done), by repeat (first | exact Drawn0.refl _ | apply Drawn0.step)⟩
end Go.Proofs.Ytpgdhpnmagmooaa.P
end
section
namespace Go.Proofs.Ytpgdhpnmagmooaa.Wk
open Go.RowKit Go.Shelf Go.Proofs.Ytpgdhpnmagmooaa.P Go.Proofs.YtpgdhpnmagmooaaW.PrintWords Go.Proofs.YtpgdhpnmagmooaaW.PrintLast Go.Proofs.YtpgdhpnmagmooaaW.PrintMore
set_option linter.unusedVariables false
set_option linter.unusedSimpArgs false
def Hit (p : Nat → Bool) (n : Nat) (r : Int) : Prop := decide (0 ≤ r) = (List.range n).any p
def Told (P : Int → Prop) (w : World) (e : Ending) (w' : World) : Prop := ∃ r : Int, e = .returned (.int .i64 r) ∧ P r ∧ Below w.heap.size w w'
theorem hit_at {p : Nat → Bool} {n k : Nat} (h : k < n) (hp : p k = true) : Hit p n (k : Int) := by
  unfold Hit
  rw [decide_eq_true (by omega), eq_comm, List.any_eq_true]
  exact ⟨k, List.mem_range.mpr h, hp⟩
theorem hit_none {p : Nat → Bool} {n : Nat} (h : ∀ j, j < n → p j = false) : Hit p n (-1) := by
  unfold Hit
  rw [decide_eq_false (by omega), eq_comm, List.any_eq_false]
  intro x hx
  rw [h x (List.mem_range.mp hx)]
  simp
set_option maxHeartbeats 2000000 in
theorem indexRows {vals : Nat → Value} {p : Nat → Bool} (A : Option Addr) (n c g : Nat) (lb : Array Value) (eg : ∀ args w, (callFunc g args).run Try.prog w = .ok (.enter g args) w) (w : World) (hn : n ≤ 9223372036854775807)
    (hc : 0 < n → ∃ ad : Addr, A = some ad ∧ ∀ j, j < n → w.cell? (ad.add j) = some (vals j))
    (hp : ∀ j, j < n → ∀ W, Below w.heap.size w W → Calls Try.prog g (#[vals j] ++ lb) W fun e W' => e = .returned (.bool (p j)) ∧ Below W.heap.size W W') :
    Calls Try.prog 61 #[.slice A n c, .func (.func g) #[] lb] w (Told (Hit p n) w) := by
  rcases Nat.eq_zero_or_pos n with h0 | h0
  · subst h0
    clear hc hp
    go_enter Try.func61, Try.ntmps61
    go_wp2
    go_loopg [5, 8] 0 (fun _ _ s8 wr => s8 = .int .i64 0 ∧ wr = w)
    case atStart => exact ⟨rfl, rfl⟩
    case round =>
      obtain ⟨rfl, rfl⟩ := hrel
      go_wp2
      go_ret
      exact ⟨-1, rfl, hit_none (fun j hj => by omega), Below.refl _ _⟩
  · obtain ⟨ad, rfl, hcc⟩ := hc h0
    clear hc
    have HC := am_ hcc
    clear hcc
    have HP := am_ hp
    clear hp
    go_enter Try.func61, Try.ntmps61
    go_wp2
    go_loopg [5, 8] n (fun gg _ s8 wr => ∃ kk : Nat, s8 = .int .i64 kk ∧ Aside0 (kk ≤ n) ∧ Aside0 (n - kk ≤ gg) ∧ Aside0 (Below w.heap.size w wr) ∧ Aside0 (∀ j, j < kk → p j = false))
    case atStart => exact ⟨0, rfl, ⟨Nat.zero_le _⟩, ⟨by omega⟩, ⟨Below.refl _ _⟩, ⟨fun j hj => absurd hj (Nat.not_lt_zero _)⟩⟩
    case round =>
      obtain ⟨kk, rfl, HK, HG, HB, HQ⟩ := hrel
      by_cases hlt : kk < n
      · have hltz : (kk : Int) < (n : Int) := by omega
        have hcell : wr.cell? (ad.add kk) = some (vals kk) := pw_cell_below HB.out (HC.out kk hlt)
        have hcall := am_ (HP.out kk hlt)
        generalize hy : vals kk = y at hcell hcall
        clear hy
        cases hq : p kk with
        | true =>
          rw [hq] at hcall
          have HQ1 := am_ hq
          clear hq
          go_wp2_with (go_at_fn g; refine (hcall.out _ (by exact HB.out)).mono ?_; rintro e w' ⟨rfl, hb⟩; have HB2 := am_ hb; clear hb)
          go_ret
          exact ⟨kk, rfl, hit_at hlt HQ1.out, below_then HB.out HB.out.size HB2.out⟩
        | false =>
          rw [hq] at hcall
          have HQ1 := am_ hq
          clear hq
          go_wp2_with (go_at_fn g; refine (hcall.out _ (by exact HB.out)).mono ?_; rintro e w' ⟨rfl, hb⟩; have HB2 := am_ hb; clear hb)
          go_roundg (n - (kk + 1))
          case measure => have := HG.out; omega
          case rel =>
            refine ⟨kk + 1, by go_num, ⟨by omega⟩, ⟨by omega⟩, ⟨below_then HB.out HB.out.size HB2.out⟩, ⟨fun j hj => ?_⟩⟩
            by_cases e : j = kk
            · subst e; exact HQ1.out
            · exact HQ.out j (by omega)
      · have hltz : ¬ (kk : Int) < (n : Int) := by omega
        have e : kk = n := by have := HK.out; omega
        subst e
        go_wp2
        go_ret
        exact ⟨-1, rfl, hit_none HQ.out, HB.out⟩
set_option maxHeartbeats 2000000 in
theorem containsRows {vals : Nat → Value} {p : Nat → Bool} (A : Option Addr) (n c g : Nat) (lb : Array Value) (eg : ∀ args w, (callFunc g args).run Try.prog w = .ok (.enter g args) w) (w : World) (hn : n ≤ 9223372036854775807)
    (hc : 0 < n → ∃ ad : Addr, A = some ad ∧ ∀ j, j < n → w.cell? (ad.add j) = some (vals j))
    (hp : ∀ j, j < n → ∀ W, Below w.heap.size w W → Calls Try.prog g (#[vals j] ++ lb) W fun e W' => e = .returned (.bool (p j)) ∧ Below W.heap.size W W') :
    Calls Try.prog 50 #[.slice A n c, .func (.func g) #[] lb] w fun e w' => e = .returned (.bool ((List.range n).any p)) ∧ Below w.heap.size w w' := by
  have h := indexRows A n c g lb eg w hn hc hp
  clear hc hp eg
  have HC := am_ h
  clear h
  go_enter Try.func50, Try.ntmps50
  go_wp2_with (go_at_call 61; refine HC.out.mono ?_; rintro e w' ⟨r, rfl, hr, hb⟩; have HR := am_ hr; clear hr; have HB := am_ hb; clear hb)
  go_ret
  have e := HR.out
  unfold Hit at e
  rw [← e]
  exact ⟨rfl, HB.out⟩
set_option maxHeartbeats 2000000 in
theorem indexNums {vals : Nat → Value} {p : Nat → Bool} (A : Option Addr) (n c g : Nat) (lb : Array Value) (eg : ∀ args w, (callFunc g args).run Try.prog w = .ok (.enter g args) w) (w : World) (hn : n ≤ 9223372036854775807)
    (hc : 0 < n → ∃ ad : Addr, A = some ad ∧ ∀ j, j < n → w.cell? (ad.add j) = some (vals j))
    (hp : ∀ j, j < n → ∀ W, Below w.heap.size w W → Calls Try.prog g (#[vals j] ++ lb) W fun e W' => e = .returned (.bool (p j)) ∧ Below W.heap.size W W') :
    Calls Try.prog 62 #[.slice A n c, .func (.func g) #[] lb] w (Told (Hit p n) w) := by
  rcases Nat.eq_zero_or_pos n with h0 | h0
  · subst h0
    clear hc hp
    go_enter Try.func62, Try.ntmps62
    go_wp2
    go_loopg [5, 8] 0 (fun _ _ s8 wr => s8 = .int .i64 0 ∧ wr = w)
    case atStart => exact ⟨rfl, rfl⟩
    case round =>
      obtain ⟨rfl, rfl⟩ := hrel
      go_wp2
      go_ret
      exact ⟨-1, rfl, hit_none (fun j hj => by omega), Below.refl _ _⟩
  · obtain ⟨ad, rfl, hcc⟩ := hc h0
    clear hc
    have HC := am_ hcc
    clear hcc
    have HP := am_ hp
    clear hp
    go_enter Try.func62, Try.ntmps62
    go_wp2
    go_loopg [5, 8] n (fun gg _ s8 wr => ∃ kk : Nat, s8 = .int .i64 kk ∧ Aside0 (kk ≤ n) ∧ Aside0 (n - kk ≤ gg) ∧ Aside0 (Below w.heap.size w wr) ∧ Aside0 (∀ j, j < kk → p j = false))
    case atStart => exact ⟨0, rfl, ⟨Nat.zero_le _⟩, ⟨by omega⟩, ⟨Below.refl _ _⟩, ⟨fun j hj => absurd hj (Nat.not_lt_zero _)⟩⟩
    case round =>
      obtain ⟨kk, rfl, HK, HG, HB, HQ⟩ := hrel
      by_cases hlt : kk < n
      · have hltz : (kk : Int) < (n : Int) := by omega
        have hcell : wr.cell? (ad.add kk) = some (vals kk) := pw_cell_below HB.out (HC.out kk hlt)
        have hcall := am_ (HP.out kk hlt)
        generalize hy : vals kk = y at hcell hcall
        clear hy
        cases hq : p kk with
        | true =>
          rw [hq] at hcall
          have HQ1 := am_ hq
          clear hq
          go_wp2_with (go_at_fn g; refine (hcall.out _ (by exact HB.out)).mono ?_; rintro e w' ⟨rfl, hb⟩; have HB2 := am_ hb; clear hb)
          go_ret
          exact ⟨kk, rfl, hit_at hlt HQ1.out, below_then HB.out HB.out.size HB2.out⟩
        | false =>
          rw [hq] at hcall
          have HQ1 := am_ hq
          clear hq
          go_wp2_with (go_at_fn g; refine (hcall.out _ (by exact HB.out)).mono ?_; rintro e w' ⟨rfl, hb⟩; have HB2 := am_ hb; clear hb)
          go_roundg (n - (kk + 1))
          case measure => have := HG.out; omega
          case rel =>
            refine ⟨kk + 1, by go_num, ⟨by omega⟩, ⟨by omega⟩, ⟨below_then HB.out HB.out.size HB2.out⟩, ⟨fun j hj => ?_⟩⟩
            by_cases e : j = kk
            · subst e; exact HQ1.out
            · exact HQ.out j (by omega)
      · have hltz : ¬ (kk : Int) < (n : Int) := by omega
        have e : kk = n := by have := HK.out; omega
        subst e
        go_wp2
        go_ret
        exact ⟨-1, rfl, hit_none HQ.out, HB.out⟩
set_option maxHeartbeats 2000000 in
theorem containsNums {vals : Nat → Value} {p : Nat → Bool} (A : Option Addr) (n c g : Nat) (lb : Array Value) (eg : ∀ args w, (callFunc g args).run Try.prog w = .ok (.enter g args) w) (w : World) (hn : n ≤ 9223372036854775807)
    (hc : 0 < n → ∃ ad : Addr, A = some ad ∧ ∀ j, j < n → w.cell? (ad.add j) = some (vals j))
    (hp : ∀ j, j < n → ∀ W, Below w.heap.size w W → Calls Try.prog g (#[vals j] ++ lb) W fun e W' => e = .returned (.bool (p j)) ∧ Below W.heap.size W W') :
    Calls Try.prog 52 #[.slice A n c, .func (.func g) #[] lb] w fun e w' => e = .returned (.bool ((List.range n).any p)) ∧ Below w.heap.size w w' := by
  have h := indexNums A n c g lb eg w hn hc hp
  clear hc hp eg
  have HC := am_ h
  clear h
  go_enter Try.func52, Try.ntmps52
  go_wp2_with (go_at_call 62; refine HC.out.mono ?_; rintro e w' ⟨r, rfl, hr, hb⟩; have HR := am_ hr; clear hr; have HB := am_ hb; clear hb)
  go_ret
  have e := HR.out
  unfold Hit at e
  rw [← e]
  exact ⟨rfl, HB.out⟩
def badState (n q : Int) : Bool := !decide (0 ≤ q) || !decide (q ≤ n - 1)
def badRow (n : Int) (row : List Int) : Bool := decide (row.length ≠ 3) || row.any (badState n)
def validD (acc : List Bool) (nxt : List (List Int)) : Bool := decide (1 ≤ acc.length) && decide (acc.length ≤ 40) && decide (nxt.length = acc.length) && !(nxt.any (badRow acc.length))
set_option maxHeartbeats 2000000 in
theorem inner (q : Int) (n : Int) (B : Nat) (hn0 : 1 ≤ n) (hn : n ≤ 40) (w : World) (hc : w.cell? ⟨B, 0, none⟩ = some (.int .i64 n)) :
    Calls Try.prog 53 #[.int .i64 q, .pointer (some ⟨B, 0, none⟩)] w fun e w' => e = .returned (.bool (badState n q)) ∧ Below w.heap.size w w' := by
  have H1 := fun W => impl_within.calls q 0 (n - 1) (decide (0 ≤ q) && decide (q ≤ n - 1)) W (by unfold impl_within.f; by_cases h : q ≥ 0 <;> simp [h])
  have HC := am_ H1
  clear H1
  go_enter Try.func53, Try.ntmps53
  go_wp2_with (go_at_call 49; refine (HC.out _).mono ?_; rintro e w' ⟨rfl, ⟨m, rfl⟩⟩)
  go_ret
  exact ⟨rfl, (Drawn0.below ⟨⟨_, rfl⟩⟩)⟩
theorem cellsInt {k : IntKind} {w : World} {A : Option Addr} {n : Nat} {xs : List Int} (h : Kd.C (Kd.int k) w A n xs) : 0 < n → ∃ ad : Addr, A = some ad ∧ ∀ j, j < n → w.cell? (ad.add j) = some (.int k (xs.getD j 0)) := by
  intro h0
  obtain ⟨ad, e, hc⟩ := h.2.2 h0
  refine ⟨ad, e, fun j hj => ?_⟩
  have hl : j < xs.length := by rw [h.1]; exact hj
  obtain ⟨c, hs, hr, hcell⟩ := hc j xs[j] (List.getElem?_eq_getElem hl)
  have hr' : c = [.int k xs[j]] := hr
  subst hr'
  have := hcell 0 _ rfl
  rw [show (Kd.int k).sz = 1 from rfl, Nat.mul_one, Nat.add_zero] at this
  rw [this, List.getD_eq_getElem?_getD, List.getElem?_eq_getElem hl]
  rfl
theorem cellsRows {e : Nat} {w : World} {A : Option Addr} {n : Nat} {xs : List (List Int)} (h : Kd.C (Kd.slice e (Kd.int .i64)) w A n xs) : 0 < n → ∃ ad : Addr, A = some ad ∧ ∀ j, j < n → ∃ A0 c0, w.cell? (ad.add j) = some (.slice A0 (xs.getD j []).length c0) ∧ Kd.C (Kd.int .i64) w A0 (xs.getD j []).length (xs.getD j []) := by
  intro h0
  obtain ⟨ad, ea, hc⟩ := h.2.2 h0
  refine ⟨ad, ea, fun j hj => ?_⟩
  have hl : j < xs.length := by rw [h.1]; exact hj
  obtain ⟨c, hs, hr, hcell⟩ := hc j xs[j] (List.getElem?_eq_getElem hl)
  obtain ⟨A0, c0, rfl, h1, h2⟩ := hr
  have := hcell 0 _ rfl
  rw [show (Kd.slice e (Kd.int .i64)).sz = 1 from rfl, Nat.mul_one, Nat.add_zero] at this
  rw [List.getD_eq_getElem?_getD, List.getElem?_eq_getElem hl]
  exact ⟨A0, c0, this, h2⟩
theorem any_range {α : Type} (z : α) (xs : List α) (f : α → Bool) : (List.range xs.length).any (fun j => f (xs.getD j z)) = xs.any f := by
  rw [Bool.eq_iff_iff, List.any_eq_true, List.any_eq_true]
  constructor
  · rintro ⟨j, hj, h⟩
    have hl := List.mem_range.mp hj
    rw [List.getD_eq_getElem?_getD, List.getElem?_eq_getElem hl] at h
    exact ⟨xs[j], List.getElem_mem _, h⟩
  · rintro ⟨x, hx, h⟩
    obtain ⟨j, hj, rfl⟩ := List.mem_iff_getElem.mp hx
    refine ⟨j, List.mem_range.mpr hj, ?_⟩
    rw [List.getD_eq_getElem?_getD, List.getElem?_eq_getElem hj]
    exact h
set_option maxHeartbeats 2000000 in
theorem outer (row : List Int) (A : Option Addr) (c : Nat) (n : Int) (B : Nat) (hn0 : 1 ≤ n) (hn : n ≤ 40) (w : World) (hB : B < w.heap.size) (hc : w.cell? ⟨B, 0, none⟩ = some (.int .i64 n)) (hr : Kd.C (Kd.int .i64) w A row.length row) :
    Calls Try.prog 51 #[.slice A row.length c, .pointer (some ⟨B, 0, none⟩)] w fun e w' => e = .returned (.bool (badRow n row)) ∧ Below w.heap.size w w' := by
  have hlen := hr.2.1
  by_cases h3 : row.length = 3
  · have hp : ∀ j, j < row.length → ∀ W, Below w.heap.size w W → Calls Try.prog 53 (#[.int .i64 (row.getD j 0)] ++ #[.pointer (some ⟨B, 0, none⟩)]) W fun e W' => e = .returned (.bool (badState n (row.getD j 0))) ∧ Below W.heap.size W W' :=
      fun j hj W hb => inner _ n B hn0 hn W ((hb.cell (p := ⟨B, 0, none⟩) hB).trans hc)
    have hcon := fun W (hb : Below w.heap.size w W) => containsNums (vals := fun j => .int .i64 (row.getD j 0)) (p := fun j => badState n (row.getD j 0)) A row.length c 53 #[.pointer (some ⟨B, 0, none⟩)]
      (enters_of Try.func53 (by kernel_rfl) rfl) W hlen (cellsInt (Kd.C_below hr hb)) (fun j hj W' hb' => hp j hj W' (below_then hb hb.size hb'))
    have HC := am_ hcon
    have e3 : badRow n row = (List.range row.length).any (fun j => badState n (row.getD j 0)) := by
      rw [any_range 0 row (badState n)]
      simp [badRow, h3]
    have E3 := am_ e3
    clear hcon hp hr hc e3
    have t3 : ((row.length : Int) != 3) = false := by rw [bne_eq_false_iff_eq]; omega
    clear h3 hlen
    go_enter Try.func51, Try.ntmps51
    go_wp2_with (go_at_call 52; refine (HC.out _ (by exact Below.refl _ _)).mono ?_; rintro e w' ⟨rfl, hb⟩; have HB := am_ hb; clear hb)
    go_ret
    rw [E3.out]
    exact ⟨rfl, HB.out⟩
  · have e3 : badRow n row = true := by simp [badRow, h3]
    have E3 := am_ e3
    have t3 : ((row.length : Int) != 3) = true := by rw [bne_iff_ne]; omega
    clear h3 e3 hr
    go_enter Try.func51, Try.ntmps51
    go_wp2
    go_ret
    rw [E3.out]
    exact ⟨rfl, Below.refl _ _⟩
theorem rowsContain (A1 : Option Addr) (c1 : Nat) (l1 : List (List Int)) (n : Int) (hn0 : 1 ≤ n) (hn : n ≤ 40) (w : World) (hr1 : Kd.C (Kd.slice 3 (Kd.int .i64)) w A1 l1.length l1) (B : Nat) (W : World) (hb : Below w.heap.size w W) (hB : B < W.heap.size) (hc : W.cell? ⟨B, 0, none⟩ = some (.int .i64 n)) :
    Calls Try.prog 50 #[.slice A1 l1.length c1, .func (.func 51) #[] #[.pointer (some ⟨B, 0, none⟩)]] W fun e w' => e = .returned (.bool (l1.any (badRow n))) ∧ Below W.heap.size W w' := by
  have hl := hr1.2.1
  have hW := Kd.C_below hr1 hb
  rw [← any_range [] l1 (badRow n)]
  rcases Nat.eq_zero_or_pos l1.length with h0 | h0
  · refine containsRows (vals := fun _ => .bool false) (p := fun j => badRow n (l1.getD j [])) A1 l1.length c1 51 _ (enters_of Try.func51 (by kernel_rfl) rfl) W hl (fun h => by omega) (fun j hj => by omega)
  · obtain ⟨ad, rfl, hcell⟩ := cellsRows hW h0
    refine containsRows (vals := fun j => (W.cell? (ad.add j)).getD (.bool false)) (p := fun j => badRow n (l1.getD j [])) _ l1.length c1 51 _ (enters_of Try.func51 (by kernel_rfl) rfl) W hl (fun _ => ⟨ad, rfl, fun j hj => ?_⟩) (fun j hj W' hb' => ?_)
    · obtain ⟨Aj, cj, h1, _⟩ := hcell j hj
      rw [h1]
      rfl
    · obtain ⟨Aj, cj, h1, h2⟩ := hcell j hj
      simp only [h1, Option.getD_some]
      exact outer (l1.getD j []) Aj cj n B hn0 hn W' (Nat.lt_of_lt_of_le hB hb'.size) ((hb'.cell (p := ⟨B, 0, none⟩) hB).trans hc) (Kd.C_below h2 hb')
set_option maxHeartbeats 2000000 in
theorem validCalls (A0 : Option Addr) (c0 : Nat) (l0 : List Bool) (A1 : Option Addr) (c1 : Nat) (l1 : List (List Int)) (w : World) (hr0 : Kd.C Kd.bool w A0 l0.length l0) (hr1 : Kd.C (Kd.slice 3 (Kd.int .i64)) w A1 l1.length l1) :
    Calls Try.prog 31 #[.agg #[.slice A0 l0.length c0, .slice A1 l1.length c1]] w fun e w' => e = .returned (.bool (validD l0 l1)) ∧ Below w.heap.size w w' := by
  have hu := Try.underlying28
  have hl0 := hr0.2.1
  have hl1 := hr1.2.1
  have hwi := fun W => impl_within.calls (l0.length : Int) 1 40 (decide (1 ≤ l0.length) && decide (l0.length ≤ 40)) W (by
    unfold impl_within.f
    by_cases h : 1 ≤ l0.length
    · rw [if_pos (show (l0.length : Int) ≥ 1 by omega), decide_eq_true h, Bool.true_and]
      exact congrArg some (decide_eq_decide.mpr (by omega))
    · rw [if_neg (show ¬ (l0.length : Int) ≥ 1 by omega), decide_eq_false h, Bool.false_and])
  have hV := validD.eq_def l0 l1
  by_cases h1 : (decide (1 ≤ l0.length) && decide (l0.length ≤ 40)) = true
  · rw [h1] at hwi
    by_cases h2 : l1.length = l0.length
    · have hcon := rowsContain A1 c1 l1 (l0.length : Int) (by simp at h1; omega) (by simp at h1; omega) w hr1
      have t2 : ((l1.length : Int) != (l0.length : Int)) = false := by rw [bne_eq_false_iff_eq]; omega
      rw [h1, decide_eq_true h2, Bool.true_and, Bool.true_and] at hV
      have HW := am_ hwi
      have HC := am_ hcon
      have HV := am_ hV
      clear hwi hcon h1 h2 hr0 hr1 hl0 hl1 hV
      go_enter Try.func31, Try.ntmps31
      go_wp2_with (first | (go_at_call 49; refine (HW.out _).mono ?_; rintro e w' ⟨rfl, ⟨m, rfl⟩⟩) | (go_at_call 50; refine (HC.out (w.heap.size + 1) _ ?q1 ?q2 ?q3).mono ?_; (case q1 => exact pw_below_drewN (below_alloc (below_alloc (Below.refl _ _) _) _) _); (case q2 => simp); (case q3 => simp); rintro e w' ⟨rfl, hb⟩; have HB := am_ hb; clear hb))
      go_ret
      rw [HV.out]
      exact ⟨rfl, below_then (pw_below_drewN (below_alloc (below_alloc (Below.refl _ _) _) _) _) (by simp; omega) HB.out⟩
    · have t2 : ((l1.length : Int) != (l0.length : Int)) = true := by rw [bne_iff_ne]; omega
      rw [h1, decide_eq_false h2, Bool.true_and, Bool.false_and] at hV
      have HW := am_ hwi
      have HV := am_ hV
      clear hwi h1 h2 hr0 hr1 hl0 hl1 hV
      go_enter Try.func31, Try.ntmps31
      go_wp2_with (go_at_call 49; refine (HW.out _).mono ?_; rintro e w' ⟨rfl, ⟨m, rfl⟩⟩)
      go_ret
      rw [HV.out]
      exact ⟨rfl, pw_below_drewN (below_alloc (below_alloc (Below.refl _ _) _) _) _⟩
  · have h1' : (decide (1 ≤ l0.length) && decide (l0.length ≤ 40)) = false := by simpa using h1
    rw [h1'] at hwi
    rw [h1', Bool.false_and, Bool.false_and] at hV
    have HW := am_ hwi
    have HV := am_ hV
    clear hwi h1 h1' hr0 hr1 hl0 hl1 hV
    go_enter Try.func31, Try.ntmps31
    go_wp2_with (go_at_call 49; refine (HW.out _).mono ?_; rintro e w' ⟨rfl, ⟨m, rfl⟩⟩)
    go_ret
    rw [HV.out]
    exact ⟨rfl, pw_below_drewN (below_alloc (below_alloc (Below.refl _ _) _) _) _⟩
end Go.Proofs.Ytpgdhpnmagmooaa.Wk
end
section
namespace Go.Proofs.Ytpgdhpnmagmooaa.Rk
open Go.RowKit Go.Deep Go.ChangeShapes Go.WideShapes Go.Proofs.YtpgdhpnmagmooaaW.PrintWords Go.Proofs.YtpgdhpnmagmooaaW.PrintLast Go.Proofs.YtpgdhpnmagmooaaW.PrintMore
set_option linter.unusedVariables false
set_option linter.unusedSimpArgs false
variable {H : Type} {enc : TypeId × Value → H} {P : Program} {w : World} {base : Nat} {spare : Nat → Bool} {held : Bool} {α : Type}
def Opens (enc : TypeId × Value → H) (P : Program) (w : World) (base : Nat) (spare : Nat → Bool) (held : Bool) (K : Kd α) (G : α → Prop) (t : TypeId) : Prop :=
  ∀ (fuel : Nat) (cs : List Value) (x : DataW H × List MemPlace), DataW.trod enc P w base spare held fuel t cs = some x → ∃ a, K.K w a cs ∧ G a
def wfI (k : IntKind) (n : Int) : Prop := (Lit.int k n).wf = true
def rowsOf (G : α → Prop) (xs : List α) : Prop := xs.length ≤ 9223372036854775807 ∧ ∀ x ∈ xs, G x
theorem opens_int {k : IntKind} {t : TypeId} (ht : P.underlying t = some (.int k)) : Opens enc P w base spare held (Kd.int k) (wfI k) t := by
  intro fuel cs x h
  obtain ⟨n, rfl, _, h2⟩ := DataW.trod_int ht h
  exact ⟨n, rfl, h2⟩
theorem opens_bool {t : TypeId} (ht : P.underlying t = some .bool) : Opens enc P w base spare held Kd.bool (fun _ => True) t := by
  intro fuel cs x h
  obtain ⟨b, rfl, _⟩ := DataW.trod_bool ht h
  exact ⟨b, rfl, trivial⟩
theorem opens_slice [Inhabited α] {K : Kd α} {G : α → Prop} {t e : TypeId} (q : Nat) (ht : P.underlying t = some (.slice e)) (hc : P.cellsOf e = 1) (hs : K.sz = 1) (h : Opens enc P w base spare held K G e) : Opens enc P w base spare held (Kd.slice q K) (rowsOf G) t := by
  intro fuel cs x hx
  rcases open_slice1 ht hc hx with ⟨rfl, _⟩ | ⟨a, len, cap, m, n, V, D, Pl, rfl, _, hl, hm, hmm, _, hx⟩
  · exact ⟨[], ⟨none, 0, rfl, Nat.le_refl _, rfl, by simp, fun h0 => absurd h0 (Nat.lt_irrefl _)⟩, by simp, fun x hx => by cases hx⟩
  · have hle : len ≤ m := by rw [hmm]; split <;> omega
    obtain ⟨f, hf⟩ := choose_lt (n := len) (p := fun i y => K.K w y [V i] ∧ G y) (fun i hi => h _ _ _ (hx i (by omega)).2)
    have hlen : ((List.range len).map f).length = len := by simp
    have hbig : len ≤ 9223372036854775807 := by unfold maxLen at hm; omega
    refine ⟨(List.range len).map f, ⟨some a, cap, by rw [hlen], by rw [hlen]; exact hl, hlen.symm ▸ rfl, ?_, fun _ => ⟨a, rfl, fun j p hj => ?_⟩⟩, by rw [hlen]; exact hbig, fun x hx => ?_⟩
    · rw [hlen]; exact hbig
    · have hjl : j < len := by
        have := (List.getElem?_eq_some_iff.1 hj).1
        rwa [hlen] at this
      have hp : f j = p := by
        rw [List.getElem?_map, List.getElem?_range hjl] at hj
        simpa using hj
      subst hp
      refine ⟨[V j], hs.symm, (hf j hjl).1, fun i u hu => ?_⟩
      cases i with
      | zero =>
        have : V j = u := by simpa using hu
        subst this
        rw [hs, Nat.mul_one, Nat.add_zero]
        exact (hx j (by omega)).1
      | succ i => simp at hu
    · obtain ⟨i, hi, rfl⟩ := List.mem_map.mp hx
      exact (hf i (List.mem_range.mp hi)).2
theorem slice_of {K : Kd α} {q : Nat} {v : Value} {xs : List α} (h : (Kd.slice q K).K w xs [v]) : ∃ A c, v = .slice A xs.length c ∧ xs.length ≤ c ∧ K.C w A xs.length xs := by
  obtain ⟨A, c, e, h1, h2⟩ := h
  exact ⟨A, c, by simpa using e, h1, h2⟩
end Go.Proofs.Ytpgdhpnmagmooaa.Rk
end
section
namespace Go.Proofs.Ytpgdhpnmagmooaa.P
open Go.RowKit Go.Proofs.YtpgdhpnmagmooaaW.PrintWords Go.Proofs.YtpgdhpnmagmooaaW.PrintLast Go.Proofs.YtpgdhpnmagmooaaW.PrintMore
attribute [local go_sem] max2_int min2_int max_two min_two max_three min_three max_four min_four
set_option linter.unusedVariables false
set_option linter.unusedSimpArgs false
def impl_moved.l0 : Nat → Int → Int → Int → List (List Int) → Int → Int → Option (Int)
  | 0, _, _, _, _, _, _ => none
  | k + 1, x1, x2, x7, x11, x12, x13 => if x13 < x12 then (if 0 ≤ x13 then (if x13 < (x11.length : Int) then (if (Go.bits .and .u64 (shr .u64 x1 x13) 1) = 1 then (if 0 ≤ x2 then (if x2 < ((rd_L1 x11 x13).length : Int) then (if 0 ≤ (rd (rd_L1 x11 x13) x2) then (impl_moved.l0 k x1 x2 (Go.bits .or .u64 x7 (shl .u64 1 (rd (rd_L1 x11 x13) x2))) x11 x12 (wrap64 (x13 + 1))) else (none)) else (none)) else (none)) else (impl_moved.l0 k x1 x2 x7 x11 x12 (wrap64 (x13 + 1)))) else (none)) else (none)) else (some x7)
def impl_moved.f (k : Nat) (l0_0 : List Bool) (l0_1 : List (List Int)) (a1 : Int) (a2 : Int) : Option (Int) := impl_moved.l0 k a1 a2 0 l0_1 (l0_1.length : Int) 0
theorem impl_moved.mono_l : ∀ k, (∀ y0 y1 y2 y3 y4 y5, LeO (impl_moved.l0 k y0 y1 y2 y3 y4 y5) (impl_moved.l0 (k + 1) y0 y1 y2 y3 y4 y5))
  | 0 => fun _ _ _ _ _ _ r h => by simp [impl_moved.l0] at h
  | k + 1 => by
    have ih0 := impl_moved.mono_l k
    · intro y0 y1 y2 y3 y4 y5
      unfold impl_moved.l0
      repeat' first
      | (with_reducible exact ih0 _ _ _ _ _ _)
      | (with_reducible exact LeO.refl _)
      | (with_reducible exact LeO.none _)
      | (with_reducible refine LeO.ite ?_ ?_)
      | (with_reducible refine LeO.bind ?_ (fun _ => ?_))
      | exact ih0 _ _ _ _ _ _
      | exact LeO.none _
      | refine LeO.ite ?_ ?_
      | refine LeO.bind ?_ (fun _ => ?_)
theorem impl_moved.mono : ∀ a0 a1 a2 a3 k, LeO (impl_moved.f k a0 a1 a2 a3) (impl_moved.f (k + 1) a0 a1 a2 a3) := by
  intro a0 a1 a2 a3 k
  have ih0 := impl_moved.mono_l k
  unfold impl_moved.f
  repeat' first
      | (with_reducible exact ih0 _ _ _ _ _ _)
      | (with_reducible exact LeO.refl _)
      | (with_reducible exact LeO.none _)
      | (with_reducible refine LeO.ite ?_ ?_)
      | (with_reducible refine LeO.bind ?_ (fun _ => ?_))
      | exact ih0 _ _ _ _ _ _
      | exact LeO.none _
      | refine LeO.ite ?_ ?_
      | refine LeO.bind ?_ (fun _ => ?_)
theorem zp1_0_ {p q g1 : Prop} (h : p) (h1 : g1) (c : p → g1 → q := by intro h_ h1_; repeat (first | (with_reducible first | exact h_ | apply below_alloc | apply pw_below_drewN | apply below_drew1 | refine below_set ?_ h1_) | exact h_)) : q := c h h1
set_option maxHeartbeats 8000000 in
set_option maxRecDepth 100000 in
theorem impl_moved.calls (k : Nat) (A0_0 : Option Addr) (c0_0 : Nat) (l0_0 : List Bool) (A0_1 : Option Addr) (c0_1 : Nat) (l0_1 : List (List Int)) (a1 : Int) (a2 : Int) (r : Int) (w : World) (hr0_0 : Kd.C Kd.bool w A0_0 l0_0.length l0_0) (hc0_0 : l0_0.length ≤ c0_0) (hr0_1 : Kd.C (Kd.slice 3 (Kd.int .i64)) w A0_1 l0_1.length l0_1) (hc0_1 : l0_1.length ≤ c0_1) (h : impl_moved.f k l0_0 l0_1 a1 a2 = some r) :
    Calls Try.prog 37 #[.agg #[.slice A0_0 l0_0.length c0_0, .slice A0_1 l0_1.length c0_1], .int .u64 a1, .int .i64 a2] w fun e w' => e = .returned (.int .u64 r) ∧ Below w.heap.size w w' := by
  have hu28 := Try.underlying28
  have aj := am_ hr0_0
  have au := am_ hc0_0
  clear hr0_0 hc0_0
  have aq := am_ hr0_1
  have az := am_ hc0_1
  clear hr0_1 hc0_1
  have HB := am_ (Below.refl w.heap.size w)
  have H : (impl_moved.l0 k a1 a2 0 l0_1 (l0_1.length : Int) 0) = some r := h
  clear h
  have H' := am_ H
  clear H
  go_enter Try.func37, Try.ntmps37
  go_wp2_with (first | ((with_reducible refine gate_dst (N := 3) rfl ?_); refine box_event ?hg (N := 3) ?hd (cs := #[.slice A0_0 l0_0.length c0_0, .slice A0_1 l0_1.length c0_1]) (t := 28) ?hr ?_; (case hd => rfl); (case hg => rfl); (case hr => first | (go_simp; done) | (go_simp; rfl)); intro aC hg w4 hbox hb; replace ak := am_ (hbox); replace be := am_ ((by rw [hg]; exact (below_size (b0_ HB.out)) : w.heap.size ≤ aC)); replace aA := am_ ((by rw [hg]; exact (below_size (b0_ HB.out)) : w.heap.size ≤ aC)); replace HB := am_ (below_step (b0_ HB.out) hb); clear hb hbox hg; have aI := ck_ (v := (.slice A0_0 l0_0.length c0_0)) ak 0 rfl; have aJ := ck_ (v := (.slice A0_1 l0_1.length c0_1)) ak 1 rfl; have aK := blk_frozen ak.out 0; have aL := blk_frozen ak.out 1))
  go_loopg [7, 13] k (fun kq v7 v13 w' => ∃ (ap : Int) (aa : Int), v7 = .int .u64 ap ∧ v13 = .int .i64 aa ∧ Aside0 (impl_moved.l0 kq a1 a2 ap l0_1 (l0_1.length : Int) aa = some r) ∧ Aside0 (kq ≤ k) ∧ Aside0 (w'.heap[aC]? = some (.cells #[(.slice A0_0 l0_0.length c0_0), (.slice A0_1 l0_1.length c0_1)] 28 (0, 0))) ∧ Aside0 (Below w.heap.size w w'))
  case atStart => exact ⟨(0), (0), (by first | rfl | (simp; done) | (simp [*]; done)), (by first | rfl | (simp; done) | (simp [*]; done)), H', ⟨Nat.le_refl _⟩, ⟨by refine rb_ ?_; exact ak.out⟩, ⟨by exact zp1_0_ HB.out aA.out⟩⟩
  case round =>
    clear H'
    try clear p2
    try clear c3
    try clear aI
    try clear aJ
    try clear aK
    try clear aL
    obtain ⟨ap, aa, rfl, rfl, HA, HK1, ak, HB⟩ := hrel
    cases gk with
    | zero => exact absurd HA.out (by simp [impl_moved.l0])
    | succ k1 =>
      have H := HA.out
      clear HA
      simp only [impl_moved.l0] at H
      by_cases c6 : aa < (l0_1.length : Int)
      · rw [if_pos c6] at H
        have c6b0 : decide (aa < (l0_1.length : Int)) = true := decide_eq_true c6
        clear c6
        by_cases c7 : 0 ≤ aa
        · rw [if_pos c7] at H
          have c7b0 : decide (0 ≤ aa) = true := decide_eq_true c7
          clear c7
          by_cases c8 : aa < (l0_1.length : Int)
          · rw [if_pos c8] at H
            have c8b0 : decide (aa < (l0_1.length : Int)) = true := decide_eq_true c8
            clear c8
            have c9b0 := eq_true (of_decide_eq_true ah_ : 0 ≤ aa)
            obtain ⟨ji10, hji10⟩ : ∃ j_ : Int, (shr .u64 a1 aa) = j_ := ⟨_, rfl⟩
            replace H : (if (Go.bits .and .u64 (ji10) 1) = 1 then (if 0 ≤ a2 then (if a2 < ((rd_L1 l0_1 aa).length : Int) then (if 0 ≤ (rd (rd_L1 l0_1 aa) a2) then (impl_moved.l0 k1 a1 a2 (Go.bits .or .u64 ap (shl .u64 1 (rd (rd_L1 l0_1 aa) a2))) l0_1 (l0_1.length : Int) (wrap64 (aa + 1))) else (none)) else (none)) else (none)) else (impl_moved.l0 k1 a1 a2 ap l0_1 (l0_1.length : Int) (wrap64 (aa + 1)))) = some r := by first | (rw [hji10] at H; exact H) | (simp only [hji10] at H ⊢; exact H)
            have hji10_ : (a1 / 2 ^ min aa.toNat 64) = ji10 := hji10
            have hji10z : aa ≤ 64 → (a1 / 2 ^ aa.toNat) = ji10 := shr_small hji10
            by_cases c11 : (Go.bits .and .u64 (ji10) 1) = 1
            · rw [if_pos c11] at H
              have c11b0 : ((Go.bits .and .u64 (ji10) 1) == 1) = true := beq_iff_eq.mpr c11
              have c11b1 : ((Go.bits .and .u64 (ji10) 1) != 1) = false := bne_eq_false_iff_eq.mpr c11
              clear c11
              by_cases c12 : 0 ≤ a2
              · rw [if_pos c12] at H
                have c12b0 : decide (0 ≤ a2) = true := decide_eq_true c12
                clear c12
                by_cases c13 : a2 < ((rd_L1 l0_1 aa).length : Int)
                · rw [if_pos c13] at H
                  have c13b0 : decide (a2 < ((rd_L1 l0_1 aa).length : Int)) = true := decide_eq_true c13
                  clear c13
                  by_cases c14 : 0 ≤ (rd (rd_L1 l0_1 aa) a2)
                  · rw [if_pos c14] at H
                    have c14b0 := eq_true c14
                    have c14b1 : decide (0 ≤ (rd (rd_L1 l0_1 aa) a2)) = true := decide_eq_true c14
                    clear c14
                    obtain ⟨ji15, hji15⟩ : ∃ j_ : Int, (shl .u64 1 (rd (rd_L1 l0_1 aa) a2)) = j_ := ⟨_, rfl⟩
                    replace H : (impl_moved.l0 k1 a1 a2 (Go.bits .or .u64 ap (ji15)) l0_1 (l0_1.length : Int) (wrap64 (aa + 1))) = some r := by first | (rw [hji15] at H; exact H) | (simp only [hji15] at H ⊢; exact H)
                    have hji15_ : (IntKind.u64.wrap (1 * 2 ^ min (rd (rd_L1 l0_1 aa) a2).toNat 64)) = ji15 := hji15
                    have hji15z : (rd (rd_L1 l0_1 aa) a2) ≤ 64 → (IntKind.u64.wrap (1 * 2 ^ (rd (rd_L1 l0_1 aa) a2).toNat)) = ji15 := shl_small hji15
                    have hji15u : (IntKind.u64.wrap (2 ^ min (rd (rd_L1 l0_1 aa) a2).toNat 64)) = ji15 := by have h_ := hji15_; rw [Int.one_mul] at h_; exact h_
                    have hji15v : (rd (rd_L1 l0_1 aa) a2) ≤ 64 → (IntKind.u64.wrap (2 ^ (rd (rd_L1 l0_1 aa) a2).toNat)) = ji15 := fun hle_ => by have h_ := hji15z hle_; rw [Int.one_mul] at h_; exact h_
                    have H' := am_ H
                    clear H
                    have p102 : 0 ≤ (aa : Int) := of_decide_eq_true ah_
                    have q102 : aa < (l0_1.length : Int) := of_decide_eq_true ah_
                    obtain ⟨aQ, A102_0, c102_0, e102, ah, hl102_0, hi102_0⟩ := at_L1 aq.out aa p102 q102
                    cases e102
                    replace ah := (HB.out.cell (World.block_lt_of_cell? w _ ah)).trans ah
                    have aB := am_ hi102_0
                    have aG := am_ hl102_0
                    clear hi102_0 hl102_0
                    replace p102 := eq_true p102
                    replace q102 := eq_true q102
                    have p103 : 0 ≤ (a2 : Int) := of_decide_eq_true ah_
                    have q103 : a2 < ((rd_L1 l0_1 aa).length : Int) := of_decide_eq_true ah_
                    obtain ⟨bf, e103, aw⟩ := Kd.at_int aB.out a2 p103 q103
                    cases e103
                    replace aw := (HB.out.cell (World.block_lt_of_cell? w _ aw)).trans aw
                    replace p103 := eq_true p103
                    replace q103 := eq_true q103
                    go_wp2
                    go_roundg k1
                    case measure => have := HK1.out; omega
                    case rel => exact ⟨(Go.bits .or .u64 ap (ji15)), (wrap64 (aa + 1)), (by first | rfl | (simp; done) | (simp only [← hji15] <;> (first | rfl | simp)) | (simp [*]; done)), (by first | rfl | (simp; done) | (simp [*]; done)), H', ⟨by have := HK1.out; omega⟩, ⟨by refine rb_ ?_; exact ak.out⟩, ⟨by exact zp1_0_ HB.out aA.out⟩⟩
                  · rw [if_neg c14] at H
                    exact absurd H (by simp)
                · rw [if_neg c13] at H
                  exact absurd H (by simp)
              · rw [if_neg c12] at H
                exact absurd H (by simp)
            · rw [if_neg c11] at H
              have c11b0 : ((Go.bits .and .u64 (ji10) 1) == 1) = false := beq_eq_false_iff_ne.mpr c11
              have c11b1 : ((Go.bits .and .u64 (ji10) 1) != 1) = true := bne_iff_ne.mpr c11
              have H' := am_ H
              clear H
              have p102 : 0 ≤ (aa : Int) := of_decide_eq_true ah_
              have q102 : aa < (l0_1.length : Int) := of_decide_eq_true ah_
              obtain ⟨aQ, A102_0, c102_0, e102, ah, hl102_0, hi102_0⟩ := at_L1 aq.out aa p102 q102
              cases e102
              replace ah := (HB.out.cell (World.block_lt_of_cell? w _ ah)).trans ah
              have aB := am_ hi102_0
              have aG := am_ hl102_0
              clear hi102_0 hl102_0
              replace p102 := eq_true p102
              replace q102 := eq_true q102
              go_wp2
              go_roundg k1
              case measure => have := HK1.out; omega
              case rel => exact ⟨(ap), (wrap64 (aa + 1)), (by first | rfl | (simp; done) | (simp [*]; done)), (by first | rfl | (simp; done) | (simp [*]; done)), H', ⟨by have := HK1.out; omega⟩, ⟨by refine rb_ ?_; exact ak.out⟩, ⟨by exact zp1_0_ HB.out aA.out⟩⟩
          · rw [if_neg c8] at H
            exact absurd H (by simp)
        · rw [if_neg c7] at H
          exact absurd H (by simp)
      · rw [if_neg c6] at H
        have c6b0 : decide (aa < (l0_1.length : Int)) = false := decide_eq_false c6
        clear c6
        obtain rfl := Option.some.inj H
        simp only [Option.some.injEq, Prod.mk.injEq] at H
        obtain ⟨rfl⟩ := H
        go_wp2
        go_ret
        exact ⟨by first | rfl | (simp [errW_none, errW_some] <;> rfl) | (simp [*, errW_none, errW_some] <;> rfl), by exact zp1_0_ HB.out aA.out⟩
def impl_accepting.l0 : Nat → Int → List Bool → Int → Int → Option (Bool)
  | 0, _, _, _, _ => none
  | k + 1, x1, x8, x9, x10 => if x10 < x9 then (if 0 ≤ x10 then (if x10 < (x8.length : Int) then (if rdOf false x8 x10 = true then (if (Go.bits .and .u64 (shr .u64 x1 x10) 1) = 1 then (some true) else (impl_accepting.l0 k x1 x8 x9 (wrap64 (x10 + 1)))) else (impl_accepting.l0 k x1 x8 x9 (wrap64 (x10 + 1)))) else (none)) else (none)) else (some false)
def impl_accepting.f (k : Nat) (l0_0 : List Bool) (l0_1 : List (List Int)) (a1 : Int) : Option (Bool) := impl_accepting.l0 k a1 l0_0 (l0_0.length : Int) 0
theorem impl_accepting.mono_l : ∀ k, (∀ y0 y1 y2 y3, LeO (impl_accepting.l0 k y0 y1 y2 y3) (impl_accepting.l0 (k + 1) y0 y1 y2 y3))
  | 0 => fun _ _ _ _ r h => by simp [impl_accepting.l0] at h
  | k + 1 => by
    have ih0 := impl_accepting.mono_l k
    · intro y0 y1 y2 y3
      unfold impl_accepting.l0
      repeat' first
      | (with_reducible exact ih0 _ _ _ _)
      | (with_reducible exact LeO.refl _)
      | (with_reducible exact LeO.none _)
      | (with_reducible refine LeO.ite ?_ ?_)
      | (with_reducible refine LeO.bind ?_ (fun _ => ?_))
      | exact ih0 _ _ _ _
      | exact LeO.none _
      | refine LeO.ite ?_ ?_
      | refine LeO.bind ?_ (fun _ => ?_)
theorem impl_accepting.mono : ∀ a0 a1 a2 k, LeO (impl_accepting.f k a0 a1 a2) (impl_accepting.f (k + 1) a0 a1 a2) := by
  intro a0 a1 a2 k
  have ih0 := impl_accepting.mono_l k
  unfold impl_accepting.f
  repeat' first
      | (with_reducible exact ih0 _ _ _ _)
      | (with_reducible exact LeO.refl _)
      | (with_reducible exact LeO.none _)
      | (with_reducible refine LeO.ite ?_ ?_)
      | (with_reducible refine LeO.bind ?_ (fun _ => ?_))
      | exact ih0 _ _ _ _
      | exact LeO.none _
      | refine LeO.ite ?_ ?_
      | refine LeO.bind ?_ (fun _ => ?_)
set_option maxHeartbeats 8000000 in
set_option maxRecDepth 100000 in
theorem impl_accepting.calls (k : Nat) (A0_0 : Option Addr) (c0_0 : Nat) (l0_0 : List Bool) (A0_1 : Option Addr) (c0_1 : Nat) (l0_1 : List (List Int)) (a1 : Int) (r : Bool) (w : World) (hr0_0 : Kd.C Kd.bool w A0_0 l0_0.length l0_0) (hc0_0 : l0_0.length ≤ c0_0) (hr0_1 : Kd.C (Kd.slice 3 (Kd.int .i64)) w A0_1 l0_1.length l0_1) (hc0_1 : l0_1.length ≤ c0_1) (h : impl_accepting.f k l0_0 l0_1 a1 = some r) :
    Calls Try.prog 33 #[.agg #[.slice A0_0 l0_0.length c0_0, .slice A0_1 l0_1.length c0_1], .int .u64 a1] w fun e w' => e = .returned (.bool r) ∧ Below w.heap.size w w' := by
  have hu28 := Try.underlying28
  have aj := am_ hr0_0
  have au := am_ hc0_0
  clear hr0_0 hc0_0
  have aq := am_ hr0_1
  have az := am_ hc0_1
  clear hr0_1 hc0_1
  have HB := am_ (Below.refl w.heap.size w)
  have H : (impl_accepting.l0 k a1 l0_0 (l0_0.length : Int) 0) = some r := h
  clear h
  have H' := am_ H
  clear H
  go_enter Try.func33, Try.ntmps33
  go_wp2_with (first | ((with_reducible refine gate_dst (N := 2) rfl ?_); refine box_event ?hg (N := 2) ?hd (cs := #[.slice A0_0 l0_0.length c0_0, .slice A0_1 l0_1.length c0_1]) (t := 28) ?hr ?_; (case hd => rfl); (case hg => rfl); (case hr => first | (go_simp; done) | (go_simp; rfl)); intro aD hg w3 hbox hb; replace al := am_ (hbox); replace bg := am_ ((by rw [hg]; exact (below_size (b0_ HB.out)) : w.heap.size ≤ aD)); replace av := am_ ((by rw [hg]; exact (below_size (b0_ HB.out)) : w.heap.size ≤ aD)); replace HB := am_ (below_step (b0_ HB.out) hb); clear hb hbox hg; have aM := ck_ (v := (.slice A0_0 l0_0.length c0_0)) al 0 rfl; have aN := ck_ (v := (.slice A0_1 l0_1.length c0_1)) al 1 rfl; have aO := blk_frozen al.out 0; have aP := blk_frozen al.out 1))
  go_loopg [10] k (fun kq v10 w' => ∃ (ab : Int), v10 = .int .i64 ab ∧ Aside0 (impl_accepting.l0 kq a1 l0_0 (l0_0.length : Int) ab = some r) ∧ Aside0 (kq ≤ k) ∧ Aside0 (w'.heap[aD]? = some (.cells #[(.slice A0_0 l0_0.length c0_0), (.slice A0_1 l0_1.length c0_1)] 28 (0, 0))) ∧ Aside0 (Below w.heap.size w w'))
  case atStart => exact ⟨(0), (by first | rfl | (simp; done) | (simp [*]; done)), H', ⟨Nat.le_refl _⟩, ⟨by refine rb_ ?_; exact al.out⟩, ⟨by exact zp1_0_ HB.out av.out⟩⟩
  case round =>
    clear H'
    try clear p2
    try clear c3
    try clear aM
    try clear aN
    try clear aO
    try clear aP
    obtain ⟨ab, rfl, HA, HK1, al, HB⟩ := hrel
    cases gk with
    | zero => exact absurd HA.out (by simp [impl_accepting.l0])
    | succ k1 =>
      have H := HA.out
      clear HA
      simp only [impl_accepting.l0] at H
      by_cases c5 : ab < (l0_0.length : Int)
      · rw [if_pos c5] at H
        have c5b0 : decide (ab < (l0_0.length : Int)) = true := decide_eq_true c5
        clear c5
        by_cases c6 : 0 ≤ ab
        · rw [if_pos c6] at H
          have c6b0 : decide (0 ≤ ab) = true := decide_eq_true c6
          clear c6
          by_cases c7 : ab < (l0_0.length : Int)
          · rw [if_pos c7] at H
            have c7b0 : decide (ab < (l0_0.length : Int)) = true := decide_eq_true c7
            clear c7
            obtain ⟨bq8, hbq8⟩ : ∃ b_ : Bool, b_ = (rdOf false l0_0 ab) := ⟨_, rfl⟩
            replace H : (if bq8 = true then (if (Go.bits .and .u64 (shr .u64 a1 ab) 1) = 1 then (some true) else (impl_accepting.l0 k1 a1 l0_0 (l0_0.length : Int) (wrap64 (ab + 1)))) else (impl_accepting.l0 k1 a1 l0_0 (l0_0.length : Int) (wrap64 (ab + 1)))) = some r := by rw [← hbq8] at H; exact H
            have Nbq8 := am_ hbq8
            clear hbq8
            by_cases c9 : bq8 = true
            · subst c9
              have H1 : (if (Go.bits .and .u64 (shr .u64 a1 ab) 1) = 1 then (some true) else (impl_accepting.l0 k1 a1 l0_0 (l0_0.length : Int) (wrap64 (ab + 1)))) = some r := by rw [if_pos rfl] at H; exact H
              clear H
              have H := H1
              clear H1
              have c10b0 := eq_true (of_decide_eq_true ah_ : 0 ≤ ab)
              obtain ⟨ji11, hji11⟩ : ∃ j_ : Int, (shr .u64 a1 ab) = j_ := ⟨_, rfl⟩
              replace H : (if (Go.bits .and .u64 (ji11) 1) = 1 then (some true) else (impl_accepting.l0 k1 a1 l0_0 (l0_0.length : Int) (wrap64 (ab + 1)))) = some r := by first | (rw [hji11] at H; exact H) | (simp only [hji11] at H ⊢; exact H)
              have hji11_ : (a1 / 2 ^ min ab.toNat 64) = ji11 := hji11
              have hji11z : ab ≤ 64 → (a1 / 2 ^ ab.toNat) = ji11 := shr_small hji11
              by_cases c12 : (Go.bits .and .u64 (ji11) 1) = 1
              · rw [if_pos c12] at H
                have c12b0 : ((Go.bits .and .u64 (ji11) 1) == 1) = true := beq_iff_eq.mpr c12
                have c12b1 : ((Go.bits .and .u64 (ji11) 1) != 1) = false := bne_eq_false_iff_eq.mpr c12
                clear c12
                obtain rfl := Option.some.inj H
                simp only [Option.some.injEq, Prod.mk.injEq] at H
                obtain ⟨rfl⟩ := H
                have p105 : 0 ≤ (ab : Int) := of_decide_eq_true ah_
                have q105 : ab < (l0_0.length : Int) := of_decide_eq_true ah_
                obtain ⟨aE, e105, ad⟩ := Kd.at_bool aj.out ab p105 q105
                (try rw [← Nbq8.out] at ad)
                cases e105
                replace ad := (HB.out.cell (World.block_lt_of_cell? w _ ad)).trans ad
                replace p105 := eq_true p105
                replace q105 := eq_true q105
                go_wp2
                go_ret
                exact ⟨by first | rfl | (simp [errW_none, errW_some] <;> rfl) | (simp only [← hji11]; first | rfl | (simp [errW_none, errW_some] <;> rfl)) | (simp [*, errW_none, errW_some] <;> rfl), by exact zp1_0_ HB.out av.out⟩
              · rw [if_neg c12] at H
                have c12b0 : ((Go.bits .and .u64 (ji11) 1) == 1) = false := beq_eq_false_iff_ne.mpr c12
                have c12b1 : ((Go.bits .and .u64 (ji11) 1) != 1) = true := bne_iff_ne.mpr c12
                have H' := am_ H
                clear H
                have p105 : 0 ≤ (ab : Int) := of_decide_eq_true ah_
                have q105 : ab < (l0_0.length : Int) := of_decide_eq_true ah_
                obtain ⟨aE, e105, ad⟩ := Kd.at_bool aj.out ab p105 q105
                (try rw [← Nbq8.out] at ad)
                cases e105
                replace ad := (HB.out.cell (World.block_lt_of_cell? w _ ad)).trans ad
                replace p105 := eq_true p105
                replace q105 := eq_true q105
                go_wp2
                go_roundg k1
                case measure => have := HK1.out; omega
                case rel => exact ⟨(wrap64 (ab + 1)), (by first | rfl | (simp; done) | (simp [*]; done)), H', ⟨by have := HK1.out; omega⟩, ⟨by refine rb_ ?_; exact al.out⟩, ⟨by exact zp1_0_ HB.out av.out⟩⟩
            · replace c9 := Bool.eq_false_iff.mpr c9
              subst c9
              have H1 : (impl_accepting.l0 k1 a1 l0_0 (l0_0.length : Int) (wrap64 (ab + 1))) = some r := by rw [if_neg (show ¬ (false = true) by decide)] at H; exact H
              clear H
              have H := H1
              clear H1
              have H' := am_ H
              clear H
              have p105 : 0 ≤ (ab : Int) := of_decide_eq_true ah_
              have q105 : ab < (l0_0.length : Int) := of_decide_eq_true ah_
              obtain ⟨aE, e105, ad⟩ := Kd.at_bool aj.out ab p105 q105
              (try rw [← Nbq8.out] at ad)
              cases e105
              replace ad := (HB.out.cell (World.block_lt_of_cell? w _ ad)).trans ad
              replace p105 := eq_true p105
              replace q105 := eq_true q105
              go_wp2
              go_roundg k1
              case measure => have := HK1.out; omega
              case rel => exact ⟨(wrap64 (ab + 1)), (by first | rfl | (simp; done) | (simp [*]; done)), H', ⟨by have := HK1.out; omega⟩, ⟨by refine rb_ ?_; exact al.out⟩, ⟨by exact zp1_0_ HB.out av.out⟩⟩
          · rw [if_neg c7] at H
            exact absurd H (by simp)
        · rw [if_neg c6] at H
          exact absurd H (by simp)
      · rw [if_neg c5] at H
        have c5b0 : decide (ab < (l0_0.length : Int)) = false := decide_eq_false c5
        clear c5
        obtain rfl := Option.some.inj H
        simp only [Option.some.injEq, Prod.mk.injEq] at H
        obtain ⟨rfl⟩ := H
        go_wp2
        go_ret
        exact ⟨by first | rfl | (simp [errW_none, errW_some] <;> rfl) | (simp [*, errW_none, errW_some] <;> rfl), by exact zp1_0_ HB.out av.out⟩
def laws_szBoolS.f (l0 : List Bool) (a1 : Int) : Option (Int) := if (wrap64 (a1 - (l0.length : Int))) < 0 then (some (-1)) else (some (wrap64 (a1 - (l0.length : Int))))
set_option maxHeartbeats 8000000 in
set_option maxRecDepth 100000 in
theorem laws_szBoolS.calls (A0 : Option Addr) (c0 : Nat) (l0 : List Bool) (a1 : Int) (r : Int) (w : World) (hr0 : Kd.C Kd.bool w A0 l0.length l0) (hc0 : l0.length ≤ c0) (h : laws_szBoolS.f l0 a1 = some r) :
    Calls Try.prog 22 #[.slice A0 l0.length c0, .int .i64 a1] w fun e w' => e = .returned (.int .i64 r) ∧ Drawn0 w w' := by
  have HR0 := am_ hr0
  have HC0 := am_ hc0
  clear hr0 hc0
  have H : (if (wrap64 (a1 - (l0.length : Int))) < 0 then (some (-1)) else (some (wrap64 (a1 - (l0.length : Int))))) = some r := h
  clear h
  by_cases c3 : (wrap64 (a1 - (l0.length : Int))) < 0
  · rw [if_pos c3] at H
    have c3b0 : decide ((wrap64 (a1 - (l0.length : Int))) < 0) = true := decide_eq_true c3
    clear c3
    obtain rfl := Option.some.inj H
    simp only [Option.some.injEq, Prod.mk.injEq] at H
    obtain ⟨rfl⟩ := H
    go_enter Try.func22, Try.ntmps22
    go_wp2
    go_ret
    exact ⟨by first | rfl | (simp; done) | (simp [*]; done), by repeat (first | exact Drawn0.refl _ | apply Drawn0.step)⟩
  · rw [if_neg c3] at H
    have c3b0 : decide ((wrap64 (a1 - (l0.length : Int))) < 0) = false := decide_eq_false c3
    clear c3
    obtain rfl := Option.some.inj H
    simp only [Option.some.injEq, Prod.mk.injEq] at H
    obtain ⟨rfl⟩ := H
    go_enter Try.func22, Try.ntmps22
    go_wp2
    go_ret
    exact ⟨by first | rfl | (simp; done) | (simp [*]; done), by repeat (first | exact Drawn0.refl _ | apply Drawn0.step)⟩
def laws_szIntS.f (l0 : List Int) (a1 : Int) : Option (Int) := if (wrap64 (a1 - (l0.length : Int))) < 0 then (some (-1)) else (some (wrap64 (a1 - (l0.length : Int))))
set_option maxHeartbeats 8000000 in
set_option maxRecDepth 100000 in
theorem laws_szIntS.calls (A0 : Option Addr) (c0 : Nat) (l0 : List Int) (a1 : Int) (r : Int) (w : World) (hr0 : Kd.C (Kd.int .i64) w A0 l0.length l0) (hc0 : l0.length ≤ c0) (h : laws_szIntS.f l0 a1 = some r) :
    Calls Try.prog 46 #[.slice A0 l0.length c0, .int .i64 a1] w fun e w' => e = .returned (.int .i64 r) ∧ Drawn0 w w' := by
  have HR0 := am_ hr0
  have HC0 := am_ hc0
  clear hr0 hc0
  have H : (if (wrap64 (a1 - (l0.length : Int))) < 0 then (some (-1)) else (some (wrap64 (a1 - (l0.length : Int))))) = some r := h
  clear h
  by_cases c3 : (wrap64 (a1 - (l0.length : Int))) < 0
  · rw [if_pos c3] at H
    have c3b0 : decide ((wrap64 (a1 - (l0.length : Int))) < 0) = true := decide_eq_true c3
    clear c3
    obtain rfl := Option.some.inj H
    simp only [Option.some.injEq, Prod.mk.injEq] at H
    obtain ⟨rfl⟩ := H
    go_enter Try.func46, Try.ntmps46
    go_wp2
    go_ret
    exact ⟨by first | rfl | (simp; done) | (simp [*]; done), by repeat (first | exact Drawn0.refl _ | apply Drawn0.step)⟩
  · rw [if_neg c3] at H
    have c3b0 : decide ((wrap64 (a1 - (l0.length : Int))) < 0) = false := decide_eq_false c3
    clear c3
    obtain rfl := Option.some.inj H
    simp only [Option.some.injEq, Prod.mk.injEq] at H
    obtain ⟨rfl⟩ := H
    go_enter Try.func46, Try.ntmps46
    go_wp2
    go_ret
    exact ⟨by first | rfl | (simp; done) | (simp [*]; done), by repeat (first | exact Drawn0.refl _ | apply Drawn0.step)⟩
def laws_szIntSS.l0 : Nat → List (List Int) → Int → Int → Option (Int)
  | 0, _, _, _ => none
  | k + 1, x0, x1, x5 => if x5 < (x0.length : Int) then (if 0 ≤ x5 then ((laws_szIntS.f (rd_L1 x0 x5) x1).bind fun an => (if an < 0 then (some (-1)) else (laws_szIntSS.l0 k x0 an (wrap64 (x5 + 1))))) else (none)) else (some x1)
def laws_szIntSS.f (k : Nat) (l0 : List (List Int)) (a1 : Int) : Option (Int) := if (wrap64 (a1 - (l0.length : Int))) < 0 then (some (-1)) else (laws_szIntSS.l0 k l0 (wrap64 (a1 - (l0.length : Int))) 0)
theorem laws_szIntSS.mono_l : ∀ k, (∀ y0 y1 y2, LeO (laws_szIntSS.l0 k y0 y1 y2) (laws_szIntSS.l0 (k + 1) y0 y1 y2))
  | 0 => fun _ _ _ r h => by simp [laws_szIntSS.l0] at h
  | k + 1 => by
    have ih0 := laws_szIntSS.mono_l k
    · intro y0 y1 y2
      unfold laws_szIntSS.l0
      repeat' first
      | (with_reducible exact ih0 _ _ _)
      | (with_reducible exact LeO.refl _)
      | (with_reducible exact LeO.none _)
      | (with_reducible refine LeO.ite ?_ ?_)
      | (with_reducible refine LeO.bind ?_ (fun _ => ?_))
      | exact ih0 _ _ _
      | exact LeO.none _
      | refine LeO.ite ?_ ?_
      | refine LeO.bind ?_ (fun _ => ?_)
theorem laws_szIntSS.mono : ∀ a0 a1 k, LeO (laws_szIntSS.f k a0 a1) (laws_szIntSS.f (k + 1) a0 a1) := by
  intro a0 a1 k
  have ih0 := laws_szIntSS.mono_l k
  unfold laws_szIntSS.f
  repeat' first
      | (with_reducible exact ih0 _ _ _)
      | (with_reducible exact LeO.refl _)
      | (with_reducible exact LeO.none _)
      | (with_reducible refine LeO.ite ?_ ?_)
      | (with_reducible refine LeO.bind ?_ (fun _ => ?_))
      | exact ih0 _ _ _
      | exact LeO.none _
      | refine LeO.ite ?_ ?_
      | refine LeO.bind ?_ (fun _ => ?_)
set_option maxHeartbeats 8000000 in
set_option maxRecDepth 100000 in
theorem laws_szIntSS.calls (k : Nat) (A0 : Option Addr) (c0 : Nat) (l0 : List (List Int)) (a1 : Int) (r : Int) (w : World) (hr0 : Kd.C (Kd.slice 3 (Kd.int .i64)) w A0 l0.length l0) (hc0 : l0.length ≤ c0) (h : laws_szIntSS.f k l0 a1 = some r) :
    Calls Try.prog 23 #[.slice A0 l0.length c0, .int .i64 a1] w fun e w' => e = .returned (.int .i64 r) ∧ Drawn0 w w' := by
  have HR0 := am_ hr0
  have HC0 := am_ hc0
  clear hr0 hc0
  have H : (if (wrap64 (a1 - (l0.length : Int))) < 0 then (some (-1)) else (laws_szIntSS.l0 k l0 (wrap64 (a1 - (l0.length : Int))) 0)) = some r := h
  clear h
  by_cases c3 : (wrap64 (a1 - (l0.length : Int))) < 0
  · rw [if_pos c3] at H
    have c3b0 : decide ((wrap64 (a1 - (l0.length : Int))) < 0) = true := decide_eq_true c3
    clear c3
    obtain rfl := Option.some.inj H
    simp only [Option.some.injEq, Prod.mk.injEq] at H
    obtain ⟨rfl⟩ := H
    go_enter Try.func23, Try.ntmps23
    go_wp2
    go_ret
    exact ⟨by first | rfl | (simp; done) | (simp [*]; done), by repeat (first | exact Drawn0.refl _ | apply Drawn0.step)⟩
  · rw [if_neg c3] at H
    have c3b0 : decide ((wrap64 (a1 - (l0.length : Int))) < 0) = false := decide_eq_false c3
    clear c3
    have H' := am_ H
    clear H
    go_enter Try.func23, Try.ntmps23
    go_wp2
    go_loopg [1, 5] k (fun kq v1 v5 w' => ∃ (ar : Int) (ae : Int), v1 = .int .i64 ar ∧ v5 = .int .i64 ae ∧ Aside0 (laws_szIntSS.l0 kq l0 ar ae = some r) ∧ Aside0 (kq ≤ k) ∧ Drawn0 w w')
    case atStart => exact ⟨(wrap64 (a1 - (l0.length : Int))), (0), (by first | rfl | (simp; done) | (simp [*]; done)), (by first | rfl | (simp; done) | (simp [*]; done)), H', ⟨Nat.le_refl _⟩, by repeat (first | exact Drawn0.refl _ | apply Drawn0.step)⟩
    case round =>
      clear H'
      try clear c2
      try clear p2
      try clear c3
      try clear c3b0
      obtain ⟨ar, ae, rfl, rfl, HA, HK1, ⟨m1, rfl⟩⟩ := hrel
      cases gk with
      | zero => exact absurd HA.out (by simp [laws_szIntSS.l0])
      | succ k1 =>
        have H := HA.out
        clear HA
        simp only [laws_szIntSS.l0] at H
        by_cases c4 : ae < (l0.length : Int)
        · rw [if_pos c4] at H
          have c4b0 : decide (ae < (l0.length : Int)) = true := decide_eq_true c4
          clear c4
          by_cases c5 : 0 ≤ ae
          · rw [if_pos c5] at H
            have c5b0 : decide (0 ≤ ae) = true := decide_eq_true c5
            clear c5
            replace H := Option.bind_eq_some_iff.mp H
            obtain ⟨an, A60, H⟩ := H
            have A6 := am_ A60
            clear A60
            by_cases c7 : an < 0
            · rw [if_pos c7] at H
              have c7b0 : decide (an < 0) = true := decide_eq_true c7
              clear c7
              obtain rfl := Option.some.inj H
              simp only [Option.some.injEq, Prod.mk.injEq] at H
              obtain ⟨rfl⟩ := H
              have p106 : 0 ≤ (ae : Int) := of_decide_eq_true ah_
              have q106 : ae < (l0.length : Int) := of_decide_eq_true ah_
              obtain ⟨aR, A106_0, c106_0, e106, aH, hl106_0, hi106_0⟩ := at_L1 HR0.out ae p106 q106
              cases e106
              have ax := am_ hi106_0
              have ay := am_ hl106_0
              clear hi106_0 hl106_0
              replace p106 := eq_true p106
              replace q106 := eq_true q106
              go_wp2_with (first | ((with_reducible refine gate_callee (f := 46) rfl ?_); refine gL_ (some 23) Try.func46 #[.slice A106_0 (rd_L1 l0 ae).length c106_0, .int .i64 ar] ?_; (with_reducible refine (laws_szIntS.calls _ _ (rd_L1 l0 ae) ar an _ ?side1 ?side2 A6.out).mono ?_); (case side1 => exact rc_ ax.out); (case side2 => exact ay.out); rintro e w' ⟨rfl, ⟨nd, rfl⟩⟩; refine ⟨_, rfl, ?_⟩))
              go_ret
              exact ⟨by first | rfl | (simp; done) | (simp [*]; done), by repeat (first | exact Drawn0.refl _ | apply Drawn0.step)⟩
            · rw [if_neg c7] at H
              have c7b0 : decide (an < 0) = false := decide_eq_false c7
              clear c7
              have H' := am_ H
              clear H
              have p106 : 0 ≤ (ae : Int) := of_decide_eq_true ah_
              have q106 : ae < (l0.length : Int) := of_decide_eq_true ah_
              obtain ⟨aR, A106_0, c106_0, e106, aH, hl106_0, hi106_0⟩ := at_L1 HR0.out ae p106 q106
              cases e106
              have ax := am_ hi106_0
              have ay := am_ hl106_0
              clear hi106_0 hl106_0
              replace p106 := eq_true p106
              replace q106 := eq_true q106
              go_wp2_with (first | ((with_reducible refine gate_callee (f := 46) rfl ?_); refine gL_ (some 23) Try.func46 #[.slice A106_0 (rd_L1 l0 ae).length c106_0, .int .i64 ar] ?_; (with_reducible refine (laws_szIntS.calls _ _ (rd_L1 l0 ae) ar an _ ?side1 ?side2 A6.out).mono ?_); (case side1 => exact rc_ ax.out); (case side2 => exact ay.out); rintro e w' ⟨rfl, ⟨nd, rfl⟩⟩; refine ⟨_, rfl, ?_⟩))
              go_roundg k1
              case measure => have := HK1.out; omega
              case rel => exact ⟨(an), (wrap64 (ae + 1)), (by first | rfl | (simp; done) | (simp [*]; done)), (by first | rfl | (simp; done) | (simp [*]; done)), H', ⟨by have := HK1.out; omega⟩, by repeat (first | exact Drawn0.refl _ | apply Drawn0.step)⟩
          · rw [if_neg c5] at H
            exact absurd H (by simp)
        · rw [if_neg c4] at H
          have c4b0 : decide (ae < (l0.length : Int)) = false := decide_eq_false c4
          clear c4
          obtain rfl := Option.some.inj H
          simp only [Option.some.injEq, Prod.mk.injEq] at H
          obtain ⟨rfl⟩ := H
          go_wp2
          go_ret
          exact ⟨by first | rfl | (simp; done) | (simp [*]; done), by repeat (first | exact Drawn0.refl _ | apply Drawn0.step)⟩
def laws_szDfa.f (k : Nat) (l0_0 : List Bool) (l0_1 : List (List Int)) (a1 : Int) : Option (Int) := (laws_szBoolS.f l0_0 a1).bind fun ag => (if ag < 0 then (some (-1)) else ((laws_szIntSS.f k l0_1 ag).bind fun ai => (if ai < 0 then (some (-1)) else (some ai))))
theorem laws_szDfa.mono : ∀ a0 a1 a2 k, LeO (laws_szDfa.f k a0 a1 a2) (laws_szDfa.f (k + 1) a0 a1 a2) := by
  intro a0 a1 a2 k
  unfold laws_szDfa.f
  repeat' first
      | (with_reducible exact laws_szIntSS.mono _ _ _)
      | (with_reducible exact LeO.refl _)
      | (with_reducible exact LeO.none _)
      | (with_reducible refine LeO.ite ?_ ?_)
      | (with_reducible refine LeO.bind ?_ (fun _ => ?_))
      | exact laws_szIntSS.mono _ _ _
      | exact LeO.none _
      | refine LeO.ite ?_ ?_
      | refine LeO.bind ?_ (fun _ => ?_)
set_option maxHeartbeats 8000000 in
set_option maxRecDepth 100000 in
theorem laws_szDfa.calls (k : Nat) (A0_0 : Option Addr) (c0_0 : Nat) (l0_0 : List Bool) (A0_1 : Option Addr) (c0_1 : Nat) (l0_1 : List (List Int)) (a1 : Int) (r : Int) (w : World) (hr0_0 : Kd.C Kd.bool w A0_0 l0_0.length l0_0) (hc0_0 : l0_0.length ≤ c0_0) (hr0_1 : Kd.C (Kd.slice 3 (Kd.int .i64)) w A0_1 l0_1.length l0_1) (hc0_1 : l0_1.length ≤ c0_1) (h : laws_szDfa.f k l0_0 l0_1 a1 = some r) :
    Calls Try.prog 6 #[.agg #[.slice A0_0 l0_0.length c0_0, .slice A0_1 l0_1.length c0_1], .int .i64 a1] w fun e w' => e = .returned (.int .i64 r) ∧ Below w.heap.size w w' := by
  have hu25 := Try.underlying25
  have aj := am_ hr0_0
  have au := am_ hc0_0
  clear hr0_0 hc0_0
  have aq := am_ hr0_1
  have az := am_ hc0_1
  clear hr0_1 hc0_1
  have HB := am_ (Below.refl w.heap.size w)
  have H : ((laws_szBoolS.f l0_0 a1).bind fun ag => (if ag < 0 then (some (-1)) else ((laws_szIntSS.f k l0_1 ag).bind fun ai => (if ai < 0 then (some (-1)) else (some ai))))) = some r := h
  clear h
  replace H := Option.bind_eq_some_iff.mp H
  obtain ⟨ag, A30, H⟩ := H
  have A3 := am_ A30
  clear A30
  by_cases c4 : ag < 0
  · rw [if_pos c4] at H
    have c4b0 : decide (ag < 0) = true := decide_eq_true c4
    clear c4
    obtain rfl := Option.some.inj H
    simp only [Option.some.injEq, Prod.mk.injEq] at H
    obtain ⟨rfl⟩ := H
    go_enter Try.func6, Try.ntmps6
    go_wp2_with (first | ((with_reducible refine gate_dst (N := 2) rfl ?_); refine box_event ?hg (N := 2) ?hd (cs := #[.slice A0_0 l0_0.length c0_0, .slice A0_1 l0_1.length c0_1]) (t := 25) ?hr ?_; (case hd => rfl); (case hg => rfl); (case hr => first | (go_simp; done) | (go_simp; rfl)); intro am hg w5 hbox hb; replace af := am_ (hbox); replace aF := am_ ((by rw [hg]; exact (below_size (b0_ HB.out)) : w.heap.size ≤ am)); replace ao := am_ ((by rw [hg]; exact (below_size (b0_ HB.out)) : w.heap.size ≤ am)); replace HB := am_ (below_step (b0_ HB.out) hb); clear hb hbox hg; have ba := ck_ (v := (.slice A0_0 l0_0.length c0_0)) af 0 rfl; have bb := ck_ (v := (.slice A0_1 l0_1.length c0_1)) af 1 rfl; have bc := blk_frozen af.out 0; have bd := blk_frozen af.out 1) | ((with_reducible refine gate_callee (f := 22) rfl ?_); refine gL_ (some 8) Try.func22 #[.slice A0_0 l0_0.length c0_0, .int .i64 a1] ?_; (with_reducible refine (laws_szBoolS.calls _ _ l0_0 a1 ag _ ?side1 ?side2 A3.out).mono ?_); (case side1 => exact rc_ (Kd.C_below aj.out HB.out)); (case side2 => exact au.out); rintro e w' ⟨rfl, ⟨nd, rfl⟩⟩; refine ⟨_, rfl, ?_⟩))
    go_ret
    exact ⟨by first | rfl | (simp [errW_none, errW_some] <;> rfl) | (simp [*, errW_none, errW_some] <;> rfl), by exact zp1_0_ HB.out ao.out⟩
  · rw [if_neg c4] at H
    have c4b0 : decide (ag < 0) = false := decide_eq_false c4
    clear c4
    replace H := Option.bind_eq_some_iff.mp H
    obtain ⟨ai, A70, H⟩ := H
    replace H : (if ai < 0 then (some (-1)) else (some ai)) = some r := H
    have A7 := am_ A70
    clear A70
    by_cases c8 : ai < 0
    · rw [if_pos c8] at H
      have c8b0 : decide (ai < 0) = true := decide_eq_true c8
      clear c8
      obtain rfl := Option.some.inj H
      simp only [Option.some.injEq, Prod.mk.injEq] at H
      obtain ⟨rfl⟩ := H
      go_enter Try.func6, Try.ntmps6
      go_wp2_with (first | ((with_reducible refine gate_dst (N := 2) rfl ?_); refine box_event ?hg (N := 2) ?hd (cs := #[.slice A0_0 l0_0.length c0_0, .slice A0_1 l0_1.length c0_1]) (t := 25) ?hr ?_; (case hd => rfl); (case hg => rfl); (case hr => first | (go_simp; done) | (go_simp; rfl)); intro am hg w9 hbox hb; replace af := am_ (hbox); replace aF := am_ ((by rw [hg]; exact (below_size (b0_ HB.out)) : w.heap.size ≤ am)); replace ao := am_ ((by rw [hg]; exact (below_size (b0_ HB.out)) : w.heap.size ≤ am)); replace HB := am_ (below_step (b0_ HB.out) hb); clear hb hbox hg; have aS := ck_ (v := (.slice A0_0 l0_0.length c0_0)) af 0 rfl; have aT := ck_ (v := (.slice A0_1 l0_1.length c0_1)) af 1 rfl; have aU := blk_frozen af.out 0; have aV := blk_frozen af.out 1) | ((with_reducible refine gate_callee (f := 22) rfl ?_); refine gL_ (some 8) Try.func22 #[.slice A0_0 l0_0.length c0_0, .int .i64 a1] ?_; (with_reducible refine (laws_szBoolS.calls _ _ l0_0 a1 ag _ ?side1 ?side2 A3.out).mono ?_); (case side1 => exact rc_ (Kd.C_below aj.out HB.out)); (case side2 => exact au.out); rintro e w' ⟨rfl, ⟨nd, rfl⟩⟩; refine ⟨_, rfl, ?_⟩) | ((with_reducible refine gate_callee (f := 23) rfl ?_); refine gL_ (some 14) Try.func23 #[.slice A0_1 l0_1.length c0_1, .int .i64 ag] ?_; (with_reducible refine (laws_szIntSS.calls k _ _ l0_1 ag ai _ ?side1 ?side2 A7.out).mono ?_); (case side1 => exact rc_ (Kd.C_below aq.out (b1_ HB.out ao.out))); (case side2 => exact az.out); rintro e w' ⟨rfl, ⟨nd, rfl⟩⟩; refine ⟨_, rfl, ?_⟩))
      go_ret
      exact ⟨by first | rfl | (simp [errW_none, errW_some] <;> rfl) | (simp [*, errW_none, errW_some] <;> rfl), by exact zp1_0_ HB.out ao.out⟩
    · rw [if_neg c8] at H
      have c8b0 : decide (ai < 0) = false := decide_eq_false c8
      clear c8
      obtain rfl := Option.some.inj H
      simp only [Option.some.injEq, Prod.mk.injEq] at H
      obtain ⟨rfl⟩ := H
      go_enter Try.func6, Try.ntmps6
      go_wp2_with (first | ((with_reducible refine gate_dst (N := 2) rfl ?_); refine box_event ?hg (N := 2) ?hd (cs := #[.slice A0_0 l0_0.length c0_0, .slice A0_1 l0_1.length c0_1]) (t := 25) ?hr ?_; (case hd => rfl); (case hg => rfl); (case hr => first | (go_simp; done) | (go_simp; rfl)); intro am hg w11 hbox hb; replace af := am_ (hbox); replace aF := am_ ((by rw [hg]; exact (below_size (b0_ HB.out)) : w.heap.size ≤ am)); replace ao := am_ ((by rw [hg]; exact (below_size (b0_ HB.out)) : w.heap.size ≤ am)); replace HB := am_ (below_step (b0_ HB.out) hb); clear hb hbox hg; have aW := ck_ (v := (.slice A0_0 l0_0.length c0_0)) af 0 rfl; have aX := ck_ (v := (.slice A0_1 l0_1.length c0_1)) af 1 rfl; have aY := blk_frozen af.out 0; have aZ := blk_frozen af.out 1) | ((with_reducible refine gate_callee (f := 22) rfl ?_); refine gL_ (some 8) Try.func22 #[.slice A0_0 l0_0.length c0_0, .int .i64 a1] ?_; (with_reducible refine (laws_szBoolS.calls _ _ l0_0 a1 ag _ ?side1 ?side2 A3.out).mono ?_); (case side1 => exact rc_ (Kd.C_below aj.out HB.out)); (case side2 => exact au.out); rintro e w' ⟨rfl, ⟨nd, rfl⟩⟩; refine ⟨_, rfl, ?_⟩) | ((with_reducible refine gate_callee (f := 23) rfl ?_); refine gL_ (some 14) Try.func23 #[.slice A0_1 l0_1.length c0_1, .int .i64 ag] ?_; (with_reducible refine (laws_szIntSS.calls k _ _ l0_1 ag ai _ ?side1 ?side2 A7.out).mono ?_); (case side1 => exact rc_ (Kd.C_below aq.out (b1_ HB.out ao.out))); (case side2 => exact az.out); rintro e w' ⟨rfl, ⟨nd, rfl⟩⟩; refine ⟨_, rfl, ?_⟩))
      go_ret
      exact ⟨by first | rfl | (simp [errW_none, errW_some] <;> rfl) | (simp [*, errW_none, errW_some] <;> rfl), by exact zp1_0_ HB.out ao.out⟩
def spec_l1In.f (a0 : Int) (a1 : Int) (a2 : Int) : Option (Bool) := if a0 ≥ a1 then (some (decide (a0 ≤ a2))) else (some false)
set_option maxHeartbeats 8000000 in
set_option maxRecDepth 100000 in
theorem spec_l1In.calls (a0 : Int) (a1 : Int) (a2 : Int) (r : Bool) (w : World) (h : spec_l1In.f a0 a1 a2 = some r) :
    Calls Try.prog 47 #[.int .i64 a0, .int .i64 a1, .int .i64 a2] w fun e w' => e = .returned (.bool r) ∧ Drawn0 w w' := by
  have H : (if a0 ≥ a1 then (some (decide (a0 ≤ a2))) else (some false)) = some r := h
  clear h
  by_cases c4 : a0 ≥ a1
  · rw [if_pos c4] at H
    have c4b0 : decide (a1 ≤ a0) = true := decide_eq_true c4
    clear c4
    obtain rfl := Option.some.inj H
    simp only [Option.some.injEq, Prod.mk.injEq] at H
    obtain ⟨rfl⟩ := H
    go_enter Try.func47, Try.ntmps47
    go_wp2
    go_ret
    exact ⟨by first | rfl | (simp; done) | (simp [*]; done), by repeat (first | exact Drawn0.refl _ | apply Drawn0.step)⟩
  · rw [if_neg c4] at H
    have c4b0 : decide (a1 ≤ a0) = false := decide_eq_false c4
    clear c4
    obtain rfl := Option.some.inj H
    simp only [Option.some.injEq, Prod.mk.injEq] at H
    obtain ⟨rfl⟩ := H
    go_enter Try.func47, Try.ntmps47
    go_wp2
    go_ret
    exact ⟨by first | rfl | (simp; done) | (simp [*]; done), by repeat (first | exact Drawn0.refl _ | apply Drawn0.step)⟩
end Go.Proofs.Ytpgdhpnmagmooaa.P
end
