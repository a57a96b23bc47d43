/- Texts of the proof of FnExactLengthsOf, put together. No condition. -/
import Derived.Test.YtpgdhpnmagmooaaQFnExactLengthsOf2
import Derived.Test.YtpgdhpnmagmooaaQFnExactLengthsOf4
import Derived.Test.YtpgdhpnmagmooaaQFnExactLengthsOf3
import Derived.Shelf.Abstract
import Derived.Lib.Walk
section
namespace Go.Proofs.Ytpgdhpnmagmooaa.P
open Go.RowKit Go.Proofs.YtpgdhpnmagmooaaW.PrintWords Go.Proofs.YtpgdhpnmagmooaaW.PrintLast Go.Proofs.YtpgdhpnmagmooaaW.PrintMore
attribute [local go_sem] max2_int min2_int max_two min_two max_three min_three max_four min_four
set_option linter.unusedVariables false
set_option linter.unusedSimpArgs false
def spec_l5Ints.l0 : Nat → List Int → List Int → Int → Option (Bool)
  | 0, _, _, _ => none
  | k + 1, x0, x1, x5 => if x5 < (x0.length : Int) then (if 0 ≤ x5 then (if x5 < (x1.length : Int) then (if (rd x0 x5) = (rd x1 x5) then (spec_l5Ints.l0 k x0 x1 (wrap64 (x5 + 1))) else (some false)) else (none)) else (none)) else (some true)
def spec_l5Ints.f (k : Nat) (l0 : List Int) (l1 : List Int) : Option (Bool) := if (l0.length : Int) = (l1.length : Int) then (spec_l5Ints.l0 k l0 l1 0) else (some false)
theorem spec_l5Ints.mono_l : ∀ k, (∀ y0 y1 y2, LeO (spec_l5Ints.l0 k y0 y1 y2) (spec_l5Ints.l0 (k + 1) y0 y1 y2))
  | 0 => fun _ _ _ r h => by simp [spec_l5Ints.l0] at h
  | k + 1 => by
    have ih0 := spec_l5Ints.mono_l k
    · intro y0 y1 y2
      unfold spec_l5Ints.l0
      repeat' first
      | (with_reducible exact ih0 _ _ _)
      | (with_reducible exact LeO.refl _)
      | (with_reducible exact LeO.none _)
      | (with_reducible refine LeO.ite ?_ ?_)
      | (with_reducible refine LeO.bind ?_ (fun _ => ?_))
      | exact ih0 _ _ _
      | exact LeO.none _
      | refine LeO.ite ?_ ?_
      | refine LeO.bind ?_ (fun _ => ?_)
theorem spec_l5Ints.mono : ∀ a0 a1 k, LeO (spec_l5Ints.f k a0 a1) (spec_l5Ints.f (k + 1) a0 a1) := by
  intro a0 a1 k
  have ih0 := spec_l5Ints.mono_l k
  unfold spec_l5Ints.f
  repeat' first
      | (with_reducible exact ih0 _ _ _)
      | (with_reducible exact LeO.refl _)
      | (with_reducible exact LeO.none _)
      | (with_reducible refine LeO.ite ?_ ?_)
      | (with_reducible refine LeO.bind ?_ (fun _ => ?_))
      | exact ih0 _ _ _
      | exact LeO.none _
      | refine LeO.ite ?_ ?_
      | refine LeO.bind ?_ (fun _ => ?_)
set_option maxHeartbeats 8000000 in
set_option maxRecDepth 100000 in
theorem spec_l5Ints.calls (k : Nat) (A0 : Option Addr) (c0 : Nat) (l0 : List Int) (A1 : Option Addr) (c1 : Nat) (l1 : List Int) (r : Bool) (w : World) (hr0 : Kd.C (Kd.int .i64) w A0 l0.length l0) (hc0 : l0.length ≤ c0) (hr1 : Kd.C (Kd.int .i64) w A1 l1.length l1) (hc1 : l1.length ≤ c1) (h : spec_l5Ints.f k l0 l1 = some r) :
    Calls Try.prog 35 #[.slice A0 l0.length c0, .slice A1 l1.length c1] w fun e w' => e = .returned (.bool r) ∧ Drawn0 w w' := by
  have HR0 := am_ hr0
  have HC0 := am_ hc0
  clear hr0 hc0
  have HR1 := am_ hr1
  have HC1 := am_ hc1
  clear hr1 hc1
  have H : (if (l0.length : Int) = (l1.length : Int) then (spec_l5Ints.l0 k l0 l1 0) else (some false)) = some r := h
  clear h
  by_cases c3 : (l0.length : Int) = (l1.length : Int)
  · rw [if_pos c3] at H
    have c3b0 : ((l0.length : Int) == (l1.length : Int)) = true := beq_iff_eq.mpr c3
    have c3b1 : ((l0.length : Int) != (l1.length : Int)) = false := bne_eq_false_iff_eq.mpr c3
    have c3b2 : (l0.length == l1.length) = true := by first | simpa using c3 | (simp at c3 ⊢; omega)
    clear c3
    have H' := am_ H
    clear H
    go_enter Try.func35, Try.ntmps35
    go_wp2
    repeat (go_quiet (fail); try go_wp2)
    go_loopg [5] k (fun kq v5 w' => ∃ (aa : Int), v5 = .int .i64 aa ∧ Aside0 (spec_l5Ints.l0 kq l0 l1 aa = some r) ∧ Aside0 (kq ≤ k) ∧ Drawn0 w w')
    case atStart => exact ⟨(0), (by first | rfl | (simp; done) | (simp [*]; done)), H', ⟨Nat.le_refl _⟩, by repeat (first | exact Drawn0.refl _ | apply Drawn0.step)⟩
    case round =>
      clear H'
      try clear c1
      try clear p2
      try clear c3
      try clear c3b0
      try clear c3b1
      try clear c3b2
      obtain ⟨aa, rfl, HA, HK1, ⟨m1, rfl⟩⟩ := hrel
      cases gk with
      | zero => exact absurd HA.out (by simp [spec_l5Ints.l0])
      | succ k1 =>
        have H := HA.out
        clear HA
        simp only [spec_l5Ints.l0] at H
        by_cases c4 : aa < (l0.length : Int)
        · rw [if_pos c4] at H
          have c4b0 : decide (aa < (l0.length : Int)) = true := decide_eq_true c4
          clear c4
          by_cases c5 : 0 ≤ aa
          · rw [if_pos c5] at H
            have c5b0 : decide (0 ≤ aa) = true := decide_eq_true c5
            clear c5
            by_cases c6 : aa < (l1.length : Int)
            · rw [if_pos c6] at H
              have c6b0 : decide (aa < (l1.length : Int)) = true := decide_eq_true c6
              clear c6
              by_cases c7 : (rd l0 aa) = (rd l1 aa)
              · rw [if_pos c7] at H
                have c7b0 : ((rd l0 aa) == (rd l1 aa)) = true := beq_iff_eq.mpr c7
                have c7b1 : ((rd l0 aa) != (rd l1 aa)) = false := bne_eq_false_iff_eq.mpr c7
                clear c7
                have H' := am_ H
                clear H
                have p265 : 0 ≤ (aa : Int) := of_decide_eq_true ah_
                have q265 : aa < (l0.length : Int) := of_decide_eq_true ah_
                obtain ⟨aK, e265, aD⟩ := Kd.at_int HR0.out aa p265 q265
                cases e265
                replace p265 := eq_true p265
                replace q265 := eq_true q265
                have p266 : 0 ≤ (aa : Int) := of_decide_eq_true ah_
                have q266 : aa < (l1.length : Int) := of_decide_eq_true ah_
                obtain ⟨aL, e266, aE⟩ := Kd.at_int HR1.out aa p266 q266
                cases e266
                replace p266 := eq_true p266
                replace q266 := eq_true q266
                go_wp2
                repeat (go_quiet (fail); try go_wp2)
                go_roundg k1
                case measure => have := HK1.out; omega
                case rel => exact ⟨(wrap64 (aa + 1)), (by first | rfl | (simp; done) | (simp [*]; done)), H', ⟨by have := HK1.out; omega⟩, by repeat (first | exact Drawn0.refl _ | apply Drawn0.step)⟩
              · rw [if_neg c7] at H
                have c7b0 : ((rd l0 aa) == (rd l1 aa)) = false := beq_eq_false_iff_ne.mpr c7
                have c7b1 : ((rd l0 aa) != (rd l1 aa)) = true := bne_iff_ne.mpr c7
                obtain rfl := Option.some.inj H
                simp only [Option.some.injEq, Prod.mk.injEq] at H
                obtain ⟨rfl⟩ := H
                have p265 : 0 ≤ (aa : Int) := of_decide_eq_true ah_
                have q265 : aa < (l0.length : Int) := of_decide_eq_true ah_
                obtain ⟨aK, e265, aD⟩ := Kd.at_int HR0.out aa p265 q265
                cases e265
                replace p265 := eq_true p265
                replace q265 := eq_true q265
                have p266 : 0 ≤ (aa : Int) := of_decide_eq_true ah_
                have q266 : aa < (l1.length : Int) := of_decide_eq_true ah_
                obtain ⟨aL, e266, aE⟩ := Kd.at_int HR1.out aa p266 q266
                cases e266
                replace p266 := eq_true p266
                replace q266 := eq_true q266
                go_wp2
                repeat (go_quiet (fail); try go_wp2)
                go_ret
                exact ⟨by first | rfl | (simp; done) | (simp [*]; done), by repeat (first | exact Drawn0.refl _ | apply Drawn0.step)⟩
            · rw [if_neg c6] at H
              exact absurd H (by simp)
          · rw [if_neg c5] at H
            exact absurd H (by simp)
        · rw [if_neg c4] at H
          have c4b0 : decide (aa < (l0.length : Int)) = false := decide_eq_false c4
          clear c4
          obtain rfl := Option.some.inj H
          simp only [Option.some.injEq, Prod.mk.injEq] at H
          obtain ⟨rfl⟩ := H
          go_wp2
          repeat (go_quiet (fail); try go_wp2)
          go_ret
          exact ⟨by first | rfl | (simp; done) | (simp [*]; done), by repeat (first | exact Drawn0.refl _ | apply Drawn0.step)⟩
  · rw [if_neg c3] at H
    have c3b0 : ((l0.length : Int) == (l1.length : Int)) = false := beq_eq_false_iff_ne.mpr c3
    have c3b1 : ((l0.length : Int) != (l1.length : Int)) = true := bne_iff_ne.mpr c3
    have c3b2 : (l0.length == l1.length) = false := by first | simpa using c3 | (simp at c3 ⊢; omega)
    obtain rfl := Option.some.inj H
    simp only [Option.some.injEq, Prod.mk.injEq] at H
    obtain ⟨rfl⟩ := H
    go_enter Try.func35, Try.ntmps35
    go_wp2
    repeat (go_quiet (fail); try go_wp2)
    go_ret
    exact ⟨by first | rfl | (simp; done) | (simp [*]; done), by repeat (first | exact Drawn0.refl _ | apply Drawn0.step)⟩
def spec_l6Move.l0 : Nat → List Int → Int → List Int → Int → List Bool → List (List Int) → Option (List Int)
  | 0, _, _, _, _, _, _ => none
  | k + 1, x1, x2, x7, x8, aF, al => if x8 < (x1.length : Int) then (if 0 ≤ x8 then (if 0 ≤ (rd x1 x8) then (if (rd x1 x8) < (al.length : Int) then (if 0 ≤ x2 then (if x2 < ((rd_L1 al (rd x1 x8)).length : Int) then ((spec_l6Put.f k x7 (rd (rd_L1 al (rd x1 x8)) x2)).bind fun au => (spec_l6Move.l0 k x1 x2 au (wrap64 (x8 + 1)) aF al)) else (none)) else (none)) else (none)) else (none)) else (none)) else (some x7)
def spec_l6Move.f (k : Nat) (l0_0 : List Bool) (l0_1 : List (List Int)) (l1 : List Int) (a2 : Int) : Option (List Int) := spec_l6Move.l0 k l1 a2 (([] : List Int)) 0 l0_0 l0_1
theorem spec_l6Move.mono_l : ∀ k, (∀ y0 y1 y2 y3 y4 y5, LeO (spec_l6Move.l0 k y0 y1 y2 y3 y4 y5) (spec_l6Move.l0 (k + 1) y0 y1 y2 y3 y4 y5))
 | 0 => fun _ _ _ _ _ _ r h => by simp [spec_l6Move.l0] at h
 | k + 1 => by
  have ih0 := spec_l6Move.mono_l k
  ·intro y0 y1 y2 y3 y4 y5
   unfold spec_l6Move.l0
   repeat' first
   | (with_reducible exact ih0 _ _ _ _ _ _)
   | (with_reducible exact spec_l6Put.mono _ _ _)
   | (with_reducible exact LeO.refl _)
   | (with_reducible exact LeO.none _)
   | (with_reducible refine LeO.ite ?_ ?_)
   | (with_reducible refine LeO.bind ?_ (fun _ => ?_))
   | exact ih0 _ _ _ _ _ _
   | exact spec_l6Put.mono _ _ _
   | exact LeO.none _
   | refine LeO.ite ?_ ?_
   | refine LeO.bind ?_ (fun _ => ?_)
theorem spec_l6Move.mono : ∀ a0 a1 a2 a3 k, LeO (spec_l6Move.f k a0 a1 a2 a3) (spec_l6Move.f (k + 1) a0 a1 a2 a3) := by
 intro a0 a1 a2 a3 k
 have ih0 := spec_l6Move.mono_l k
 unfold spec_l6Move.f
 repeat' first
   | (with_reducible exact ih0 _ _ _ _ _ _)
   | (with_reducible exact spec_l6Put.mono _ _ _)
   | (with_reducible exact LeO.refl _)
   | (with_reducible exact LeO.none _)
   | (with_reducible refine LeO.ite ?_ ?_)
   | (with_reducible refine LeO.bind ?_ (fun _ => ?_))
   | exact ih0 _ _ _ _ _ _
   | exact spec_l6Put.mono _ _ _
   | exact LeO.none _
   | refine LeO.ite ?_ ?_
   | refine LeO.bind ?_ (fun _ => ?_)
def spec_l6Move.T5 : Bool × List (List Nat × List Nat) := (true, [([], []), ([], []), ([1], [1]), ([], []), ([], []), ([3, 4], [3, 4]), ([5], [5]), ([2, 6], [2, 6]), ([7], [7]), ([], []), ([8, 9], [8, 9]), ([10], [10]), ([0, 11], [0, 11]), ([12, 12, 0, 1, 2, 3, 4, 5, 6, 7, 8, 9, 10, 11, 12], [0, 12])])
def spec_l6Move.B5 : List Nat := [0, 0, 2, 0, 0, 24, 56, 126, 254, 0, 1022, 2046, 4095, 8191]
theorem spec_l6Move.tab5 : rtab .any (opsOf Try.f36 5) = spec_l6Move.T5 := by kernel_rfl
theorem spec_l6Move.bits5 : waitsOk spec_l6Move.T5.2 spec_l6Move.B5 = true := by kernel_rfl
theorem zp13_0_ {p q g1 : Prop} (h : p) (h1 : g1) (c : p → g1 → q := by intro h_ h1_; repeat (first | (with_reducible first | exact h_ | apply below_alloc | apply pw_below_drewN | apply below_drew1 | refine below_set ?_ h1_) | exact h_)) : q := c h h1
theorem zp13_1_ {p q : Prop} (h : p) (c : p → q := by intro h_; repeat (first | (with_reducible first | exact h_ | apply Kept.alloc | apply Kept.drewN | apply Kept.drew) | exact h_)) : q := c h
theorem zp13_2_ {p q : Prop} (h : p) (c : p → q := by intro h_; repeat (first | (with_reducible first | exact h_ | apply below_alloc | apply pw_below_drewN | apply below_drew1) | exact h_)) : q := c h
set_option maxHeartbeats 8000000 in
set_option maxRecDepth 100000 in
theorem spec_l6Move.calls (k : Nat) (A0_0 : Option Addr) (c0_0 : Nat) (l0_0 : List Bool) (A0_1 : Option Addr) (c0_1 : Nat) (l0_1 : List (List Int)) (A1 : Option Addr) (c1 : Nat) (l1 : List Int) (a2 : Int) (r : List Int) (w : World) (hr0_0 : Kd.C Kd.bool w A0_0 l0_0.length l0_0) (hc0_0 : l0_0.length ≤ c0_0) (hr0_1 : Kd.C (Kd.slice 3 (Kd.int .i64)) w A0_1 l0_1.length l0_1) (hc0_1 : l0_1.length ≤ c0_1) (hr1 : Kd.C (Kd.int .i64) w A1 l1.length l1) (hc1 : l1.length ≤ c1) (h : spec_l6Move.f k l0_0 l0_1 l1 a2 = some r) :
  Calls Try.prog 36 #[.agg #[.slice A0_0 l0_0.length c0_0, .slice A0_1 l0_1.length c0_1], .slice A1 l1.length c1, .int .i64 a2] w fun e w' => ∃ v0_ : Value, e = .returned (v0_) ∧ Kd.R (Kd.int .i64) 3 w' w.heap.size (fun _ => True) v0_ r ∧ Below w.heap.size w w' := by
 have hu28 := Try.underlying28
 have aV := am_ hr0_0
 have aW := am_ hc0_0
 clear hr0_0 hc0_0
 have aM := am_ hr0_1
 have aX := am_ hc0_1
 clear hr0_1 hc0_1
 have HR1 := am_ hr1
 have HC1 := am_ hc1
 clear hr1 hc1
 have HB := am_ (Below.refl w.heap.size w)
 have H : (spec_l6Move.l0 k l1 a2 (([] : List Int)) 0 l0_0 l0_1) = some r := h
 clear h
 obtain ⟨aH, hy268⟩ : ∃ y_ : List Int, y_ = (([] : List Int)) := ⟨_, rfl⟩
 replace H : (spec_l6Move.l0 k l1 a2 aH 0 l0_0 l0_1) = some r := by first | (rw [hy268]; with_reducible exact H) | (have H2_ := (Option.bind_some _ _).symm.trans H; rw [hy268]; with_reducible exact H2_) | (have H2_ := (Option.bind_some _ _).symm.trans H; with_reducible exact H2_) | with_reducible exact H | (rw [hy268]; exact H) | exact H
 have aA := am_ hy268
 clear hy268
 have H' := am_ H
 clear H
 go_enter Try.func36, Try.ntmps36
 go_wp2_with (first | ((with_reducible refine gate_dst (N := 3) rfl ?_); refine box_event ?hg (N := 3) ?hd (cs := #[.slice A0_0 l0_0.length c0_0, .slice A0_1 l0_1.length c0_1]) (t := 28) ?hr ?_; (case hd => rfl); (case hg => rfl); (case hr => first | (go_simp; done) | (go_simp; rfl)); intro ar hg w4 hbox hb; replace af := am_ (hbox); replace aY := am_ ((by rw [hg]; exact (below_size (b0_ HB.out)) : w.heap.size ≤ ar)); replace am := am_ ((by rw [hg]; exact (below_size (b0_ HB.out)) : w.heap.size ≤ ar)); replace HB := am_ (below_step (b0_ HB.out) hb); clear hb hbox hg) | ((with_reducible refine gate_dst (N := 9) rfl ?_); refine Kd.R_lit (Kd.int .i64) _ 3 ?hg (N := 9) ?hd (xs := ([] : List Int)) (inner := []) (ok := fun _ => True) (okp := fun _ => True) ?hr ?hp (fun _ hk => hk) trivial (Below.refl _ _) (Nat.le_refl _) (by simp) ?_; (case hd => rfl); (case hg => rfl); (case hr => first | (go_simp; done) | (go_simp; rfl)); (case hp => exact (Reps.none _ _)); intro aZ w5 ho6 hb hg_ hnew_; clear hg_ hnew_; (first | rw [← aA.out] at ho6 | (simp only [Int.reduceToNat] at ho6; rw [← aA.out] at ho6)); have n0_ := am_ (Kd.R_lower ho6 (below_size (b1_ HB.out am.out))); have n1_ := am_ (blk_below (rb_ af.out) hb); have n2_ := am_ (below_step (b1_ HB.out am.out) hb); clear af; clear HB; have aN := n0_; have af := n1_; have HB := n2_; clear n0_ n1_ n2_; clear hb ho6))
 go_loopg [7, 8] k (fun kq v7 v8 w' => ∃ (aq : List Int) (ab : Int), v8 = .int .i64 ab ∧ Aside0 (spec_l6Move.l0 kq l1 a2 aq ab l0_0 l0_1 = some r) ∧ Aside0 (kq ≤ k) ∧ Aside0 (Kd.R (Kd.int .i64) 3 w' w.heap.size (fun _ => True) v7 aq) ∧ Aside0 (w'.heap[ar]? = some (.cells #[(.slice A0_0 l0_0.length c0_0), (.slice A0_1 l0_1.length c0_1)] 28 (0, 0))) ∧ Aside0 (Below w.heap.size w w'))
 case atStart => exact ⟨(aH), (0), (by first | rfl | (simp; done) | (simp [*]; done)), H', ⟨Nat.le_refl _⟩, ⟨by refine rr_ ?_; exact aN.out⟩, ⟨by refine rb_ ?_; exact af.out⟩, ⟨by exact zp13_0_ HB.out am.out⟩⟩
 case round =>
  clear H'
  try clear c1
  try clear p2
  try clear c3
  obtain ⟨aq, ab, rfl, HA, HK1, ak, af, HB⟩ := hrel
  cases gk with
  | zero => exact absurd HA.out (by simp [spec_l6Move.l0])
  | succ k1 =>
   have H := HA.out
   clear HA
   simp only [spec_l6Move.l0] at H
   by_cases c7 : ab < (l1.length : Int)
   ·rw [if_pos c7] at H
    have c7b0 : decide (ab < (l1.length : Int)) = true := decide_eq_true c7
    clear c7
    by_cases c8 : 0 ≤ ab
    ·rw [if_pos c8] at H
     have c8b0 : decide (0 ≤ ab) = true := decide_eq_true c8
     clear c8
     by_cases c9 : 0 ≤ (rd l1 ab)
     ·rw [if_pos c9] at H
      have c9b0 : decide (0 ≤ (rd l1 ab)) = true := decide_eq_true c9
      clear c9
      by_cases c10 : (rd l1 ab) < (l0_1.length : Int)
      ·rw [if_pos c10] at H
       have c10b0 : decide ((rd l1 ab) < (l0_1.length : Int)) = true := decide_eq_true c10
       clear c10
       by_cases c11 : 0 ≤ a2
       ·rw [if_pos c11] at H
        have c11b0 : decide (0 ≤ a2) = true := decide_eq_true c11
        clear c11
        by_cases c12 : a2 < ((rd_L1 l0_1 (rd l1 ab)).length : Int)
        ·rw [if_pos c12] at H
         have c12b0 : decide (a2 < ((rd_L1 l0_1 (rd l1 ab)).length : Int)) = true := decide_eq_true c12
         clear c12
         replace H := Option.bind_eq_some_iff.mp H
         obtain ⟨au, aI, H⟩ := H
         replace H : (spec_l6Move.l0 k1 l1 a2 au (wrap64 (ab + 1)) l0_0 l0_1) = some r := H
         have A13 := am_ aI
         clear aI
         have H' := am_ H
         clear H
         try go_wp2
         replace ak := am_ (Kd.R_drew ak.out)
         replace af := am_ (blk_drew af.out)
         replace HB := am_ (below_drew1 HB.out)
         have p271 : 0 ≤ (ab : Int) := of_decide_eq_true ah_
         have q271 : ab < (l1.length : Int) := of_decide_eq_true ah_
         obtain ⟨aO, e271, ah⟩ := Kd.at_int HR1.out ab p271 q271
         have an := ah
         cases e271
         replace ah := (HB.out.cell (World.block_lt_of_cell? w _ ah)).trans ah
         replace p271 := eq_true p271
         replace q271 := eq_true q271
         have p272 : 0 ≤ ((rd l1 ab) : Int) := of_decide_eq_true ah_
         have q272 : (rd l1 ab) < (l0_1.length : Int) := of_decide_eq_true ah_
         obtain ⟨aB, A272_0, c272_0, e272, ai, hl272_0, hi272_0⟩ := at_L1 aM.out (rd l1 ab) p272 q272
         have ao := ai
         cases e272
         replace ai := (HB.out.cell (World.block_lt_of_cell? w _ ai)).trans ai
         have av := am_ hi272_0
         have aU := am_ hl272_0
         clear hi272_0 hl272_0
         replace p272 := eq_true p272
         replace q272 := eq_true q272
         have p273 : 0 ≤ (a2 : Int) := of_decide_eq_true ah_
         have q273 : a2 < ((rd_L1 l0_1 (rd l1 ab)).length : Int) := of_decide_eq_true ah_
         obtain ⟨aC, e273, aj⟩ := Kd.at_int av.out a2 p273 q273
         have ap := aj
         cases e273
         replace aj := (HB.out.cell (World.block_lt_of_cell? w _ aj)).trans aj
         replace p273 := eq_true p273
         replace q273 := eq_true q273
         obtain ⟨aw, ax, aJ⟩ := Kd.R_slice ak.out
         (first | subst aJ | (injection aJ with f1_ f2_ f3_; have f4_ := f1_.symm; have f5_ := f3_.symm; clear f1_ f2_ f3_; subst f4_; subst f5_))
         refine start_ (n := 14) (S := fun w' => w'.cell? ⟨ar, 0, none⟩ = some (.slice A0_0 l0_0.length c0_0) ∧ w'.cell? ⟨ar, 1, none⟩ = some (.slice (some aB) l0_1.length c0_1) ∧ w'.cell? (aO.add (ab).toNat) = some (.int .i64 (rd l1 ab)) ∧ w'.cell? (aB.add ((rd l1 ab)).toNat) = some (.slice (some aC) (rd_L1 l0_1 (rd l1 ab)).length c272_0) ∧ w'.cell? (aC.add (a2).toNat) = some (.int .i64 (rd (rd_L1 l0_1 (rd l1 ab)) a2))) (ds := []) (bl 14 0) (by kernel_rfl) rfl rfl ⟨(blk_cell af.out 0).trans rfl, (blk_cell af.out 1).trans rfl, ((HB.out.cell (World.block_lt_of_cell? w _ an)).trans an), ((HB.out.cell (World.block_lt_of_cell? w _ ao)).trans ao), ((HB.out.cell (World.block_lt_of_cell? w _ ap)).trans ap)⟩ (fun hHeld => ?_); refine with_tabW spec_l6Move.tab5 spec_l6Move.bits5 (fun HT_ HW_ => ?_)
         generalize wr.drew = w14 at ak af HB av ah ai aj hHeld ⊢
         refine pu_ 0 16 (bl 14 1) HT_ ?_
         refine pu_ 1 17 (bl 14 3) HT_ ?_
         refine pu_ 3 19 (bl 14 11) HT_ ?_
         refine pu_ 4 20 (bl 14 27) HT_ ?_
         refine pu_ 5 21 (bl 14 59) HT_ ?_
         refine pu_ 9 25 (bl 14 571) HT_ ?_
         refine tk_ 2 18 (bl 14 575) HT_ HW_ hHeld ?_
         refine tk_ 6 22 (bl 14 639) HT_ HW_ hHeld ?_
         refine pu_ 7 23 (bl 14 767) HT_ ?_
         refine tk_ 8 24 (bl 14 1023) HT_ HW_ hHeld ?_
         refine pu_ 10 26 (bl 14 2047) HT_ ?_
         refine tk_ 11 27 (bl 14 4095) HT_ HW_ hHeld ?_
         refine on_ 12 (some 28) (bl 14 8191) HT_ (fun K hK => ?_)
         refine gO_ Try.func25 #[.slice aw aq.length ax, .int .i64 (rd (rd_L1 l0_1 (rd l1 ab)) a2)] ?_
         with_reducible refine (spec_l6Put.calls k1 (fun k_ => some k_ = (.slice aw aq.length ax : Value).ownBlock) (.slice aw aq.length ax) aq (rd (rd_L1 l0_1 (rd l1 ab)) a2) au w _ ?side1 ?side2 A13.out).mono ?_
         (case side1 => exact zp13_0_ HB.out am.out)
         (case side2 => exact Kd.R_tight rfl ak.out)
         rintro e w16 ⟨ba, rfl, ho0, hb, hkp⟩
         refine ⟨_, rfl, ?_⟩
         replace af := am_ (blk_kept (rb_ af.out) hkp (fun hs_ => (fun e_ => (Kd.R_ne ak.out af.out (by decide)) e_) hs_))
         replace aP := am_ (Kd.R_mono (ok' := fun k_ => True) ho0 (fun k_ hk_ => trivial))
         replace HB := am_ (hb)
         clear ak
         (try clear hb)
         (try clear hkp)
         (try clear ho0)
         refine hK.out _ _ ⟨(blk_cell af.out 0).trans rfl, (blk_cell af.out 1).trans rfl, ((HB.out.cell (World.block_lt_of_cell? w _ an)).trans an), ((HB.out.cell (World.block_lt_of_cell? w _ ao)).trans ao), ((HB.out.cell (World.block_lt_of_cell? w _ ap)).trans ap)⟩ (fun hHeld => ?_)
         clear hK K
         refine norm_ (a' := ?_) ?_ ?_
         rotate_left
         ·show Act.put _ (some 28) _ = _
          simp only [pn_, sz_, ss_, i64_w, i32_w]
          rfl
         refine pu_ 13 7 (bl 14 16383) HT_ ?_
         refine done_ (done_of HT_.out (by kernel_rfl)) ?_
         try go_wp2
         go_roundg k1
         case measure => have := HK1.out; omega
         case rel => exact ⟨(au), (wrap64 (ab + 1)), (by first | rfl | (simp; done) | (simp [*]; done)), H', ⟨by have := HK1.out; omega⟩, ⟨by refine rr_ ?_; exact aP.out⟩, ⟨by refine rb_ ?_; exact af.out⟩, ⟨by exact zp13_0_ HB.out am.out⟩⟩
        ·rw [if_neg c12] at H
         exact absurd H (by simp)
       ·rw [if_neg c11] at H
        exact absurd H (by simp)
      ·rw [if_neg c10] at H
       exact absurd H (by simp)
     ·rw [if_neg c9] at H
      exact absurd H (by simp)
    ·rw [if_neg c8] at H
     exact absurd H (by simp)
   ·rw [if_neg c7] at H
    have c7b0 : decide (ab < (l1.length : Int)) = false := decide_eq_false c7
    clear c7
    obtain rfl := Option.some.inj H
    simp only [Option.some.injEq, Prod.mk.injEq] at H
    obtain ⟨rfl⟩ := H
    go_wp2
    go_ret
    exact ⟨_, by first | rfl | (simp [errW_none, errW_some] <;> rfl) | (simp [*, errW_none, errW_some] <;> rfl), by refine rr_ ?_; exact ak.out, by exact zp13_0_ HB.out am.out⟩
def laws_markBoolS.l0 : Nat → List Bool → Int → Int → Option (Int × List Bool)
  | 0, _, _, _ => none
  | k + 1, x0, x1, x5 => if x5 < (x0.length : Int) then (if 0 ≤ x5 then (laws_markBoolS.l0 k (x0.set (x5 : Int).toNat ((Int.tmod x1 3) == 0)) (wrap64 (x1 + 1)) (wrap64 (x5 + 1))) else (none)) else (some (x1, x0))
def laws_markBoolS.f (k : Nat) (l0 : List Bool) (a1 : Int) : Option (Int × List Bool) := laws_markBoolS.l0 k l0 a1 0
theorem laws_markBoolS.mono_l : ∀ k, (∀ y0 y1 y2, LeO (laws_markBoolS.l0 k y0 y1 y2) (laws_markBoolS.l0 (k + 1) y0 y1 y2))
  | 0 => fun _ _ _ r h => by simp [laws_markBoolS.l0] at h
  | k + 1 => by
    have ih0 := laws_markBoolS.mono_l k
    · intro y0 y1 y2
      unfold laws_markBoolS.l0
      repeat' first
      | (with_reducible exact ih0 _ _ _)
      | (with_reducible exact LeO.refl _)
      | (with_reducible exact LeO.none _)
      | (with_reducible refine LeO.ite ?_ ?_)
      | (with_reducible refine LeO.bind ?_ (fun _ => ?_))
      | exact ih0 _ _ _
      | exact LeO.none _
      | refine LeO.ite ?_ ?_
      | refine LeO.bind ?_ (fun _ => ?_)
theorem laws_markBoolS.mono : ∀ a0 a1 k, LeO (laws_markBoolS.f k a0 a1) (laws_markBoolS.f (k + 1) a0 a1) := by
  intro a0 a1 k
  have ih0 := laws_markBoolS.mono_l k
  unfold laws_markBoolS.f
  repeat' first
      | (with_reducible exact ih0 _ _ _)
      | (with_reducible exact LeO.refl _)
      | (with_reducible exact LeO.none _)
      | (with_reducible refine LeO.ite ?_ ?_)
      | (with_reducible refine LeO.bind ?_ (fun _ => ?_))
      | exact ih0 _ _ _
      | exact LeO.none _
      | refine LeO.ite ?_ ?_
      | refine LeO.bind ?_ (fun _ => ?_)
set_option maxHeartbeats 8000000 in
set_option maxRecDepth 100000 in
theorem laws_markBoolS.calls (k : Nat) (P0_ : Nat → Prop) (u9000_ : Value) (l0 : List Bool) (a1 : Int) (r1 : Int) (r2 : List Bool) (w0 w : World) (hB : Below w0.heap.size w0 w) (ho0 : Kd.R Kd.bool 4 w w0.heap.size P0_ u9000_ l0) (h : laws_markBoolS.f k l0 a1 = some (r1, r2)) :
    Calls Try.prog 15 #[u9000_, .int .i64 a1] w fun e w' => e = .returned (.int .i64 r1) ∧ Kd.R Kd.bool 4 w' w0.heap.size (fun k_ => (P0_ k_ ∨ w.heap.size ≤ k_)) u9000_ r2 ∧ Below w0.heap.size w0 w' ∧ Kept w w' (fun k_ => P0_ k_) := by
  have HO0 := am_ (show Kd.R Kd.bool 4 w w0.heap.size (fun k_ => (P0_ k_ ∨ w.heap.size ≤ k_)) u9000_ l0 from Kd.R_mono ho0 (fun k_ hk => (.inl hk)))
  have HK := am_ (Kept.refl w (fun k_ => P0_ k_))
  have HW0 := am_ hB.size
  have HB := am_ hB
  clear hB
  have H : (laws_markBoolS.l0 k l0 a1 0) = some (r1, r2) := h
  clear h
  have H' := am_ H
  clear H
  go_enter Try.func15, Try.ntmps15
  go_wp2
  go_loopg [1, 5] k (fun kq v1 v5 w' => ∃ (ag : List Bool) (ad : Int) (aa : Int), v1 = .int .i64 ad ∧ v5 = .int .i64 aa ∧ Aside0 (laws_markBoolS.l0 kq ag ad aa = some (r1, r2)) ∧ Aside0 (kq ≤ k) ∧ Aside0 (Kd.R Kd.bool 4 w' w0.heap.size (fun k_ => (P0_ k_ ∨ w.heap.size ≤ k_)) u9000_ ag) ∧ Aside0 (Kept w w' (fun k_ => P0_ k_)) ∧ Aside0 (Below w0.heap.size w0 w'))
  case atStart => exact ⟨(l0), (a1), (0), (by first | rfl | (simp; done) | (simp [*]; done)), (by first | rfl | (simp; done) | (simp [*]; done)), H', ⟨Nat.le_refl _⟩, ⟨by refine rr_ ?_; exact HO0.out⟩, ⟨by exact zp13_1_ HK.out⟩, ⟨by exact zp13_2_ HB.out⟩⟩
  case round =>
    clear H'
    try clear c1
    try clear p2
    obtain ⟨ag, ad, aa, rfl, rfl, HA, HK1, ae, HK, HB⟩ := hrel
    cases gk with
    | zero => exact absurd HA.out (by simp [laws_markBoolS.l0])
    | succ k1 =>
      have H := HA.out
      clear HA
      simp only [laws_markBoolS.l0] at H
      by_cases c3 : aa < (ag.length : Int)
      · rw [if_pos c3] at H
        have c3b0 : decide (aa < (ag.length : Int)) = true := decide_eq_true c3
        clear c3
        by_cases c4 : 0 ≤ aa
        · rw [if_pos c4] at H
          have c4b0 : decide (0 ≤ aa) = true := decide_eq_true c4
          clear c4
          obtain ⟨ay, hy315⟩ : ∃ y_ : List Bool, y_ = (ag.set (aa : Int).toNat ((Int.tmod ad 3) == 0)) := ⟨_, rfl⟩
          replace H : (laws_markBoolS.l0 k1 ay (wrap64 (ad + 1)) (wrap64 (aa + 1))) = some (r1, r2) := by first | (rw [hy315]; with_reducible exact H) | (have H2_ := (Option.bind_some _ _).symm.trans H; rw [hy315]; with_reducible exact H2_) | (have H2_ := (Option.bind_some _ _).symm.trans H; with_reducible exact H2_) | with_reducible exact H | (rw [hy315]; exact H) | exact H
          have aQ := am_ hy315
          clear hy315
          have H' := am_ H
          clear H
          obtain ⟨Ao6, co6, eo6⟩ := Kd.R_slice ae.out
          subst eo6
          have p5 : 0 ≤ (aa : Int) := of_decide_eq_true ah_
          have q5 : (aa : Int) < ((ag.length : Int) : Int) := of_decide_eq_true ah_
          obtain ⟨go5, co5, eo5, gb5, gl5, cl5, HG5⟩ := Kd.R_form ae.out (by omega)
          (first | cases eo5 | (injection eo5 with ea_ en_ ec_; (first | subst ea_ | (injection ea_ with ea_; subst ea_)); subst ec_; clear en_))
          have GB5 := am_ gb5
          have GG5 := am_ HG5
          clear gb5 gl5 HG5
          have HMgo5 := am_ (show (P0_ go5 ∨ w.heap.size ≤ go5) from (ae.out.1 _ rfl))
          obtain ⟨aR, hf5_0⟩ := Kd.R_celln false ae.out (aa : Int) p5 q5
          replace p5 := eq_true p5
          replace q5 := eq_true q5
          have HP7 := Kd.R_putg ae.out (aa : Int) ((Int.tmod ad 3) == 0)
          go_wp2_with (first | ((with_reducible refine gate_store (t := 4) (p := 17) rfl ?_); refine store_event (t := 4) (p := 17) (v := ?vo_w8) (w1 := (wr.setCell ⟨go5, (aa : Int).toNat, none⟩ (.bool ((Int.tmod ad 3) == 0)))) ?hg ?ho ?hn ?hr ?_; (case ho => rfl); (case hg => rfl); (case hn => rfl); (case hr => first | (go_simp; done) | (go_simp; rfl)); intro w8 hw; have hg : wr.grownBy w8 (some go5) := (by rw [hw]; exact HP7.2); have hp_ : Kd.R Kd.bool 4 w8 w0.heap.size (fun k_ => (P0_ k_ ∨ w.heap.size ≤ k_)) (.slice (some ⟨go5, 0, none⟩) ag.length co6) ay := (by rw [hw, aQ.out]; exact HP7.1); clear HP7; have n0_ := am_ (hp_); have n1_ := am_ ((by rw [hw]; exact below_set (HB.out) GB5.out : Below w0.heap.size w0 w8)); have n2_ := am_ (Kept.of_grown (S := (fun k_ => P0_ k_)) hg (zp13_1_ HK.out) (fun k_ e_ => (ae.out.1 k_ e_))); clear ae; clear HB; clear HK; have ae := n0_; have HB := n1_; have HK := n2_; clear n0_ n1_ n2_; clear hg hw hp_))
          go_roundg k1
          case measure => have := HK1.out; omega
          case rel => exact ⟨(ay), (wrap64 (ad + 1)), (wrap64 (aa + 1)), (by first | rfl | (simp; done) | (simp [*]; done)), (by first | rfl | (simp; done) | (simp [*]; done)), H', ⟨by have := HK1.out; omega⟩, ⟨by refine rr_ ?_; exact ae.out⟩, ⟨by exact zp13_1_ HK.out⟩, ⟨by exact zp13_2_ HB.out⟩⟩
        · rw [if_neg c4] at H
          exact absurd H (by simp)
      · rw [if_neg c3] at H
        have c3b0 : decide (aa < (ag.length : Int)) = false := decide_eq_false c3
        clear c3
        simp only [Option.some.injEq, Prod.mk.injEq] at H
        obtain ⟨rfl, rfl⟩ := H
        obtain ⟨Ao9, co9, eo9⟩ := Kd.R_slice ae.out
        subst eo9
        go_wp2
        go_ret
        exact ⟨by first | rfl | (simp [errW_none, errW_some] <;> rfl) | (simp [*, errW_none, errW_some] <;> rfl), by refine rr_ ?_; exact ae.out, by exact zp13_2_ HB.out, by exact zp13_1_ HK.out⟩
def laws_markIntS.l0 : Nat → List Int → Int → Int → Option (Int × List Int)
  | 0, _, _, _ => none
  | k + 1, x0, x1, x5 => if x5 < (x0.length : Int) then (if 0 ≤ x5 then (laws_markIntS.l0 k (x0.set (x5 : Int).toNat x1) (wrap64 (x1 + 1)) (wrap64 (x5 + 1))) else (none)) else (some (x1, x0))
def laws_markIntS.f (k : Nat) (l0 : List Int) (a1 : Int) : Option (Int × List Int) := laws_markIntS.l0 k l0 a1 0
theorem laws_markIntS.mono_l : ∀ k, (∀ y0 y1 y2, LeO (laws_markIntS.l0 k y0 y1 y2) (laws_markIntS.l0 (k + 1) y0 y1 y2))
  | 0 => fun _ _ _ r h => by simp [laws_markIntS.l0] at h
  | k + 1 => by
    have ih0 := laws_markIntS.mono_l k
    · intro y0 y1 y2
      unfold laws_markIntS.l0
      repeat' first
      | (with_reducible exact ih0 _ _ _)
      | (with_reducible exact LeO.refl _)
      | (with_reducible exact LeO.none _)
      | (with_reducible refine LeO.ite ?_ ?_)
      | (with_reducible refine LeO.bind ?_ (fun _ => ?_))
      | exact ih0 _ _ _
      | exact LeO.none _
      | refine LeO.ite ?_ ?_
      | refine LeO.bind ?_ (fun _ => ?_)
theorem laws_markIntS.mono : ∀ a0 a1 k, LeO (laws_markIntS.f k a0 a1) (laws_markIntS.f (k + 1) a0 a1) := by
  intro a0 a1 k
  have ih0 := laws_markIntS.mono_l k
  unfold laws_markIntS.f
  repeat' first
      | (with_reducible exact ih0 _ _ _)
      | (with_reducible exact LeO.refl _)
      | (with_reducible exact LeO.none _)
      | (with_reducible refine LeO.ite ?_ ?_)
      | (with_reducible refine LeO.bind ?_ (fun _ => ?_))
      | exact ih0 _ _ _
      | exact LeO.none _
      | refine LeO.ite ?_ ?_
      | refine LeO.bind ?_ (fun _ => ?_)
set_option maxHeartbeats 8000000 in
set_option maxRecDepth 100000 in
theorem laws_markIntS.calls (k : Nat) (P0_ : Nat → Prop) (u9000_ : Value) (l0 : List Int) (a1 : Int) (r1 : Int) (r2 : List Int) (w0 w : World) (hB : Below w0.heap.size w0 w) (ho0 : Kd.R (Kd.int .i64) 3 w w0.heap.size P0_ u9000_ l0) (h : laws_markIntS.f k l0 a1 = some (r1, r2)) :
    Calls Try.prog 55 #[u9000_, .int .i64 a1] w fun e w' => e = .returned (.int .i64 r1) ∧ Kd.R (Kd.int .i64) 3 w' w0.heap.size (fun k_ => (P0_ k_ ∨ w.heap.size ≤ k_)) u9000_ r2 ∧ Below w0.heap.size w0 w' ∧ Kept w w' (fun k_ => P0_ k_) := by
  have HO0 := am_ (show Kd.R (Kd.int .i64) 3 w w0.heap.size (fun k_ => (P0_ k_ ∨ w.heap.size ≤ k_)) u9000_ l0 from Kd.R_mono ho0 (fun k_ hk => (.inl hk)))
  have HK := am_ (Kept.refl w (fun k_ => P0_ k_))
  have HW0 := am_ hB.size
  have HB := am_ hB
  clear hB
  have H : (laws_markIntS.l0 k l0 a1 0) = some (r1, r2) := h
  clear h
  have H' := am_ H
  clear H
  go_enter Try.func55, Try.ntmps55
  go_wp2
  go_loopg [1, 5] k (fun kq v1 v5 w' => ∃ (ag : List Int) (ad : Int) (aa : Int), v1 = .int .i64 ad ∧ v5 = .int .i64 aa ∧ Aside0 (laws_markIntS.l0 kq ag ad aa = some (r1, r2)) ∧ Aside0 (kq ≤ k) ∧ Aside0 (Kd.R (Kd.int .i64) 3 w' w0.heap.size (fun k_ => (P0_ k_ ∨ w.heap.size ≤ k_)) u9000_ ag) ∧ Aside0 (Kept w w' (fun k_ => P0_ k_)) ∧ Aside0 (Below w0.heap.size w0 w'))
  case atStart => exact ⟨(l0), (a1), (0), (by first | rfl | (simp; done) | (simp [*]; done)), (by first | rfl | (simp; done) | (simp [*]; done)), H', ⟨Nat.le_refl _⟩, ⟨by refine rr_ ?_; exact HO0.out⟩, ⟨by exact zp13_1_ HK.out⟩, ⟨by exact zp13_2_ HB.out⟩⟩
  case round =>
    clear H'
    try clear p2
    obtain ⟨ag, ad, aa, rfl, rfl, HA, HK1, ae, HK, HB⟩ := hrel
    cases gk with
    | zero => exact absurd HA.out (by simp [laws_markIntS.l0])
    | succ k1 =>
      have H := HA.out
      clear HA
      simp only [laws_markIntS.l0] at H
      by_cases c3 : aa < (ag.length : Int)
      · rw [if_pos c3] at H
        have c3b0 : decide (aa < (ag.length : Int)) = true := decide_eq_true c3
        clear c3
        by_cases c4 : 0 ≤ aa
        · rw [if_pos c4] at H
          have c4b0 : decide (0 ≤ aa) = true := decide_eq_true c4
          clear c4
          obtain ⟨az, hy316⟩ : ∃ y_ : List Int, y_ = (ag.set (aa : Int).toNat ad) := ⟨_, rfl⟩
          replace H : (laws_markIntS.l0 k1 az (wrap64 (ad + 1)) (wrap64 (aa + 1))) = some (r1, r2) := by first | (rw [hy316]; with_reducible exact H) | (have H2_ := (Option.bind_some _ _).symm.trans H; rw [hy316]; with_reducible exact H2_) | (have H2_ := (Option.bind_some _ _).symm.trans H; with_reducible exact H2_) | with_reducible exact H | (rw [hy316]; exact H) | exact H
          have aS := am_ hy316
          clear hy316
          have H' := am_ H
          clear H
          obtain ⟨Ao6, co6, eo6⟩ := Kd.R_slice ae.out
          subst eo6
          have p5 : 0 ≤ (aa : Int) := of_decide_eq_true ah_
          have q5 : (aa : Int) < ((ag.length : Int) : Int) := of_decide_eq_true ah_
          obtain ⟨go5, co5, eo5, gb5, gl5, cl5, HG5⟩ := Kd.R_form ae.out (by omega)
          (first | cases eo5 | (injection eo5 with ea_ en_ ec_; (first | subst ea_ | (injection ea_ with ea_; subst ea_)); subst ec_; clear en_))
          have GB5 := am_ gb5
          have GG5 := am_ HG5
          clear gb5 gl5 HG5
          have HMgo5 := am_ (show (P0_ go5 ∨ w.heap.size ≤ go5) from (ae.out.1 _ rfl))
          obtain ⟨aR, hf5_0⟩ := Kd.R_celln 0 ae.out (aa : Int) p5 q5
          replace p5 := eq_true p5
          replace q5 := eq_true q5
          have HP7 := Kd.R_putg ae.out (aa : Int) ad
          go_wp2_with (first | ((with_reducible refine gate_store (t := 3) (p := 15) rfl ?_); refine store_event (t := 3) (p := 15) (v := ?vo_w8) (w1 := (wr.setCell ⟨go5, (aa : Int).toNat, none⟩ (.int .i64 ad))) ?hg ?ho ?hn ?hr ?_; (case ho => rfl); (case hg => rfl); (case hn => rfl); (case hr => first | (go_simp; done) | (go_simp; rfl)); intro w8 hw; have hg : wr.grownBy w8 (some go5) := (by rw [hw]; exact HP7.2); have hp_ : Kd.R (Kd.int .i64) 3 w8 w0.heap.size (fun k_ => (P0_ k_ ∨ w.heap.size ≤ k_)) (.slice (some ⟨go5, 0, none⟩) ag.length co6) az := (by rw [hw, aS.out]; exact HP7.1); clear HP7; have n0_ := am_ (hp_); have n1_ := am_ ((by rw [hw]; exact below_set (HB.out) GB5.out : Below w0.heap.size w0 w8)); have n2_ := am_ (Kept.of_grown (S := (fun k_ => P0_ k_)) hg (zp13_1_ HK.out) (fun k_ e_ => (ae.out.1 k_ e_))); clear ae; clear HB; clear HK; have ae := n0_; have HB := n1_; have HK := n2_; clear n0_ n1_ n2_; clear hg hw hp_))
          go_roundg k1
          case measure => have := HK1.out; omega
          case rel => exact ⟨(az), (wrap64 (ad + 1)), (wrap64 (aa + 1)), (by first | rfl | (simp; done) | (simp [*]; done)), (by first | rfl | (simp; done) | (simp [*]; done)), H', ⟨by have := HK1.out; omega⟩, ⟨by refine rr_ ?_; exact ae.out⟩, ⟨by exact zp13_1_ HK.out⟩, ⟨by exact zp13_2_ HB.out⟩⟩
        · rw [if_neg c4] at H
          exact absurd H (by simp)
      · rw [if_neg c3] at H
        have c3b0 : decide (aa < (ag.length : Int)) = false := decide_eq_false c3
        clear c3
        simp only [Option.some.injEq, Prod.mk.injEq] at H
        obtain ⟨rfl, rfl⟩ := H
        obtain ⟨Ao9, co9, eo9⟩ := Kd.R_slice ae.out
        subst eo9
        go_wp2
        go_ret
        exact ⟨by first | rfl | (simp [errW_none, errW_some] <;> rfl) | (simp [*, errW_none, errW_some] <;> rfl), by refine rr_ ?_; exact ae.out, by exact zp13_2_ HB.out, by exact zp13_1_ HK.out⟩
def laws_heldBoolS.l0 : Nat → List Bool → Int → Int → Option (Int)
  | 0, _, _, _ => none
  | k + 1, x0, x1, x5 => if x5 < (x0.length : Int) then (if 0 ≤ x5 then (if ((rdOf false x0 x5) != ((Int.tmod x1 3) == 0)) = true then (some (-1)) else (laws_heldBoolS.l0 k x0 (wrap64 (x1 + 1)) (wrap64 (x5 + 1)))) else (none)) else (some x1)
def laws_heldBoolS.f (k : Nat) (l0 : List Bool) (a1 : Int) : Option (Int) := laws_heldBoolS.l0 k l0 a1 0
theorem laws_heldBoolS.mono_l : ∀ k, (∀ y0 y1 y2, LeO (laws_heldBoolS.l0 k y0 y1 y2) (laws_heldBoolS.l0 (k + 1) y0 y1 y2))
  | 0 => fun _ _ _ r h => by simp [laws_heldBoolS.l0] at h
  | k + 1 => by
    have ih0 := laws_heldBoolS.mono_l k
    · intro y0 y1 y2
      unfold laws_heldBoolS.l0
      repeat' first
      | (with_reducible exact ih0 _ _ _)
      | (with_reducible exact LeO.refl _)
      | (with_reducible exact LeO.none _)
      | (with_reducible refine LeO.ite ?_ ?_)
      | (with_reducible refine LeO.bind ?_ (fun _ => ?_))
      | exact ih0 _ _ _
      | exact LeO.none _
      | refine LeO.ite ?_ ?_
      | refine LeO.bind ?_ (fun _ => ?_)
theorem laws_heldBoolS.mono : ∀ a0 a1 k, LeO (laws_heldBoolS.f k a0 a1) (laws_heldBoolS.f (k + 1) a0 a1) := by
  intro a0 a1 k
  have ih0 := laws_heldBoolS.mono_l k
  unfold laws_heldBoolS.f
  repeat' first
      | (with_reducible exact ih0 _ _ _)
      | (with_reducible exact LeO.refl _)
      | (with_reducible exact LeO.none _)
      | (with_reducible refine LeO.ite ?_ ?_)
      | (with_reducible refine LeO.bind ?_ (fun _ => ?_))
      | exact ih0 _ _ _
      | exact LeO.none _
      | refine LeO.ite ?_ ?_
      | refine LeO.bind ?_ (fun _ => ?_)
set_option maxHeartbeats 8000000 in
set_option maxRecDepth 100000 in
theorem laws_heldBoolS.calls (k : Nat) (A0 : Option Addr) (c0 : Nat) (l0 : List Bool) (a1 : Int) (r : Int) (w : World) (hr0 : Kd.C Kd.bool w A0 l0.length l0) (hc0 : l0.length ≤ c0) (h : laws_heldBoolS.f k l0 a1 = some r) :
    Calls Try.prog 16 #[.slice A0 l0.length c0, .int .i64 a1] w fun e w' => e = .returned (.int .i64 r) ∧ Drawn0 w w' := by
  have HR0 := am_ hr0
  have HC0 := am_ hc0
  clear hr0 hc0
  have H : (laws_heldBoolS.l0 k l0 a1 0) = some r := h
  clear h
  have H' := am_ H
  clear H
  go_enter Try.func16, Try.ntmps16
  go_wp2
  go_loopg [1, 5] k (fun kq v1 v5 w' => ∃ (ad : Int) (aa : Int), v1 = .int .i64 ad ∧ v5 = .int .i64 aa ∧ Aside0 (laws_heldBoolS.l0 kq l0 ad aa = some r) ∧ Aside0 (kq ≤ k) ∧ Drawn0 w w')
  case atStart => exact ⟨(a1), (0), (by first | rfl | (simp; done) | (simp [*]; done)), (by first | rfl | (simp; done) | (simp [*]; done)), H', ⟨Nat.le_refl _⟩, by repeat (first | exact Drawn0.refl _ | apply Drawn0.step)⟩
  case round =>
    clear H'
    try clear c1
    try clear p2
    obtain ⟨ad, aa, rfl, rfl, HA, HK1, ⟨m1, rfl⟩⟩ := hrel
    cases gk with
    | zero => exact absurd HA.out (by simp [laws_heldBoolS.l0])
    | succ k1 =>
      have H := HA.out
      clear HA
      simp only [laws_heldBoolS.l0] at H
      by_cases c3 : aa < (l0.length : Int)
      · rw [if_pos c3] at H
        have c3b0 : decide (aa < (l0.length : Int)) = true := decide_eq_true c3
        clear c3
        by_cases c4 : 0 ≤ aa
        · rw [if_pos c4] at H
          have c4b0 : decide (0 ≤ aa) = true := decide_eq_true c4
          clear c4
          by_cases c5 : ((rdOf false l0 aa) != ((Int.tmod ad 3) == 0)) = true
          · rw [if_pos c5] at H
            have c5b0 : ((rdOf false l0 aa) != ((Int.tmod ad 3) == 0)) = true := c5
            (try (have c5b1 : decide ((rdOf false l0 aa) = ((Int.tmod ad 3) == 0)) = false := by simpa using c5))
            (try (have c5b2 : ((rdOf false l0 aa) == ((Int.tmod ad 3) == 0)) = false := by simpa using c5))
            (try (have c5b3 : ¬ ((rdOf false l0 aa) = ((Int.tmod ad 3) == 0)) := by simpa using c5))
            clear c5
            obtain rfl := Option.some.inj H
            simp only [Option.some.injEq, Prod.mk.injEq] at H
            obtain ⟨rfl⟩ := H
            have p321 : 0 ≤ (aa : Int) := of_decide_eq_true ah_
            have q321 : aa < (l0.length : Int) := of_decide_eq_true ah_
            obtain ⟨aT, e321, aG⟩ := Kd.at_bool HR0.out aa p321 q321
            cases e321
            replace p321 := eq_true p321
            replace q321 := eq_true q321
            go_wp2
            go_ret
            exact ⟨by first | rfl | (simp; done) | (simp [*]; done), by repeat (first | exact Drawn0.refl _ | apply Drawn0.step)⟩
          · rw [if_neg c5] at H
            have c5b0 : ((rdOf false l0 aa) != ((Int.tmod ad 3) == 0)) = false := by simpa using c5
            (try (have c5b1 : decide ((rdOf false l0 aa) = ((Int.tmod ad 3) == 0)) = true := by simpa using c5))
            (try (have c5b2 : ((rdOf false l0 aa) == ((Int.tmod ad 3) == 0)) = true := by simpa using c5))
            clear c5
            have H' := am_ H
            clear H
            have p321 : 0 ≤ (aa : Int) := of_decide_eq_true ah_
            have q321 : aa < (l0.length : Int) := of_decide_eq_true ah_
            obtain ⟨aT, e321, aG⟩ := Kd.at_bool HR0.out aa p321 q321
            cases e321
            replace p321 := eq_true p321
            replace q321 := eq_true q321
            go_wp2
            go_roundg k1
            case measure => have := HK1.out; omega
            case rel => exact ⟨(wrap64 (ad + 1)), (wrap64 (aa + 1)), (by first | rfl | (simp; done) | (simp [*]; done)), (by first | rfl | (simp; done) | (simp [*]; done)), H', ⟨by have := HK1.out; omega⟩, by repeat (first | exact Drawn0.refl _ | apply Drawn0.step)⟩
        · rw [if_neg c4] at H
          exact absurd H (by simp)
      · rw [if_neg c3] at H
        have c3b0 : decide (aa < (l0.length : Int)) = false := decide_eq_false c3
        clear c3
        obtain rfl := Option.some.inj H
        simp only [Option.some.injEq, Prod.mk.injEq] at H
        obtain ⟨rfl⟩ := H
        go_wp2
        go_ret
        exact ⟨by first | rfl | (simp; done) | (simp [*]; done), by repeat (first | exact Drawn0.refl _ | apply Drawn0.step)⟩
end Go.Proofs.Ytpgdhpnmagmooaa.P
end
section
namespace Go.Proofs.Ytpgdhpnmagmooaa.Pl
open Go.RowKit Go.Proofs.Ytpgdhpnmagmooaa.P Go.Proofs.YtpgdhpnmagmooaaW.PrintWords Go.Proofs.YtpgdhpnmagmooaaW.PrintLast Go.Proofs.YtpgdhpnmagmooaaW.PrintMore Wk Rk
set_option linter.unusedVariables false
set_option linter.unusedSimpArgs false
theorem spec_ints_l0 (a b : List Int) (hl : a.length = b.length) (hn : a.length ≤ 1048576) : ∀ d i : Nat, i + d = a.length → Ev (fun k => spec_l5Ints.l0 k a b i) (decide (a.drop i = b.drop i)) := by
  intro d
  induction d with
  | zero =>
    intro i h
    refine next ?_
    simp only [spec_l5Ints.l0, if_neg (show ¬ (i : Int) < (a.length : Int) by omega)]
    exact ev_some (by rw [List.drop_eq_nil_of_le (by omega), List.drop_eq_nil_of_le (by omega)]; simp)
  | succ d ih =>
    intro i h
    refine next ?_
    have ha : i < a.length := by omega
    have hb : i < b.length := by omega
    have e : (a.drop i = b.drop i) ↔ (a[i] = b[i] ∧ a.drop (i + 1) = b.drop (i + 1)) := by
      rw [List.drop_eq_getElem_cons ha, List.drop_eq_getElem_cons hb]
      exact List.cons_eq_cons
    simp only [spec_l5Ints.l0, if_pos (show (i : Int) < (a.length : Int) by omega), if_pos (show (0 : Int) ≤ i by omega), if_pos (show (i : Int) < (b.length : Int) by omega), rd_get a i ha, rd_get b i hb]
    by_cases he : a[i] = b[i]
    · simp only [if_pos he, up1 (show i < 9223372036854775807 by omega)]
      exact ev_eq (ih (i + 1) (by omega)) (decide_eq_decide.mpr (by rw [e]; exact ⟨fun x => ⟨he, x⟩, fun x => x.2⟩))
    · simp only [if_neg he]
      exact ev_some (by rw [eq_comm, decide_eq_false_iff_not, e]; exact fun x => he x.1)
theorem spec_ints (a b : List Int) (hn : a.length ≤ 1048576) : Ev (fun k => spec_l5Ints.f k a b) (decide (a = b)) := by
  simp only [spec_l5Ints.f]
  by_cases h : a.length = b.length
  · simp only [if_pos (show (a.length : Int) = (b.length : Int) by omega)]
    exact spec_ints_l0 a b h hn a.length 0 (by omega)
  · simp only [if_neg (show ¬ (a.length : Int) = (b.length : Int) by omega)]
    exact ev_some (by simp; intro e; exact h (by rw [e]))
end Go.Proofs.Ytpgdhpnmagmooaa.Pl
end
section
namespace Go.Proofs.Ytpgdhpnmagmooaa.P
open Go.RowKit Go.Proofs.YtpgdhpnmagmooaaW.PrintWords Go.Proofs.YtpgdhpnmagmooaaW.PrintLast Go.Proofs.YtpgdhpnmagmooaaW.PrintMore
attribute [local go_sem] max2_int min2_int max_two min_two max_three min_three max_four min_four
set_option linter.unusedVariables false
set_option linter.unusedSimpArgs false
def spec_l6Any.l0 : Nat → List Int → Int → List Bool → List (List Int) → Option (Bool)
  | 0, _, _, _, _ => none
  | k + 1, x1, x5, ah, al => if x5 < (x1.length : Int) then (if 0 ≤ x5 then (if 0 ≤ (rd x1 x5) then (if (rd x1 x5) < (ah.length : Int) then (if rdOf false ah (rd x1 x5) = true then (some true) else (spec_l6Any.l0 k x1 (wrap64 (x5 + 1)) ah al)) else (none)) else (none)) else (none)) else (some false)
def spec_l6Any.f (k : Nat) (l0_0 : List Bool) (l0_1 : List (List Int)) (l1 : List Int) : Option (Bool) := spec_l6Any.l0 k l1 0 l0_0 l0_1
theorem spec_l6Any.mono_l : ∀ k, (∀ y0 y1 y2 y3, LeO (spec_l6Any.l0 k y0 y1 y2 y3) (spec_l6Any.l0 (k + 1) y0 y1 y2 y3))
  | 0 => fun _ _ _ _ r h => by simp [spec_l6Any.l0] at h
  | k + 1 => by
    have ih0 := spec_l6Any.mono_l k
    · intro y0 y1 y2 y3
      unfold spec_l6Any.l0
      repeat' first
      | (with_reducible exact ih0 _ _ _ _)
      | (with_reducible exact LeO.refl _)
      | (with_reducible exact LeO.none _)
      | (with_reducible refine LeO.ite ?_ ?_)
      | (with_reducible refine LeO.bind ?_ (fun _ => ?_))
      | exact ih0 _ _ _ _
      | exact LeO.none _
      | refine LeO.ite ?_ ?_
      | refine LeO.bind ?_ (fun _ => ?_)
theorem spec_l6Any.mono : ∀ a0 a1 a2 k, LeO (spec_l6Any.f k a0 a1 a2) (spec_l6Any.f (k + 1) a0 a1 a2) := by
  intro a0 a1 a2 k
  have ih0 := spec_l6Any.mono_l k
  unfold spec_l6Any.f
  repeat' first
      | (with_reducible exact ih0 _ _ _ _)
      | (with_reducible exact LeO.refl _)
      | (with_reducible exact LeO.none _)
      | (with_reducible refine LeO.ite ?_ ?_)
      | (with_reducible refine LeO.bind ?_ (fun _ => ?_))
      | exact ih0 _ _ _ _
      | exact LeO.none _
      | refine LeO.ite ?_ ?_
      | refine LeO.bind ?_ (fun _ => ?_)
theorem zp5_0_ {p q g1 : Prop} (h : p) (h1 : g1) (c : p → g1 → q := by intro h_ h1_; repeat (first | (with_reducible first | exact h_ | apply below_alloc | apply pw_below_drewN | apply below_drew1 | refine below_set ?_ h1_) | exact h_)) : q := c h h1
set_option maxHeartbeats 8000000 in
set_option maxRecDepth 100000 in
theorem spec_l6Any.calls (k : Nat) (A0_0 : Option Addr) (c0_0 : Nat) (l0_0 : List Bool) (A0_1 : Option Addr) (c0_1 : Nat) (l0_1 : List (List Int)) (A1 : Option Addr) (c1 : Nat) (l1 : List Int) (r : Bool) (w : World) (hr0_0 : Kd.C Kd.bool w A0_0 l0_0.length l0_0) (hc0_0 : l0_0.length ≤ c0_0) (hr0_1 : Kd.C (Kd.slice 3 (Kd.int .i64)) w A0_1 l0_1.length l0_1) (hc0_1 : l0_1.length ≤ c0_1) (hr1 : Kd.C (Kd.int .i64) w A1 l1.length l1) (hc1 : l1.length ≤ c1) (h : spec_l6Any.f k l0_0 l0_1 l1 = some r) :
    Calls Try.prog 28 #[.agg #[.slice A0_0 l0_0.length c0_0, .slice A0_1 l0_1.length c0_1], .slice A1 l1.length c1] w fun e w' => e = .returned (.bool r) ∧ Below w.heap.size w w' := by
  have hu28 := Try.underlying28
  have ai := am_ hr0_0
  have az := am_ hc0_0
  clear hr0_0 hc0_0
  have aA := am_ hr0_1
  have aB := am_ hc0_1
  clear hr0_1 hc0_1
  have HR1 := am_ hr1
  have HC1 := am_ hc1
  clear hr1 hc1
  have HB := am_ (Below.refl w.heap.size w)
  have H : (spec_l6Any.l0 k l1 0 l0_0 l0_1) = some r := h
  clear h
  have H' := am_ H
  clear H
  go_enter Try.func28, Try.ntmps28
  go_wp2_with (first | ((with_reducible refine gate_dst (N := 2) rfl ?_); refine box_event ?hg (N := 2) ?hd (cs := #[.slice A0_0 l0_0.length c0_0, .slice A0_1 l0_1.length c0_1]) (t := 28) ?hr ?_; (case hd => rfl); (case hg => rfl); (case hr => first | (go_simp; done) | (go_simp; rfl)); intro af hg w3 hbox hb; replace ab := am_ (hbox); replace aj := am_ ((by rw [hg]; exact (below_size (b0_ HB.out)) : w.heap.size ≤ af)); replace ag := am_ ((by rw [hg]; exact (below_size (b0_ HB.out)) : w.heap.size ≤ af)); replace HB := am_ (below_step (b0_ HB.out) hb); clear hb hbox hg))
  repeat (go_quiet (first | ((with_reducible refine gate_dst (N := 2) rfl ?_); refine box_event ?hg (N := 2) ?hd (cs := #[.slice A0_0 l0_0.length c0_0, .slice A0_1 l0_1.length c0_1]) (t := 28) ?hr ?_; (case hd => rfl); (case hg => rfl); (case hr => first | (go_simp; done) | (go_simp; rfl)); intro af hg w3 hbox hb; replace ab := am_ (hbox); replace aj := am_ ((by rw [hg]; exact (below_size (b0_ HB.out)) : w.heap.size ≤ af)); replace ag := am_ ((by rw [hg]; exact (below_size (b0_ HB.out)) : w.heap.size ≤ af)); replace HB := am_ (below_step (b0_ HB.out) hb); clear hb hbox hg)); try go_wp2_with (first | ((with_reducible refine gate_dst (N := 2) rfl ?_); refine box_event ?hg (N := 2) ?hd (cs := #[.slice A0_0 l0_0.length c0_0, .slice A0_1 l0_1.length c0_1]) (t := 28) ?hr ?_; (case hd => rfl); (case hg => rfl); (case hr => first | (go_simp; done) | (go_simp; rfl)); intro af hg w3 hbox hb; replace ab := am_ (hbox); replace aj := am_ ((by rw [hg]; exact (below_size (b0_ HB.out)) : w.heap.size ≤ af)); replace ag := am_ ((by rw [hg]; exact (below_size (b0_ HB.out)) : w.heap.size ≤ af)); replace HB := am_ (below_step (b0_ HB.out) hb); clear hb hbox hg)))
  go_loopg [5] k (fun kq v5 w' => ∃ (aa : Int), v5 = .int .i64 aa ∧ Aside0 (spec_l6Any.l0 kq l1 aa l0_0 l0_1 = some r) ∧ Aside0 (kq ≤ k) ∧ Aside0 (w'.heap[af]? = some (.cells #[(.slice A0_0 l0_0.length c0_0), (.slice A0_1 l0_1.length c0_1)] 28 (0, 0))) ∧ Aside0 (Below w.heap.size w w'))
  case atStart => exact ⟨(0), (by first | rfl | (simp; done) | (simp [*]; done)), H', ⟨Nat.le_refl _⟩, ⟨by refine rb_ ?_; exact ab.out⟩, ⟨by exact zp5_0_ HB.out ag.out⟩⟩
  case round =>
    clear H'
    try clear c1
    try clear c2
    try clear p2
    obtain ⟨aa, rfl, HA, HK1, ab, HB⟩ := hrel
    cases gk with
    | zero => exact absurd HA.out (by simp [spec_l6Any.l0])
    | succ k1 =>
      have H := HA.out
      clear HA
      simp only [spec_l6Any.l0] at H
      by_cases c4 : aa < (l1.length : Int)
      · rw [if_pos c4] at H
        have c4b0 : decide (aa < (l1.length : Int)) = true := decide_eq_true c4
        clear c4
        by_cases c5 : 0 ≤ aa
        · rw [if_pos c5] at H
          have c5b0 : decide (0 ≤ aa) = true := decide_eq_true c5
          clear c5
          by_cases c6 : 0 ≤ (rd l1 aa)
          · rw [if_pos c6] at H
            have c6b0 : decide (0 ≤ (rd l1 aa)) = true := decide_eq_true c6
            clear c6
            by_cases c7 : (rd l1 aa) < (l0_0.length : Int)
            · rw [if_pos c7] at H
              have c7b0 : decide ((rd l1 aa) < (l0_0.length : Int)) = true := decide_eq_true c7
              clear c7
              obtain ⟨bq8, hbq8⟩ : ∃ b_ : Bool, b_ = (rdOf false l0_0 (rd l1 aa)) := ⟨_, rfl⟩
              replace H : (if bq8 = true then (some true) else (spec_l6Any.l0 k1 l1 (wrap64 (aa + 1)) l0_0 l0_1)) = some r := by rw [← hbq8] at H; exact H
              have Nbq8 := am_ hbq8
              clear hbq8
              by_cases c9 : bq8 = true
              · subst c9
                have H1 : (some true) = some r := by rw [if_pos rfl] at H; exact H
                clear H
                have H := H1
                clear H1
                obtain rfl := Option.some.inj H
                simp only [Option.some.injEq, Prod.mk.injEq] at H
                obtain ⟨rfl⟩ := H
                have ap := ck_ (v := (.slice A0_0 l0_0.length c0_0)) ab 0 rfl
                have aq := ck_ (v := (.slice A0_1 l0_1.length c0_1)) ab 1 rfl
                have ar := blk_frozen ab.out 0
                have au := blk_frozen ab.out 1
                have p162 : 0 ≤ (aa : Int) := of_decide_eq_true ah_
                have q162 : aa < (l1.length : Int) := of_decide_eq_true ah_
                obtain ⟨an, e162, ae⟩ := Kd.at_int HR1.out aa p162 q162
                cases e162
                replace ae := (HB.out.cell (World.block_lt_of_cell? w _ ae)).trans ae
                replace p162 := eq_true p162
                replace q162 := eq_true q162
                have p163 : 0 ≤ ((rd l1 aa) : Int) := of_decide_eq_true ah_
                have q163 : (rd l1 aa) < (l0_0.length : Int) := of_decide_eq_true ah_
                obtain ⟨ao, e163, ad⟩ := Kd.at_bool ai.out (rd l1 aa) p163 q163
                (try rw [← Nbq8.out] at ad)
                cases e163
                replace ad := (HB.out.cell (World.block_lt_of_cell? w _ ad)).trans ad
                replace p163 := eq_true p163
                replace q163 := eq_true q163
                go_wp2
                repeat (go_quiet (fail); try go_wp2)
                go_ret
                exact ⟨by first | rfl | (simp [errW_none, errW_some] <;> rfl) | (simp [*, errW_none, errW_some] <;> rfl), by exact zp5_0_ HB.out ag.out⟩
              · replace c9 := Bool.eq_false_iff.mpr c9
                subst c9
                have H1 : (spec_l6Any.l0 k1 l1 (wrap64 (aa + 1)) l0_0 l0_1) = some r := by rw [if_neg (show ¬ (false = true) by decide)] at H; exact H
                clear H
                have H := H1
                clear H1
                have H' := am_ H
                clear H
                have av := ck_ (v := (.slice A0_0 l0_0.length c0_0)) ab 0 rfl
                have aw := ck_ (v := (.slice A0_1 l0_1.length c0_1)) ab 1 rfl
                have ax := blk_frozen ab.out 0
                have ay := blk_frozen ab.out 1
                have p162 : 0 ≤ (aa : Int) := of_decide_eq_true ah_
                have q162 : aa < (l1.length : Int) := of_decide_eq_true ah_
                obtain ⟨an, e162, ae⟩ := Kd.at_int HR1.out aa p162 q162
                cases e162
                replace ae := (HB.out.cell (World.block_lt_of_cell? w _ ae)).trans ae
                replace p162 := eq_true p162
                replace q162 := eq_true q162
                have p163 : 0 ≤ ((rd l1 aa) : Int) := of_decide_eq_true ah_
                have q163 : (rd l1 aa) < (l0_0.length : Int) := of_decide_eq_true ah_
                obtain ⟨ao, e163, ad⟩ := Kd.at_bool ai.out (rd l1 aa) p163 q163
                (try rw [← Nbq8.out] at ad)
                cases e163
                replace ad := (HB.out.cell (World.block_lt_of_cell? w _ ad)).trans ad
                replace p163 := eq_true p163
                replace q163 := eq_true q163
                go_wp2
                repeat (go_quiet (fail); try go_wp2)
                go_roundg k1
                case measure => have := HK1.out; omega
                case rel => exact ⟨(wrap64 (aa + 1)), (by first | rfl | (simp; done) | (simp [*]; done)), H', ⟨by have := HK1.out; omega⟩, ⟨by refine rb_ ?_; exact ab.out⟩, ⟨by exact zp5_0_ HB.out ag.out⟩⟩
            · rw [if_neg c7] at H
              exact absurd H (by simp)
          · rw [if_neg c6] at H
            exact absurd H (by simp)
        · rw [if_neg c5] at H
          exact absurd H (by simp)
      · rw [if_neg c4] at H
        have c4b0 : decide (aa < (l1.length : Int)) = false := decide_eq_false c4
        clear c4
        obtain rfl := Option.some.inj H
        simp only [Option.some.injEq, Prod.mk.injEq] at H
        obtain ⟨rfl⟩ := H
        go_wp2
        repeat (go_quiet (fail); try go_wp2)
        go_ret
        exact ⟨by first | rfl | (simp [errW_none, errW_some] <;> rfl) | (simp [*, errW_none, errW_some] <;> rfl), by exact zp5_0_ HB.out ag.out⟩
end Go.Proofs.Ytpgdhpnmagmooaa.P
end
section
namespace Go.Proofs.Ytpgdhpnmagmooaa.Can
open Go.RowKit Go.Proofs.Ytpgdhpnmagmooaa Go.Proofs.Ytpgdhpnmagmooaa.P Go.Proofs.Ytpgdhpnmagmooaa.Wk Go.Proofs.Ytpgdhpnmagmooaa.Lg Go.Proofs.Ytpgdhpnmagmooaa.Pl Go.Proofs.Ytpgdhpnmagmooaa.Mp Go.Proofs.Ytpgdhpnmagmooaa.Bf Go.Proofs.Ytpgdhpnmagmooaa.Mn Go.Proofs.YtpgdhpnmagmooaaW.PrintWords Go.Proofs.YtpgdhpnmagmooaaW.PrintLast Go.Proofs.YtpgdhpnmagmooaaW.PrintMore
set_option linter.unusedVariables false
set_option linter.unusedSimpArgs false
set_option linter.unusedSectionVars false
def putI (q : Int) : List Int → List Int
  | [] => [q]
  | y :: t => if y < q then y :: putI q t else if y = q then y :: t else q :: y :: t
abbrev Asc (l : List Int) : Prop := l.Pairwise (· < ·)
theorem putI_mem (q : Int) : ∀ (l : List Int) (y : Int), y ∈ putI q l ↔ y ∈ l ∨ y = q
  | [], y => by simp [putI]
  | x :: t, y => by
    rw [putI]
    split
    · rw [List.mem_cons, List.mem_cons, putI_mem q t y, or_assoc]
    · split
      · rename_i h; subst h; simp only [List.mem_cons]; constructor
        · exact Or.inl
        · rintro (h | h)
          · exact h
          · exact Or.inl h
      · simp only [List.mem_cons]; constructor
        · rintro (h | h | h)
          · exact Or.inr h
          · exact Or.inl (Or.inl h)
          · exact Or.inl (Or.inr h)
        · rintro ((h | h) | h)
          · exact Or.inr (Or.inl h)
          · exact Or.inr (Or.inr h)
          · exact Or.inl h
theorem putI_asc (q : Int) : ∀ (l : List Int), Asc l → Asc (putI q l)
  | [], _ => by simp [putI]
  | x :: t, h => by
    obtain ⟨h1, h2⟩ := List.pairwise_cons.mp h
    rw [putI]
    split
    · refine List.pairwise_cons.mpr ⟨fun y hy => ?_, putI_asc q t h2⟩
      rcases (putI_mem q t y).mp hy with hy | rfl
      · exact h1 y hy
      · assumption
    · split
      · exact h
      · refine List.pairwise_cons.mpr ⟨fun y hy => ?_, h⟩
        rcases List.mem_cons.mp hy with rfl | hy
        · omega
        · have := h1 y hy
          omega
theorem putI_len (q : Int) : ∀ (l : List Int), (putI q l).length ≤ l.length + 1
  | [] => by simp [putI]
  | x :: t => by
    have := putI_len q t
    rw [putI]
    split
    · simp only [List.length_cons]; omega
    · split <;> simp only [List.length_cons] <;> omega
theorem asc_ext : ∀ {a b : List Int}, Asc a → Asc b → (∀ y, y ∈ a ↔ y ∈ b) → a = b
  | [], [], _, _, _ => rfl
  | [], y :: t, _, _, h => absurd ((h y).mpr (by simp)) (by simp)
  | y :: t, [], _, _, h => absurd ((h y).mp (by simp)) (by simp)
  | x :: s, y :: t, ha, hb, h => by
    obtain ⟨a1, a2⟩ := List.pairwise_cons.mp ha
    obtain ⟨b1, b2⟩ := List.pairwise_cons.mp hb
    have e : x = y := by
      rcases List.mem_cons.mp ((h x).mp (by simp)) with e | e
      · exact e
      · rcases List.mem_cons.mp ((h y).mpr (by simp)) with e2 | e2
        · exact e2.symm
        · have := b1 x e
          have := a1 y e2
          omega
    subst e
    congr 1
    refine asc_ext a2 b2 fun z => ?_
    constructor
    · intro hz
      rcases List.mem_cons.mp ((h z).mp (List.mem_cons_of_mem _ hz)) with e | e
      · have := a1 z hz; omega
      · exact e
    · intro hz
      rcases List.mem_cons.mp ((h z).mpr (List.mem_cons_of_mem _ hz)) with e | e
      · have := b1 z hz; omega
      · exact e
theorem put_l0 (l : List Int) (q : Int) (hl : l.length ≤ 100000) : ∀ d i : Nat, i + d = l.length → Ev (fun k => spec_l6Put.l0 k l q (i : Int)) (l.take i ++ putI q (l.drop i))
  | 0, i, hi => by
    refine next ?_
    have hd : l.drop i = [] := List.drop_eq_nil_of_le (by omega)
    have ht : l.take i = l := List.take_of_length_le (by omega)
    simp only [spec_l6Put.l0, if_neg (show ¬ (i : Int) < (l.length : Int) by omega), if_pos (show (0 : Int) ≤ (i : Int) by omega), if_pos (show (i : Int) ≤ (l.length : Int) by omega), Option.bind_some, Int.toNat_natCast, hd, ht, List.nil_append, List.append_nil, List.length_nil, Nat.zero_add, List.length_append, List.length_cons, Nat.add_zero, if_pos (show l.length < 17592186044416 by omega), if_pos (show l.length + 1 < 17592186044416 by omega), putI]
    exact Ev.now _
  | d + 1, i, hi => by
    have h : i < l.length := by omega
    refine next ?_
    have hd : l.drop i = l[i] :: l.drop (i + 1) := List.drop_eq_getElem_cons h
    simp only [spec_l6Put.l0, if_pos (show (i : Int) < (l.length : Int) by omega), if_pos (show (0 : Int) ≤ (i : Int) by omega), rd_get l i h]
    rw [hd, putI]
    by_cases h1 : l[i] < q
    · simp only [if_pos h1]
      rw [up1 (by omega)]
      refine ev_eq (put_l0 l q hl d (i + 1) (by omega)) ?_
      rw [List.take_succ_eq_append_getElem h, List.append_assoc, List.singleton_append]
    · simp only [if_neg h1]
      by_cases h2 : l[i] = q
      · simp only [if_pos h2]
        refine ev_some ?_
        rw [← hd]
        simp
      · have ht : (l.take i).length = i := by rw [List.length_take]; omega
        simp only [if_neg h2, if_pos (show (i : Int) ≤ (l.length : Int) by omega), Option.bind_some, Int.toNat_natCast, List.nil_append, List.length_nil, Nat.zero_add, ht, List.length_append, List.length_cons, List.length_drop, if_pos (show i < 17592186044416 by omega), if_pos (show i + 1 + (l.length - i) < 17592186044416 by omega)]
        refine ev_some ?_
        rw [← hd]
        simp
theorem put_ev (l : List Int) (q : Int) (hl : l.length ≤ 100000) : Ev (fun k => spec_l6Put.f k l q) (putI q l) := by
  simp only [spec_l6Put.f]
  have := put_l0 l q hl l.length 0 (by omega)
  simpa using this
def sl (s : Int) : List Int := ((List.range 40).filter (fun q => bit s q)).map (fun q : Nat => (q : Int))
def Low (m : Nat) (s : Int) : Prop := U64 s ∧ ∀ p, bit s p = true → p < m
theorem sl_mem {m : Nat} {s : Int} (hm : m ≤ 40) (h : Low m s) (y : Int) : y ∈ sl s ↔ ∃ q : Nat, bit s q = true ∧ y = (q : Int) := by
  unfold sl
  rw [List.mem_map]
  constructor
  · rintro ⟨q, hq, rfl⟩
    exact ⟨q, (List.mem_filter.mp hq).2, rfl⟩
  · rintro ⟨q, hq, rfl⟩
    exact ⟨q, List.mem_filter.mpr ⟨List.mem_range.mpr (Nat.lt_of_lt_of_le (h.2 q hq) hm), hq⟩, rfl⟩
theorem sl_asc (s : Int) : Asc (sl s) := by
  unfold sl Asc
  rw [List.pairwise_map]
  refine List.Pairwise.imp (fun h => ?_) (List.Pairwise.filter _ List.pairwise_lt_range)
  omega
theorem sl_len (s : Int) : (sl s).length ≤ 40 := by
  unfold sl
  rw [List.length_map]
  exact Nat.le_trans (List.length_filter_le _ _) (by simp)
theorem sl_inj {m : Nat} {s t : Int} (hm : m ≤ 40) (hs : Low m s) (ht : Low m t) (h : sl s = sl t) : s = t := by
  refine bit_ext hs.1 ht.1 fun p => ?_
  have e : bit s p = true ↔ bit t p = true := by
    have h1 := sl_mem hm hs (p : Int)
    have h2 := sl_mem hm ht (p : Int)
    rw [h] at h1
    constructor
    · intro hb
      obtain ⟨q, hq, e⟩ := h2.mp (h1.mpr ⟨p, hb, rfl⟩)
      have : p = q := by omega
      rw [this]; exact hq
    · intro hb
      obtain ⟨q, hq, e⟩ := h1.mp (h2.mpr ⟨p, hb, rfl⟩)
      have : p = q := by omega
      rw [this]; exact hq
  cases h1 : bit s p <;> cases h2 : bit t p <;> simp_all
theorem sl_one : sl 1 = [0] := by
  unfold sl bit
  decide
theorem sl_zero : sl 0 = [] := by
  unfold sl bit
  decide
theorem low_one {m : Nat} (h : 1 ≤ m) : Low m 1 := ⟨⟨by omega, by omega⟩, fun p hp => by
  unfold bit at hp
  have : (1 : Int).toNat = 1 := rfl
  rw [this, Nat.testBit_one_eq_true_iff_self_eq_zero] at hp
  omega⟩
theorem low_zero {m : Nat} : Low m 0 := ⟨⟨by omega, by omega⟩, fun p hp => by unfold bit at hp; simp at hp⟩
section
variable {a : List Bool} {n : List (List Int)} {s : Int}
theorem low_mv (hf : Fits a n) (ha : a.length ≤ 40) (j : Nat) (hj : j < 3) : Low a.length (mvS n s (j : Int)) := by
  obtain ⟨h1, h2⟩ := mvS_bits (s := s) hf ha j hj
  refine ⟨h1, fun p hp => ?_⟩
  obtain ⟨z, h3, _, h4⟩ := (h2 p).mp hp
  obtain ⟨g1, g2⟩ := hf.row (z : Int) (by have := hf.len; omega)
  have := (g2 (rd (rowOf n (z : Int)) (j : Int)) (by rw [rd_get _ j (by omega)]; exact List.getElem_mem _)).2
  omega
def mvL (n : List (List Int)) (j : Int) : List Int → List Int → List Int
  | [], out => out
  | z :: t, out => mvL n j t (putI (rd (rowOf n z) j) out)
theorem mvL_asc (n : List (List Int)) (j : Int) : ∀ (l out : List Int), Asc out → Asc (mvL n j l out)
  | [], out, h => h
  | z :: t, out, h => mvL_asc n j t _ (putI_asc _ _ h)
theorem mvL_mem (n : List (List Int)) (j : Int) : ∀ (l out : List Int) (y : Int), y ∈ mvL n j l out ↔ y ∈ out ∨ ∃ z ∈ l, rd (rowOf n z) j = y
  | [], out, y => by simp [mvL]
  | z :: t, out, y => by
    rw [mvL, mvL_mem n j t _ y, putI_mem]
    constructor
    · rintro ((h | h) | ⟨w, hw, h⟩)
      · exact Or.inl h
      · exact Or.inr ⟨z, by simp, h.symm⟩
      · exact Or.inr ⟨w, List.mem_cons_of_mem _ hw, h⟩
    · rintro (h | ⟨w, hw, h⟩)
      · exact Or.inl (Or.inl h)
      · rcases List.mem_cons.mp hw with rfl | hw
        · exact Or.inl (Or.inr h.symm)
        · exact Or.inr ⟨w, hw, h⟩
theorem mvL_sl (hf : Fits a n) (ha : a.length ≤ 40) (h : Low a.length s) (j : Nat) (hj : j < 3) : mvL n (j : Int) (sl s) [] = sl (mvS n s (j : Int)) := by
  refine asc_ext (mvL_asc n _ _ _ List.Pairwise.nil) (sl_asc _) fun y => ?_
  have hm := low_mv (s := s) hf ha j hj
  rw [mvL_mem, sl_mem ha hm]
  obtain ⟨_, h2⟩ := mvS_bits (s := s) hf ha j hj
  have hl := hf.len
  constructor
  · rintro (h3 | ⟨z, hz, hy⟩)
    · cases h3
    · obtain ⟨q, hq, rfl⟩ := (sl_mem ha h z).mp hz
      have hq2 := h.2 q hq
      obtain ⟨g1, g2⟩ := hf.row (q : Int) (by omega)
      have := (g2 (rd (rowOf n (q : Int)) (j : Int)) (by rw [rd_get _ j (by omega)]; exact List.getElem_mem _)).1
      refine ⟨y.toNat, (h2 _).mpr ⟨q, by omega, hq, by omega⟩, by omega⟩
  · rintro ⟨q, hq, rfl⟩
    obtain ⟨z, h3, h4, h5⟩ := (h2 q).mp hq
    exact Or.inr ⟨(z : Int), (sl_mem ha h _).mpr ⟨z, h4, rfl⟩, h5⟩
theorem move_l0 (hf : Fits a n) (ha : a.length ≤ 40) (l : List Int) (hl : ∀ z ∈ l, 0 ≤ z ∧ z < (a.length : Int)) (hn : l.length ≤ 40) (j : Nat) (hj : j < 3) : ∀ (d i : Nat) (out : List Int), i + d = l.length → out.length ≤ i → Ev (fun k => spec_l6Move.l0 k l (j : Int) out (i : Int) a n) (mvL n (j : Int) (l.drop i) out)
  | 0, i, out, hi, ho => by
    refine next ?_
    rw [List.drop_eq_nil_of_le (by omega)]
    simp only [spec_l6Move.l0, if_neg (show ¬ (i : Int) < (l.length : Int) by omega), mvL]
    exact Ev.now _
  | d + 1, i, out, hi, ho => by
    have h : i < l.length := by omega
    refine next ?_
    rw [List.drop_eq_getElem_cons h]
    obtain ⟨z1, z2⟩ := hl l[i] (List.getElem_mem h)
    have hln := hf.len
    obtain ⟨g1, _⟩ := hf.row l[i] ⟨z1, z2⟩
    have hrow : rd_L1 n l[i] = rowOf n l[i] := rfl
    simp only [spec_l6Move.l0, if_pos (show (i : Int) < (l.length : Int) by omega), if_pos (show (0 : Int) ≤ (i : Int) by omega), rd_get l i h, if_pos z1, if_pos (show l[i] < (n.length : Int) by omega), if_pos (show (0 : Int) ≤ (j : Int) by omega), hrow, if_pos (show (j : Int) < ((rowOf n l[i]).length : Int) by omega), mvL]
    refine Ev.bind (put_ev out _ (by omega)) ?_
    rw [up1 (by omega)]
    exact move_l0 hf ha l hl hn j hj d (i + 1) _ (by omega) (by have := putI_len (rd (rowOf n l[i]) (j : Int)) out; omega)
theorem sl_range (ha : a.length ≤ 40) (h : Low a.length s) : ∀ z ∈ sl s, 0 ≤ z ∧ z < (a.length : Int) := fun z hz => by
  obtain ⟨q, hq, rfl⟩ := (sl_mem ha h z).mp hz
  have := h.2 q hq
  omega
theorem move_ev (hf : Fits a n) (ha : a.length ≤ 40) (h : Low a.length s) (j : Nat) (hj : j < 3) : Ev (fun k => spec_l6Move.f k a n (sl s) (j : Int)) (sl (mvS n s (j : Int))) := by
  simp only [spec_l6Move.f]
  rw [← mvL_sl hf ha h j hj]
  have := move_l0 hf ha (sl s) (sl_range ha h) (sl_len s) j hj (sl s).length 0 [] (by omega) (by simp)
  simpa using this
theorem any_l0 (ha : a.length ≤ 40) (l : List Int) (hl : ∀ z ∈ l, 0 ≤ z ∧ z < (a.length : Int)) (hn : l.length ≤ 40) : ∀ (d i : Nat), i + d = l.length → Ev (fun k => spec_l6Any.l0 k l (i : Int) a n) ((l.drop i).any (fun z => rdOf false a z))
  | 0, i, hi => by
    refine next ?_
    rw [List.drop_eq_nil_of_le (by omega)]
    simp only [spec_l6Any.l0, if_neg (show ¬ (i : Int) < (l.length : Int) by omega), List.any_nil]
    exact Ev.now _
  | d + 1, i, hi => by
    have h : i < l.length := by omega
    refine next ?_
    rw [List.drop_eq_getElem_cons h, List.any_cons]
    obtain ⟨z1, z2⟩ := hl l[i] (List.getElem_mem h)
    simp only [spec_l6Any.l0, if_pos (show (i : Int) < (l.length : Int) by omega), if_pos (show (0 : Int) ≤ (i : Int) by omega), rd_get l i h, if_pos z1, if_pos z2]
    cases hb : rdOf false a l[i] with
    | true =>
      simp only [if_true, Bool.true_or]
      exact Ev.now _
    | false =>
      simp only [Bool.false_eq_true, if_false, Bool.false_or]
      rw [up1 (by omega)]
      exact any_l0 ha l hl hn d (i + 1) (by omega)
theorem any_ev (ha : a.length ≤ 40) (h : Low a.length s) : Ev (fun k => spec_l6Any.f k a n (sl s)) (acS a s) := by
  simp only [spec_l6Any.f]
  have h1 := any_l0 (n := n) ha (sl s) (sl_range ha h) (sl_len s) (sl s).length 0 (by omega)
  have e : (sl s).any (fun z => rdOf false a z) = acS a s := by
    have : (sl s).any (fun z => rdOf false a z) = true ↔ acS a s = true := by
      rw [List.any_eq_true, acS_iff]
      constructor
      · rintro ⟨z, hz, hb⟩
        obtain ⟨q, hq, rfl⟩ := (sl_mem ha h z).mp hz
        exact ⟨q, h.2 q hq, hb, hq⟩
      · rintro ⟨p, _, hb, hp⟩
        exact ⟨(p : Int), (sl_mem ha h _).mpr ⟨p, hp, rfl⟩, hb⟩
    cases h1 : (sl s).any (fun z => rdOf false a z) <;> cases h2 : acS a s <;> simp_all
  rw [← e]
  simpa using h1
end
end Go.Proofs.Ytpgdhpnmagmooaa.Can
end
section
namespace Go.Proofs.Ytpgdhpnmagmooaa.Can
open Go.RowKit Go.Proofs.Ytpgdhpnmagmooaa Go.Proofs.Ytpgdhpnmagmooaa.P Go.Proofs.Ytpgdhpnmagmooaa.Wk Go.Proofs.Ytpgdhpnmagmooaa.Lg Go.Proofs.Ytpgdhpnmagmooaa.Pl Go.Proofs.Ytpgdhpnmagmooaa.Mp Go.Proofs.Ytpgdhpnmagmooaa.Bf Go.Proofs.Ytpgdhpnmagmooaa.Mn Go.Proofs.YtpgdhpnmagmooaaW.PrintWords Go.Proofs.YtpgdhpnmagmooaaW.PrintLast Go.Proofs.YtpgdhpnmagmooaaW.PrintMore
set_option linter.unusedVariables false
set_option linter.unusedSimpArgs false
set_option linter.unusedSectionVars false
def lenG (nx : Int → Int) (ac : Int → Bool) : Nat → List Int → Int → Option (List Bool × Int)
  | 0, _, _ => none
  | k + 1, seen, s => if s ∈ seen then some (seen.map ac, (seen.length : Int) - (seen.idxOf s : Int)) else lenG nx ac k (seen ++ [s]) (nx s)
theorem lenG_total {nx : Int → Int} {ac : Int → Bool} {dom : Int → Prop} {N : Nat} (hd : ∀ s, dom s → dom (nx s)) (hc : ∀ l : List Int, l.Nodup → (∀ x ∈ l, dom x) → l.length ≤ N) :
    ∀ (k : Nat) (seen : List Int) (s : Int), seen.Nodup → (∀ x ∈ seen, dom x) → dom s → N < k + seen.length → ∃ r, lenG nx ac k seen s = some r
  | 0, seen, s, hn, hs, _, h => by
    have := hc seen hn hs
    omega
  | k + 1, seen, s, hn, hs, h0, h => by
    rw [lenG]
    by_cases e : s ∈ seen
    · rw [if_pos e]
      exact ⟨_, rfl⟩
    · rw [if_neg e]
      refine lenG_total hd hc k (seen ++ [s]) (nx s) (List.nodup_append.2 ⟨hn, by simp, fun a ha b hb e' => ?_⟩) (fun x hx => ?_) (hd s h0) (by simp only [List.length_append, List.length_singleton]; omega)
      · rw [List.mem_singleton.1 hb] at e'
        exact e (e' ▸ ha)
      · rcases List.mem_append.1 hx with hx | hx
        · exact hs x hx
        · rw [List.mem_singleton.1 hx]; exact h0
theorem lenG_len {nx : Int → Int} {ac : Int → Bool} : ∀ (k : Nat) (seen : List Int) (s : Int) (r : List Bool × Int), lenG nx ac k seen s = some r → seen.length + k ≤ 2000000000000 → r.1.length ≤ 2000000000000
  | 0, seen, s, r, h, _ => by cases h
  | k + 1, seen, s, r, h, hl => by
    rw [lenG] at h
    split at h
    · obtain rfl := Option.some.inj h
      simp only [List.length_map]
      omega
    · exact lenG_len k _ _ r h (by simp only [List.length_append, List.length_singleton]; omega)
theorem or_bits {s t : Int} (hs : U64 s) (ht : U64 t) : U64 (Go.bits .or .u64 s t) ∧ ∀ p, bit (Go.bits .or .u64 s t) p = (bit s p || bit t p) := by
  obtain ⟨m, rfl⟩ : ∃ m : Nat, s = (m : Int) := ⟨s.toNat, by have := hs.1; omega⟩
  obtain ⟨k, rfl⟩ : ∃ k : Nat, t = (k : Int) := ⟨t.toNat, by have := ht.1; omega⟩
  have hm : m < 18446744073709551616 := by have := hs.2; omega
  have hk : k < 18446744073709551616 := by have := ht.2; omega
  rw [or_nat hm hk]
  have hl : m ||| k < 2 ^ 64 := Nat.or_lt_two_pow (by omega) (by omega)
  refine ⟨⟨by omega, by omega⟩, fun p => ?_⟩
  unfold bit
  rw [Int.toNat_natCast, Int.toNat_natCast, Int.toNat_natCast, Nat.testBit_or]
theorem low_orr {m : Nat} {s t : Int} (hs : Low m s) (ht : Low m t) : Low m (Go.bits .or .u64 s t) := by
  obtain ⟨h1, h2⟩ := or_bits hs.1 ht.1
  refine ⟨h1, fun p hp => ?_⟩
  rw [h2] at hp
  rcases Bool.or_eq_true_iff.1 hp with hp | hp
  · exact hs.2 p hp
  · exact ht.2 p hp
theorem low_range {m : Nat} {s : Int} (hm : m ≤ 40) (h : Low m s) : 0 ≤ s ∧ s < ((1099511627776 : Nat) : Int) := by
  have h1 : s.toNat < 2 ^ 40 := Nat.lt_pow_two_of_testBit _ (fun i hi => by
    cases hb : s.toNat.testBit i with
    | false => rfl
    | true =>
      have := h.2 i hb
      omega)
  have := h.1.1
  omega
def orS (n : List (List Int)) (s : Int) : Nat → Int
  | 0 => 0
  | j + 1 => Go.bits .or .u64 (orS n s j) (mvS n s (j : Int))
def putL (ys acc : List Int) : List Int := ys.foldl (fun a y => putI y a) acc
theorem putL_asc : ∀ (ys acc : List Int), Asc acc → Asc (putL ys acc)
  | [], _, h => h
  | y :: ys, acc, h => putL_asc ys (putI y acc) (putI_asc y acc h)
theorem putL_mem : ∀ (ys acc : List Int) (z : Int), z ∈ putL ys acc ↔ z ∈ acc ∨ z ∈ ys
  | [], acc, z => by simp [putL]
  | y :: ys, acc, z => by
    have := putL_mem ys (putI y acc) z
    rw [putI_mem] at this
    show z ∈ putL ys (putI y acc) ↔ _
    rw [this, List.mem_cons, or_assoc]
theorem putL_most : ∀ (ys acc : List Int), (putL ys acc).length ≤ acc.length + ys.length
  | [], acc => Nat.le_refl _
  | y :: ys, acc => by
    have h1 := putL_most ys (putI y acc)
    have h2 := putI_len y acc
    have e : putL (y :: ys) acc = putL ys (putI y acc) := rfl
    rw [e]
    simp only [List.length_cons]
    omega
theorem putL_take {l : List Int} {i : Nat} (hi : i < l.length) (acc : List Int) : putL (l.take (i + 1)) acc = putI (rd l (i : Int)) (putL (l.take i) acc) := by
  rw [List.take_succ_eq_append_getElem hi, rd_get l i hi]
  unfold putL
  rw [List.foldl_append]
  rfl
theorem idx_first {s : Int} : ∀ (l : List Int) (m : Nat), l[m]? = some s → s ∉ l.take m → l.idxOf s = m
  | [], m, h, _ => by simp at h
  | x :: t, 0, h, _ => by
    obtain rfl := Option.some.inj (by simpa using h)
    simp
  | x :: t, m + 1, h, hn => by
    have h1 : s ≠ x := fun e => hn (by rw [e]; simp)
    have h2 := idx_first t m (by simpa using h) (fun h => hn (by simp [h]))
    rw [List.idxOf_cons, h2]
    have : (x == s) = false := by simpa using fun e => h1 e.symm
    rw [this]
    rfl
section
variable {a : List Bool} {n : List (List Int)} {s : Int}
theorem low_orS (hf : Fits a n) (ha : a.length ≤ 40) : ∀ j : Nat, j ≤ 3 → Low a.length (orS n s j)
  | 0, _ => low_zero
  | j + 1, h => low_orr (low_orS hf ha j (by omega)) (low_mv hf ha j (by omega))
theorem putL_sl (hf : Fits a n) (ha : a.length ≤ 40) (j : Nat) (hj : j < 3) : putL (sl (mvS n s (j : Int))) (sl (orS n s j)) = sl (orS n s (j + 1)) := by
  have h1 := low_orS (s := s) hf ha j (by omega)
  have h2 := low_mv (s := s) hf ha j hj
  have h3 := low_orS (s := s) hf ha (j + 1) (by omega)
  refine asc_ext (putL_asc _ _ (sl_asc _)) (sl_asc _) (fun y => ?_)
  rw [putL_mem, sl_mem ha h1, sl_mem ha h2, sl_mem ha h3]
  have hb := (or_bits h1.1 h2.1).2
  constructor
  · rintro (⟨q, h, e⟩ | ⟨q, h, e⟩)
    · exact ⟨q, by rw [orS, hb, h]; rfl, e⟩
    · exact ⟨q, by rw [orS, hb, h, Bool.or_true], e⟩
  · rintro ⟨q, h, e⟩
    rw [orS, hb] at h
    rcases Bool.or_eq_true_iff.1 h with h | h
    · exact Or.inl ⟨q, h, e⟩
    · exact Or.inr ⟨q, h, e⟩
theorem len_total (hf : Fits a n) (ha : a.length ≤ 40) (h1 : 1 ≤ a.length) : ∃ k, k ≤ 2000000000000 ∧ ∃ r, lenG (fun s => orS n s 3) (acS a) k [] 1 = some r :=
  ⟨1099511627777, by omega, lenG_total (dom := Low a.length) (N := 1099511627776) (fun s hs => low_orS hf ha 3 (by omega)) (fun l hl hd => card_n _ l hl (fun x hx => low_range ha (hd x hx))) _ [] 1 List.nodup_nil (fun x hx => by cases hx) (low_one h1) (by simp only [List.length_nil]; omega)⟩
end
end Go.Proofs.Ytpgdhpnmagmooaa.Can
end
section
namespace Go.Proofs.Ytpgdhpnmagmooaa.Can
open Go.RowKit Go.Shelf Go.Proofs.Ytpgdhpnmagmooaa Go.Proofs.Ytpgdhpnmagmooaa.P Go.Proofs.Ytpgdhpnmagmooaa.Wk Go.Proofs.Ytpgdhpnmagmooaa.Lg Go.Proofs.Ytpgdhpnmagmooaa.Pl Go.Proofs.Ytpgdhpnmagmooaa.Mp Go.Proofs.Ytpgdhpnmagmooaa.Bf Go.Proofs.Ytpgdhpnmagmooaa.Mn Go.Proofs.YtpgdhpnmagmooaaW.PrintWords Go.Proofs.YtpgdhpnmagmooaaW.PrintLast Go.Proofs.YtpgdhpnmagmooaaW.PrintMore
set_option linter.unusedVariables false
set_option linter.unusedSimpArgs false
theorem put6 {w0 w : World} {ps : List Pc} {u : Value} {M r : List Int} {q : Int} {k : Nat} (H : Sl w0 w ps) (i : Nat) (hi : ps[i]? = some (rwP (Kd.int .i64) 3 u M)) (h : spec_l6Put.f k M q = some r) :
    Calls Try.prog 25 #[u, .int .i64 q] w fun e w' => ∃ x, e = .returned x ∧ Sl w0 w' (ps.set i (rwP (Kd.int .i64) 3 x r)) := by
  obtain ⟨f, ⟨h1, hl⟩, hn, hg, hback⟩ := H.opn i hi
  refine (spec_l6Put.calls k (fun k => k ∈ f) u M q r w0 w H.bel (Kd.R_raise (b := 0) (fun _ _ _ _ h => h) h1 (fun k hk => hg k (h1.1 k hk))) h).mono ?_
  rintro e w' ⟨x, rfl, hx, hB, hK⟩
  refine ⟨x, rfl, hback w' _ (f ++ List.range' w.heap.size (w'.heap.size - w.heap.size)) hB ⟨Kd.R_mono (Kd.R_bound (Kd.R_lower hx (Nat.zero_le _))) (fun k hk => in_new hk.1 hk.2.2.1), new_lt hl hK.1⟩ (List.nodup_append.2 ⟨hn, List.nodup_range', fun a ha b hb' e => ?_⟩) (fun k hk => ?_) hK.2⟩
  · rw [List.mem_range'_1] at hb'
    have := hl a ha
    omega
  · rcases List.mem_append.1 hk with hk | hk
    · exact Or.inl hk
    · rw [List.mem_range'_1] at hk
      exact Or.inr hk.1
theorem len_map {seen : List Int} : (seen.map sl).length = seen.length := by simp
theorem rows_map {seen : List Int} {m : Nat} (h : m < seen.length) : rd_L1 (seen.map sl) (m : Int) = sl seen[m] := by
  unfold rd_L1
  simp [List.getD_eq_getElem?_getD, h]
set_option maxHeartbeats 40000000 in
set_option maxRecDepth 100000 in
theorem specLengths (acc : List Bool) (nxt : List (List Int)) (hf : Fits acc nxt) (ha : acc.length ≤ 40) (h1 : 1 ≤ acc.length) (kv : Nat) (hv : spec_IsValidDfa.f kv acc nxt = some true) (k : Nat) (hk : k ≤ 2000000000000) (r : List Bool × Int) (hr : lenG (fun s => orS nxt s 3) (acS acc) k [] 1 = some r)
    (A0 : Option Addr) (c0 : Nat) (A1 : Option Addr) (c1 : Nat) (w : World) (hr0 : Kd.C Kd.bool w A0 acc.length acc) (hc0 : acc.length ≤ c0) (hr1 : Kd.C (Kd.slice 3 (Kd.int .i64)) w A1 nxt.length nxt) (hc1 : nxt.length ≤ c1) :
    Calls Try.prog 11 #[.agg #[.slice A0 acc.length c0, .slice A1 nxt.length c1]] w fun e w' => ∃ v, e = .returned (.tuple #[v, .int .i64 r.2]) ∧ Kd.R Kd.bool 4 w' w.heap.size (fun _ => True) v r.1 ∧ Below w.heap.size w w' := by
  have H := Sl.start w
  have HF := am_ (And.intro hf (And.intro ha h1))
  have HR := am_ hr
  have HK := am_ hk
  have HC0 := am_ (And.intro hr0 hc0)
  have HC1 := am_ (And.intro hr1 hc1)
  have HV := am_ hv
  have hu := Try.underlying28
  clear hf ha h1 hr hk hr0 hc0 hr1 hc1 hv
  go_enter Try.func11, Try.ntmps11
  go_wp2_with (first
    | ((with_reducible refine gate_dst (N := 1) rfl ?_); refine nw_ H 1 #[.slice A0 acc.length c0, .slice A1 nxt.length c1] 28 rfl ?_; clear H; intro g2 w1 H; replace H := H.nz; have F0 := H.f2 0)
    | ((with_reducible refine gate_dst (N := 13) rfl ?_); refine gL_ (some 13) Try.func24 #[.agg #[.slice A0 acc.length c0, .slice A1 nxt.length c1]] ?_; refine (spec_IsValidDfa.calls kv A0 c0 acc A1 c1 nxt true _ (Kd.C_below HC0.out.1 H.bel) HC0.out.2 (Kd.C_below HC1.out.1 H.bel) HC1.out.2 HV.out).mono ?_; rintro e w2 ⟨rfl, hb⟩; clear F0; replace H := H.only hb; clear hb; refine ⟨_, rfl, ?_⟩)
    | ((with_reducible refine gate_dst (N := 16) rfl ?_); refine Kd.R_lit Kd.bool _ 4 ?hg (N := 16) ?hd (xs := ([] : List Bool)) (inner := []) (ok := fun _ => True) (okp := fun _ => True) ?hr ?hp (fun _ hk => hk) trivial (Below.refl _ _) (Nat.le_refl _) (by simp) ?_; (case hd => rfl); (case hg => rfl); (case hr => first | (go_simp; done) | (go_simp; rfl)); (case hp => exact (Reps.none _ _)); intro v4 w3 ho hb hg_ hnew_; clear hg_ hnew_; replace H := (H.newR hb ho).nz; clear hb ho)
    | ((with_reducible refine gate_dst (N := 17) rfl ?_); refine Kd.R_lit (Kd.slice 3 (Kd.int .i64)) _ 43 ?hg (N := 17) ?hd (xs := ([] : List (List Int))) (inner := []) (ok := fun _ => True) (okp := fun _ => True) ?hr ?hp (fun _ hk => hk) trivial (Below.refl _ _) (Nat.le_refl _) (by simp) ?_; (case hd => rfl); (case hg => rfl); (case hr => first | (go_simp; done) | (go_simp; rfl)); (case hp => exact (Reps.none _ _)); intro v5 w4 ho hb hg_ hnew_; clear hg_ hnew_; replace H := ((H.newR hb ho).nz.toN 2).nz; clear hb ho)
    | ((with_reducible refine gate_dst (N := 18) rfl ?_); refine Kd.R_lit (Kd.int .i64) _ 3 ?hg (N := 18) ?hd (xs := [0]) (inner := [.int .i64 0]) (ok := fun _ => True) (okp := fun _ => True) ?hr ?hp (fun _ hk => hk) trivial (Below.refl _ _) (Nat.le_refl _) (by simp) ?_; (case hd => rfl); (case hg => rfl); (case hr => first | (go_simp; done) | (go_simp; rfl)); (case hp => exact (Reps.one (show Kd.M (Kd.int .i64) _ _ _ 0 [.int .i64 0] from rfl) (Reps.none _ _))); intro v6 w5 ho hb hg_ hnew_; clear hg_ hnew_; replace H := (H.newR hb ho).nz; clear hb ho))
  go_loopg [4, 5, 6] k (fun gg v4 v5 v6 w' => ∃ (seen : List Int) (s : Int), Aside0 (lenG (fun s => orS nxt s 3) (acS acc) gg seen s = some r) ∧ Aside0 ((∀ x ∈ seen, Low acc.length x) ∧ Low acc.length s ∧ seen.length + gg ≤ 2000000000000) ∧ Sl w w' [bx g2 #[.slice A0 acc.length c0, .slice A1 nxt.length c1] 28, rwP Kd.bool 4 v4 (seen.map (acS acc)), nwP (Kd.slice 3 (Kd.int .i64)) 43 v5 (seen.map sl), rwP (Kd.int .i64) 3 v6 (sl s)])
  case atStart =>
    rw [← sl_one] at H
    exact ⟨[], 1, HR, ⟨⟨(fun x hx => nomatch hx), low_one HF.out.2.2, by have := HK.out; simp only [List.length_nil]; omega⟩⟩, H⟩
  case round =>
    clear H HR
    obtain ⟨seen, s, HR, HS, H⟩ := hrel
    obtain ⟨g1_, rfl⟩ : ∃ q, gk = q + 1 := ⟨gk - 1, by
      cases gk with
      | zero => exact absurd HR.out (by simp [lenG])
      | succ g => rfl⟩
    obtain ⟨A5, c5, rfl, hc5, hC5⟩ := H.rdN 2
    clear hc5 hC5
    rw [len_map] at *
    go_wp2
    go_loopg [7] seen.length (fun gg v7 w' => ∃ (m : Nat), v7 = .int .i64 (m : Int) ∧ Aside0 ((m ≤ seen.length ∧ seen.length ≤ gg + m) ∧ s ∉ seen.take m) ∧ Sl w w' [bx g2 #[.slice A0 acc.length c0, .slice A1 nxt.length c1] 28, rwP Kd.bool 4 u4 (seen.map (acS acc)), nwP (Kd.slice 3 (Kd.int .i64)) 43 (.slice A5 seen.length c5) (seen.map sl), rwP (Kd.int .i64) 3 u6 (sl s)])
    case atStart => exact ⟨0, rfl, ⟨⟨by omega, by omega⟩, by simp⟩, H⟩
    case round =>
      clear H
      obtain ⟨m, rfl, HM, H⟩ := hrel
      by_cases hm : m < seen.length
      · have hC := H.rdN_c 2
        obtain ⟨g2_, rfl⟩ : ∃ q, gk = q + 1 := ⟨gk - 1, by have := HM.out.1; omega⟩
        obtain ⟨ad, A2, c2, rfl, hcell, hcl, hrow⟩ := at_L1 hC (m : Int) (by omega) (by rw [len_map]; omega)
        obtain ⟨A6, c6, rfl, hc6, hC6⟩ := (H.rd 3).2
        rw [rows_map hm] at hcell hcl hrow
        rw [Int.toNat_natCast] at hcell
        have p1 : ((m : Int) < (seen.length : Int)) = True := eq_true (by omega)
        have p2 : ((0 : Int) ≤ (m : Int)) = True := eq_true (by omega)
        have HX := am_ (And.intro hcl (And.intro hrow (And.intro hc6 hC6)))
        have HS1 : Aside0 (Low acc.length seen[m]) := ⟨HS.out.1 _ (List.getElem_mem hm)⟩
        obtain ⟨x, hx, hx2⟩ : ∃ x, x = seen[m] ∧ seen[m]? = some x := ⟨_, rfl, List.getElem?_eq_getElem hm⟩
        rw [← hx] at hcell HX HS1
        obtain ⟨kk, hkk⟩ := (spec_ints (sl x) (sl s) (by have := sl_len x; omega)).rounds
        have HKK := am_ hkk
        have HXS := am_ hx2
        clear hC hcl hrow hc6 hC6 hkk hx hx2 hm
        by_cases he : x = s
        · subst he
          have e1 : decide (sl x = sl x) = true := by simp
          rw [e1] at HKK
          go_wp2_with ((with_reducible refine gate_dst (N := 30) rfl ?_); refine gL_ (some 30) Try.func35 #[.slice A2 (sl x).length c2, .slice A6 (sl x).length c6] ?_; refine (spec_l5Ints.calls kk A2 c2 (sl x) A6 c6 (sl x) true _ HX.out.2.1 HX.out.1 HX.out.2.2.2 HX.out.2.2.1 HKK.out).mono ?_; rintro e w3 ⟨rfl, hb⟩; replace H := H.only hb.below; clear hb hcell HX; refine ⟨_, rfl, ?_⟩)
          go_ret2
          have hm := (List.getElem?_eq_some_iff.1 HXS.out).1
          have hmem : x ∈ seen := List.mem_of_getElem? HXS.out
          have hr := HR.out
          rw [lenG, if_pos hmem, idx_first seen m HXS.out HM.out.2] at hr
          obtain rfl := Option.some.inj hr
          have hw : wrap64 ((seen.length : Int) - (m : Int)) = (seen.length : Int) - (m : Int) := w64 (by omega) (by have := HS.out.2.2; omega)
          rw [hw]
          exact ⟨u4, rfl, (H.rd 1).1, H.bel⟩
        · have e1 : decide (sl x = sl s) = false := decide_eq_false (fun e => he (sl_inj HF.out.2.1 HS1.out HS.out.2.1 e))
          rw [e1] at HKK
          go_wp2_with ((with_reducible refine gate_dst (N := 30) rfl ?_); refine gL_ (some 30) Try.func35 #[.slice A2 (sl x).length c2, .slice A6 (sl s).length c6] ?_; refine (spec_l5Ints.calls kk A2 c2 (sl x) A6 c6 (sl s) false _ HX.out.2.1 HX.out.1 HX.out.2.2.2 HX.out.2.2.1 HKK.out).mono ?_; rintro e w3 ⟨rfl, hb⟩; replace H := H.only hb.below; clear hb hcell HX; refine ⟨_, rfl, ?_⟩)
          go_roundg g2_
          case measure => omega
          case rel =>
            obtain ⟨hm, hx⟩ := List.getElem?_eq_some_iff.1 HXS.out
            refine ⟨m + 1, by first | rfl | (rw [up1 (by have := HS.out.2.2; omega)]), ⟨⟨by omega, by have := HM.out.1; omega⟩, ?_⟩, H⟩
            rw [List.take_succ_eq_append_getElem hm]
            intro h
            rcases List.mem_append.1 h with h | h
            · exact HM.out.2 h
            · exact he (by rw [← hx]; exact (List.mem_singleton.1 h).symm)
      · have e : m = seen.length := by have := HM.out.1; omega
        subst e
        have hns : s ∉ seen := by have := HM.out.2; rwa [List.take_of_length_le (Nat.le_refl _)] at this
        have hr2 := HR.out
        rw [lenG, if_neg hns] at hr2
        have HR2 := am_ hr2
        have p1 : ((seen.length : Int) < (seen.length : Int)) = False := eq_false (by omega)
        clear hm hr2 HR HM
        obtain ⟨A6, c6, rfl, hc6, hC6⟩ := (H.rd 3).2
        have HC6 := am_ hc6
        clear hc6 hC6
        obtain ⟨ka, hka⟩ := (any_ev (n := nxt) HF.out.2.1 HS.out.2.1).rounds
        have HKA := am_ hka
        clear hka
        go_wp2_with (first
          | ((with_reducible refine gate_builtin (b := .append) (xs := #[.tmp 36, .tmp 38]) rfl ?_); at_builtin; refine H.apN 2 3 (.tmp 36) (.tmp 38) 23 (.slice none 0 0) 24 rfl rfl Try.underlying23 (by kernel_rfl) rfl (by decide) rfl rfl ?aL ?_; (case aL => have := HS.out.2.2; rw [len_map]; omega); clear H; intro v5n w4 H; replace H := H.nz; have F0 := H.f2 0)
          | ((with_reducible refine gate_dst (N := 43) rfl ?_); refine gL_ (some 43) Try.func28 #[.agg #[.slice A0 acc.length c0, .slice A1 nxt.length c1], .slice A6 (sl s).length c6] ?_; refine (spec_l6Any.calls ka A0 c0 acc A1 c1 nxt A6 c6 (sl s) _ _ (Kd.C_below HC0.out.1 H.bel) HC0.out.2 (Kd.C_below HC1.out.1 H.bel) HC1.out.2 (H.nl_c 2) HC6.out HKA.out).mono ?_; rintro e w5 ⟨rfl, hb⟩; replace H := H.only hb; clear hb F0; refine ⟨_, rfl, ?_⟩)
          | ((with_reducible refine gate_builtin (b := .append) (xs := #[.tmp 40, .tmp 44]) rfl ?_); at_builtin; refine H.apR (d := Kd.bool) (e := 4) 1 (acS acc s) [.bool (acS acc s)] (.tmp 40) (.tmp 44) 22 (.bool false) 1 rfl rfl Try.underlying22 info4 rfl (by decide) (by decide) rfl rfl ?aP ?aL ?_; (case aP => exact rfl); (case aL => have := HS.out.2.2; rw [List.length_map]; omega); clear H; intro v4n w4 H; replace H := H.nz)
          | ((with_reducible refine gate_dst (N := 46) rfl ?_); refine Kd.R_lit (Kd.int .i64) _ 3 ?hg (N := 46) ?hd (xs := ([] : List Int)) (inner := []) (ok := fun _ => True) (okp := fun _ => True) ?hr ?hp (fun _ hk => hk) trivial (Below.refl _ _) (Nat.le_refl _) (by simp) ?_; (case hd => rfl); (case hg => rfl); (case hr => first | (go_simp; done) | (go_simp; rfl)); (case hp => exact (Reps.none _ _)); intro v8 w6 ho hb hg_ hnew_; clear hg_ hnew_; replace H := (H.newR hb ho).nz; clear hb ho))
        go_loopg [8, 9] 3 (fun gg v8 v9 w' => ∃ (j : Nat), v9 = .int .i64 (j : Int) ∧ Aside0 (j ≤ 3 ∧ 3 ≤ gg + j) ∧ Sl w w' [bx g2 #[.slice A0 acc.length c0, .slice A1 nxt.length c1] 28, rwP Kd.bool 4 v4n (seen.map (acS acc) ++ [acS acc s]), nlP (Kd.int .i64) 3 43 v5n (seen.map sl ++ [sl s]) (.slice A6 (sl s).length c6) (sl s), emp, rwP (Kd.int .i64) 3 v8 (sl (orS nxt s j))])
        case atStart =>
          rw [← sl_zero] at H
          exact ⟨0, rfl, ⟨by omega, by omega⟩, H⟩
        case round =>
          clear H
          obtain ⟨j, rfl, HJ, H⟩ := hrel
          by_cases hj : j < 3
          · obtain ⟨g2_, rfl⟩ : ∃ q, gk = q + 1 := ⟨gk - 1, by have := HJ.out; omega⟩
            have HE : Aside0 (putL (sl (mvS nxt s (j : Int))) (sl (orS nxt s j)) = sl (orS nxt s (j + 1))) := ⟨putL_sl HF.out.1 HF.out.2.1 j hj⟩
            obtain ⟨kk, hkk⟩ := (move_ev HF.out.1 HF.out.2.1 HS.out.2.1 j hj).rounds
            have HKK := am_ hkk
            have p1 : ((j : Int) < 3) = True := eq_true (by omega)
            have HJ2 := am_ hj
            have F0 := H.f2 0
            have HL : Aside0 ((sl (mvS nxt s (j : Int))).length ≤ 40 ∧ (sl (orS nxt s j)).length ≤ 40) := ⟨sl_len _, sl_len _⟩
            clear hkk hj
            go_wp2_with ((with_reducible refine gate_dst (N := 54) rfl ?_); refine gL_ (some 54) Try.func36 #[.agg #[.slice A0 acc.length c0, .slice A1 nxt.length c1], .slice A6 (sl s).length c6, .int .i64 (j : Int)] ?_; refine (spec_l6Move.calls kk A0 c0 acc A1 c1 nxt A6 c6 (sl s) (j : Int) _ _ (Kd.C_below HC0.out.1 H.bel) HC0.out.2 (Kd.C_below HC1.out.1 H.bel) HC1.out.2 (H.nl_c 2) HC6.out HKK.out).mono ?_; rintro e w5 ⟨v10, rfl, ho, hb⟩; replace H := (H.newR hb ho).nz; clear hb ho F0; (obtain ⟨A10, c10, rfl, -, -⟩ := (H.rd 5).2); refine ⟨_, rfl, ?_⟩)
            generalize sl (mvS nxt s (j : Int)) = L at H HE HL
            generalize sl (orS nxt s j) = M at H HE HL
            go_loopg [8, 11] L.length (fun gg v8 v11 w' => ∃ (i : Nat), v11 = .int .i64 (i : Int) ∧ Aside0 (i ≤ L.length ∧ L.length ≤ gg + i) ∧ Sl w w' [bx g2 #[.slice A0 acc.length c0, .slice A1 nxt.length c1] 28, rwP Kd.bool 4 v4n (seen.map (acS acc) ++ [acS acc s]), nlP (Kd.int .i64) 3 43 v5n (seen.map sl ++ [sl s]) (.slice A6 (sl s).length c6) (sl s), emp, rwP (Kd.int .i64) 3 v8 (putL (L.take i) M), rwP (Kd.int .i64) 3 (.slice A10 L.length c10) L])
            case atStart => exact ⟨0, rfl, ⟨by omega, by omega⟩, H⟩
            case round =>
              clear H p1
              obtain ⟨i, rfl, HI, H⟩ := hrel
              by_cases hi : i < L.length
              · obtain ⟨g3_, rfl⟩ : ∃ q, gk = q + 1 := ⟨gk - 1, by have := HI.out; omega⟩
                obtain ⟨ad, rfl, hx⟩ := Kd.at_int (H.rd_c 5) (i : Int) (by omega) (by omega)
                rw [Int.toNat_natCast] at hx
                obtain ⟨kp, hkp⟩ := (put_ev (putL (L.take i) M) (rd L (i : Int)) (by have := putL_most (L.take i) M; rw [List.length_take] at this; have := HL.out; omega)).rounds
                rw [← putL_take hi] at hkp
                have HKP := am_ hkp
                have p1 : ((i : Int) < (L.length : Int)) = True := eq_true (by omega)
                have p2 : ((0 : Int) ≤ (i : Int)) = True := eq_true (by omega)
                have HI2 := am_ hi
                clear hkp hi
                go_wp2_with ((with_reducible refine gate_dst (N := 66) rfl ?_); refine gL_ (some 66) Try.func25 #[u8, .int .i64 (rd L (i : Int))] ?_; refine (put6 H 4 rfl HKP.out).mono ?_; rintro e w6 ⟨x, rfl, H2⟩; clear H hx; have H := H2.nz; clear H2; refine ⟨_, rfl, ?_⟩)
                go_roundg g3_
                case measure => omega
                case rel => exact ⟨i + 1, by first | rfl | (rw [up1 (by have := HI2.out; have := HL.out; omega)]), ⟨by have := HI2.out; omega, by have := HI.out; omega⟩, H⟩
              · have e : i = L.length := by have := HI.out; omega
                subst e
                rw [List.take_of_length_le (Nat.le_refl _), HE.out] at H
                have p1 : ((L.length : Int) < (L.length : Int)) = False := eq_false (by omega)
                clear hi
                go_wp2
                go_roundg g2_
                case measure => omega
                case rel => exact ⟨j + 1, by first | rfl | (rw [up1 (by have := HJ2.out; omega)]), ⟨by have := HJ2.out; omega, by have := HJ.out; omega⟩, H.pre 5⟩
          · have e : j = 3 := by have := HJ.out; omega
            subst e
            clear hj
            go_wp2
            go_roundg g1_
            case measure => omega
            case rel =>
              have H2 := (H.nl_n 2).nz.sel [0, 1, 2, 4]
              have em1 : seen.map (acS acc) ++ [acS acc s] = (seen ++ [s]).map (acS acc) := by simp
              have em2 : seen.map sl ++ [sl s] = (seen ++ [s]).map sl := by simp
              refine ⟨seen ++ [s], orS nxt s 3, HR2, ⟨fun x hx => ?_, low_orS HF.out.1 HF.out.2.1 3 (by omega), by have := HS.out.2.2; simp only [List.length_append, List.length_singleton]; omega⟩, ?_⟩
              · rcases List.mem_append.1 hx with hx | hx
                · exact HS.out.1 x hx
                · rw [List.mem_singleton.1 hx]; exact HS.out.2.1
              · rw [← em1, ← em2]
                exact H2
end Go.Proofs.Ytpgdhpnmagmooaa.Can
end
section
namespace Go.Proofs.Ytpgdhpnmagmooaa.P
open Go.RowKit Go.Proofs.YtpgdhpnmagmooaaW.PrintWords Go.Proofs.YtpgdhpnmagmooaaW.PrintLast Go.Proofs.YtpgdhpnmagmooaaW.PrintMore
attribute [local go_sem] max2_int min2_int max_two min_two max_three min_three max_four min_four
set_option linter.unusedVariables false
set_option linter.unusedSimpArgs false
def impl_IsValidDfa.f (l0_0 : List Bool) (l0_1 : List (List Int)) : Option (Bool) := some (Wk.validD l0_0 l0_1)
theorem impl_IsValidDfa.calls (A0_0 : Option Addr) (c0_0 : Nat) (l0_0 : List Bool) (A0_1 : Option Addr) (c0_1 : Nat) (l0_1 : List (List Int)) (r : Bool) (w : World) (hr0_0 : Kd.C Kd.bool w A0_0 l0_0.length l0_0) (hc0_0 : l0_0.length ≤ c0_0) (hr0_1 : Kd.C (Kd.slice 3 (Kd.int .i64)) w A0_1 l0_1.length l0_1) (hc0_1 : l0_1.length ≤ c0_1) (h : impl_IsValidDfa.f l0_0 l0_1 = some r) :
    Calls Try.prog 31 #[.agg #[.slice A0_0 l0_0.length c0_0, .slice A0_1 l0_1.length c0_1]] w fun e w' => e = .returned (.bool r) ∧ Below w.heap.size w w' := by
  obtain rfl := Option.some.inj h
  exact Wk.validCalls A0_0 c0_0 l0_0 A0_1 c0_1 l0_1 w hr0_0 hr0_1
end Go.Proofs.Ytpgdhpnmagmooaa.P
end
section
namespace Go.Proofs.Ytpgdhpnmagmooaa.Can
open Go.RowKit Go.Shelf Go.Proofs.Ytpgdhpnmagmooaa Go.Proofs.Ytpgdhpnmagmooaa.P Go.Proofs.Ytpgdhpnmagmooaa.Wk Go.Proofs.Ytpgdhpnmagmooaa.Lg Go.Proofs.Ytpgdhpnmagmooaa.Pl Go.Proofs.Ytpgdhpnmagmooaa.Mp Go.Proofs.Ytpgdhpnmagmooaa.Bf Go.Proofs.Ytpgdhpnmagmooaa.Mn Go.Proofs.YtpgdhpnmagmooaaW.PrintWords Go.Proofs.YtpgdhpnmagmooaaW.PrintLast Go.Proofs.YtpgdhpnmagmooaaW.PrintMore
set_option linter.unusedVariables false
set_option linter.unusedSimpArgs false
abbrev wfU (x : Int) : Prop := (Lit.int .u64 x).wf = true
theorem mapU : MapTy Try.prog 57 52 3 .i64 (Value.int .u64) wfU := int_ty Try.prog Try.underlying57 Try.underlying52 Try.underlying3 (fun w => by kernel_rfl)
abbrev IsU (w : World) (b : Nat) (m : Int → Option Int) (c : Nat) : Prop := MapIs Try.prog 52 3 .i64 (Value.int .u64) wfU w b m c
theorem IsU.move {w w' : World} {b c : Nat} {m : Int → Option Int} (h : IsU w b m c) (hm : w'.heap[b]? = w.heap[b]?) : IsU w' b m c := by
  obtain ⟨D, ⟨es, clock, hb, F, hs, hD⟩, h2⟩ := h
  exact ⟨D, ⟨es, clock, hm.trans hb, F, hs, hD⟩, h2⟩
def mpP (b : Nat) (m : Int → Option Int) (c : Nat) : Pc := ⟨fun w fp => fp = [b] ∧ IsU w b m c, fun ⟨e, h⟩ hm => ⟨e, h.move (hm b (by rw [e]; exact List.mem_singleton.2 rfl))⟩, fun ⟨e, h⟩ k hk => by
  rw [e] at hk
  rw [List.mem_singleton.1 hk]
  exact h.lt⟩
section
variable {w0 w w' : World} {ps : List Pc} {b c c' : Nat} {m m' : Int → Option Int}
theorem newM (H : Sl w0 w ps) (hm : IsU w' w.heap.size m c) (hb : Below w.heap.size w w') : Sl w0 w' (ps ++ [mpP w.heap.size m c]) :=
  H.call ⟨hb, [w.heap.size], ⟨[w.heap.size], [], by simp, ⟨rfl, hm⟩, rfl⟩, by simp, by simp⟩
theorem isM (H : Sl w0 w ps) (i : Nat) (hi : ps[i]? = some (mpP b m c) := by rfl) : IsU w b m c := by
  obtain ⟨f, ⟨_, h⟩, _⟩ := H.get i hi
  exact h
theorem putM (H : Sl w0 w ps) (i : Nat) (hm : IsU w' b m' c') (hg : w.grownBy w' (some b)) (hi : ps[i]? = some (mpP b m c) := by rfl) : Sl w0 w' (ps.set i (mpP b m' c')) := by
  obtain ⟨f, ⟨e, h⟩, _, hb⟩ := H.get i hi
  have hb0 := hb b (by rw [e]; exact List.mem_singleton.2 rfl)
  refine H.upd i hi (H.bel.grown hg H.bel.size (fun k hk => by injection hk with hk; omega)) (fun f ⟨e, h⟩ hn _ => ⟨[b], ⟨rfl, hm⟩, by simp, fun k hk => Or.inl (by rw [e]; exact hk), fun k hk hkf => hg.block k hk (fun e2 => hkf (by rw [e]; injection e2 with e2; rw [e2]; exact List.mem_singleton.2 rfl))⟩)
end
theorem idx_nil : (idx ([] : List Int)) = fun _ => none := by
  funext y
  simp [idx]
theorem low_wf {m : Nat} {s : Int} (h : Low m s) : wfU s := by
  have := h.1.1
  have := h.1.2
  simp [wfU, Lit.wf, IntKind.min, IntKind.max, IntKind.signed, IntKind.bits]
  omega
set_option maxHeartbeats 40000000 in
set_option maxRecDepth 100000 in
theorem implLengths (acc : List Bool) (nxt : List (List Int)) (hf : Fits acc nxt) (ha : acc.length ≤ 40) (h1 : 1 ≤ acc.length) (hv : impl_IsValidDfa.f acc nxt = some true) (k : Nat) (hk : k ≤ 2000000000000) (r : List Bool × Int) (hr : lenG (fun s => orS nxt s 3) (acS acc) k [] 1 = some r)
    (A0 : Option Addr) (c0 : Nat) (A1 : Option Addr) (c1 : Nat) (w : World) (hr0 : Kd.C Kd.bool w A0 acc.length acc) (hc0 : acc.length ≤ c0) (hr1 : Kd.C (Kd.slice 3 (Kd.int .i64)) w A1 nxt.length nxt) (hc1 : nxt.length ≤ c1) :
    Calls Try.prog 12 #[.agg #[.slice A0 acc.length c0, .slice A1 nxt.length c1]] w fun e w' => ∃ v, e = .returned (.tuple #[v, .int .i64 r.2]) ∧ Kd.R Kd.bool 4 w' w.heap.size (fun _ => True) v r.1 ∧ Below w.heap.size w w' := by
  have H := Sl.start w
  have HF := am_ (And.intro hf (And.intro ha h1))
  have HR := am_ hr
  have HK := am_ hk
  have HC0 := am_ (And.intro hr0 hc0)
  have HC1 := am_ (And.intro hr1 hc1)
  have HV := am_ hv
  have hu := Try.underlying28
  clear hf ha h1 hr hk hr0 hc0 hr1 hc1 hv
  go_enter Try.func12, Try.ntmps12
  go_wp2_with (first
    | ((with_reducible refine gate_dst (N := 1) rfl ?_); refine nw_ H 1 #[.slice A0 acc.length c0, .slice A1 nxt.length c1] 28 rfl ?_; clear H; intro g2 w1 H; replace H := H.nz; have F0 := H.f2 0)
    | ((with_reducible refine gate_dst (N := 13) rfl ?_); refine gL_ (some 13) Try.func31 #[.agg #[.slice A0 acc.length c0, .slice A1 nxt.length c1]] ?_; refine (impl_IsValidDfa.calls A0 c0 acc A1 c1 nxt true _ (Kd.C_below HC0.out.1 H.bel) HC0.out.2 (Kd.C_below HC1.out.1 H.bel) HC1.out.2 HV.out).mono ?_; rintro e w2 ⟨rfl, hb⟩; clear F0; replace H := H.only hb; clear hb; refine ⟨_, rfl, ?_⟩)
    | ((with_reducible refine gate_dst (N := 15) rfl ?_); refine Kd.R_lit Kd.bool _ 4 ?hg (N := 15) ?hd (xs := ([] : List Bool)) (inner := []) (ok := fun _ => True) (okp := fun _ => True) ?hr ?hp (fun _ hk => hk) trivial (Below.refl _ _) (Nat.le_refl _) (by simp) ?_; (case hd => rfl); (case hg => rfl); (case hr => first | (go_simp; done) | (go_simp; rfl)); (case hp => exact (Reps.none _ _)); intro v4 w3 ho hb hg_ hnew_; clear hg_ hnew_; replace H := (H.newR hb ho).nz; clear hb ho)
    | ((with_reducible refine gate_dst (N := 16) rfl ?_); refine wp_make (t := 57) (k := 52) (e := 3) (q := .i64) (enc := Value.int .u64) (ok := wfU) rfl rfl ?_; intro w4 hm hb; replace H := (newM H hm hb).nz; clear hm hb))
  generalize w3.heap.size = gm at H ⊢
  rw [← idx_nil] at H
  go_loopg [4, 6, 7] k (fun gg v4 v6 v7 w' => ∃ (seen : List Int) (s : Int), v6 = .int .u64 s ∧ v7 = .int .i64 (seen.length : Int) ∧ Aside0 (lenG (fun s => orS nxt s 3) (acS acc) gg seen s = some r) ∧ Aside0 (Low acc.length s ∧ seen.length + gg ≤ 2000000000000) ∧ Sl w w' [bx g2 #[.slice A0 acc.length c0, .slice A1 nxt.length c1] 28, rwP Kd.bool 4 v4 (seen.map (acS acc)), mpP gm (idx seen) seen.length])
  case atStart => exact ⟨[], 1, rfl, rfl, HR, ⟨low_one HF.out.2.2, by have := HK.out; simp only [List.length_nil]; omega⟩, H⟩
  case round =>
    clear H HR
    obtain ⟨seen, s, rfl, rfl, HR, HS, H⟩ := hrel
    obtain ⟨g1_, rfl⟩ : ∃ q, gk = q + 1 := ⟨gk - 1, by
      cases gk with
      | zero => exact absurd HR.out (by simp [lenG])
      | succ g => rfl⟩
    have HW := am_ (low_wf HS.out.1)
    by_cases hs : s ∈ seen
    · have hsome : (idx seen s).isSome = true := idx_in hs
      have hget : (idx seen s).getD 0 = (seen.idxOf s : Int) := by unfold idx; rw [if_pos hs]; rfl
      have HH := am_ hs
      clear hs
      go_wp2_with ((with_reducible refine gate_dst (N := 22) rfl ?_); refine wp_look_ok mapU rfl _ _ rfl _ _ _ (isM H 2) rfl s rfl HW.out ?_; rw [hsome, hget])
      go_ret2
      have hr := HR.out
      rw [lenG, if_pos HH.out] at hr
      obtain rfl := Option.some.inj hr
      have hlt := List.idxOf_lt_length_of_mem HH.out
      have hw : wrap64 ((seen.length : Int) - (seen.idxOf s : Int)) = (seen.length : Int) - (seen.idxOf s : Int) := w64 (by omega) (by have := HS.out.2; omega)
      rw [hw]
      exact ⟨_, rfl, (H.rd 1).1, H.bel⟩
    · have hsome : (idx seen s).isSome = false := idx_out hs
      have hr2 := HR.out
      rw [lenG, if_neg hs] at hr2
      have HR2 := am_ hr2
      have HU := am_ (idx_upd hs)
      obtain ⟨ka, hka⟩ := (impl_accepting_ev (n := nxt) HF.out.2.1 HS.out.1.1).rounds
      have HKA := am_ hka
      have F0 := H.f2 0
      clear hka hr2 HR hs
      go_wp2_with (first
        | ((with_reducible refine gate_dst (N := 22) rfl ?_); refine wp_look_ok mapU rfl _ _ rfl _ _ _ (isM H 2) rfl s rfl HW.out ?_; rw [hsome])
        | (refine wp_update mapU rfl _ _ _ rfl _ _ _ (isM H 2) (by have := HS.out.2; unfold maxLen; omega) rfl s rfl HW.out (seen.length : Int) rfl (by have := HS.out.2; simp [Lit.wf, IntKind.min, IntKind.max, IntKind.signed, IntKind.bits]; omega) ?_; intro w2 hm hgr; rw [HU.out, if_neg (by rw [hsome]; decide)] at hm; replace H := (putM H 2 hm hgr).nz; clear hm hgr F0; have F0 := H.f2 0)
        | ((with_reducible refine gate_dst (N := 36) rfl ?_); refine gL_ (some 36) Try.func33 #[.agg #[.slice A0 acc.length c0, .slice A1 nxt.length c1], .int .u64 s] ?_; refine (impl_accepting.calls ka A0 c0 acc A1 c1 nxt s _ _ (Kd.C_below HC0.out.1 H.bel) HC0.out.2 (Kd.C_below HC1.out.1 H.bel) HC1.out.2 HKA.out).mono ?_; rintro e w5 ⟨rfl, hb⟩; replace H := H.only hb; clear hb F0; refine ⟨_, rfl, ?_⟩)
        | ((with_reducible refine gate_builtin (b := .append) (xs := #[.tmp 33, .tmp 37]) rfl ?_); at_builtin; refine H.apR (d := Kd.bool) (e := 4) 1 (acS acc s) [.bool (acS acc s)] (.tmp 33) (.tmp 37) 22 (.bool false) 1 rfl rfl Try.underlying22 info4 rfl (by decide) (by decide) rfl rfl ?aP ?aL ?_; (case aP => exact rfl); (case aL => have := HS.out.2; rw [List.length_map]; omega); clear H; intro v4n w4 H; replace H := H.nz))
      go_loopg [10, 39] 3 (fun gg v10 v39 w' => ∃ (j : Nat), v39 = .int .i64 (j : Int) ∧ v10 = .int .u64 (orS nxt s j) ∧ Aside0 (j ≤ 3 ∧ 3 ≤ gg + j) ∧ Sl w w' [bx g2 #[.slice A0 acc.length c0, .slice A1 nxt.length c1] 28, rwP Kd.bool 4 v4n (seen.map (acS acc) ++ [acS acc s]), mpP gm (idx (seen ++ [s])) (seen.length + 1)])
      case atStart => exact ⟨0, rfl, rfl, ⟨by omega, by omega⟩, H⟩
      case round =>
        clear H
        obtain ⟨j, rfl, rfl, HJ, H⟩ := hrel
        by_cases hj : j < 3
        · obtain ⟨g2_, rfl⟩ : ∃ q, gk = q + 1 := ⟨gk - 1, by have := HJ.out; omega⟩
          obtain ⟨kk, hkk⟩ := (impl_moved_ev HF.out.1 HF.out.2.1 HS.out.1.1 j hj).rounds
          have HKK := am_ hkk
          have p1 : ((j : Int) < 3) = True := eq_true (by omega)
          have HJ2 := am_ hj
          have F0 := H.f2 0
          clear hkk hj
          go_wp2_with ((with_reducible refine gate_dst (N := 46) rfl ?_); refine gL_ (some 46) Try.func37 #[.agg #[.slice A0 acc.length c0, .slice A1 nxt.length c1], .int .u64 s, .int .i64 (j : Int)] ?_; refine (impl_moved.calls kk A0 c0 acc A1 c1 nxt s (j : Int) _ _ (Kd.C_below HC0.out.1 H.bel) HC0.out.2 (Kd.C_below HC1.out.1 H.bel) HC1.out.2 HKK.out).mono ?_; rintro e w5 ⟨rfl, hb⟩; replace H := H.only hb; clear hb F0; refine ⟨_, rfl, ?_⟩)
          go_roundg g2_
          case measure => omega
          case rel => exact ⟨j + 1, by first | rfl | (rw [up1 (by have := HJ2.out; omega)]), rfl, ⟨by have := HJ2.out; omega, by have := HJ.out; omega⟩, H⟩
        · have e : j = 3 := by have := HJ.out; omega
          subst e
          clear hj
          go_wp2
          go_roundg g1_
          case measure => omega
          case rel =>
            have em1 : seen.map (acS acc) ++ [acS acc s] = (seen ++ [s]).map (acS acc) := by simp
            have em2 : seen.length + 1 = (seen ++ [s]).length := by simp
            refine ⟨seen ++ [s], orS nxt s 3, rfl, ?_, HR2, ⟨low_orS HF.out.1 HF.out.2.1 3 (by omega), by have := HS.out.2; simp only [List.length_append, List.length_singleton]; omega⟩, ?_⟩
            · rw [← em2]
              first | rfl | (rw [up1 (by have := HS.out.2; omega)])
            · rw [← em1, ← em2]
              exact H
end Go.Proofs.Ytpgdhpnmagmooaa.Can
end
section
namespace Go.Proofs.Ytpgdhpnmagmooaa.Can
open Go.RowKit Go.Shelf Go.Proofs.Ytpgdhpnmagmooaa Go.Proofs.Ytpgdhpnmagmooaa.P Go.Proofs.Ytpgdhpnmagmooaa.Wk Go.Proofs.Ytpgdhpnmagmooaa.Lg Go.Proofs.Ytpgdhpnmagmooaa.Pl Go.Proofs.Ytpgdhpnmagmooaa.Mp Go.Proofs.Ytpgdhpnmagmooaa.Bf Go.Proofs.Ytpgdhpnmagmooaa.Mn Go.Proofs.YtpgdhpnmagmooaaW.PrintWords Go.Proofs.YtpgdhpnmagmooaaW.PrintLast Go.Proofs.YtpgdhpnmagmooaaW.PrintMore
set_option linter.unusedVariables false
set_option linter.unusedSimpArgs false
theorem fits_valid2 {acc : List Bool} {nxt : List (List Int)} (hv : validD acc nxt = true) : Fits acc nxt ∧ acc.length ≤ 40 ∧ 1 ≤ acc.length := by
  have hv2 := hv
  simp only [validD, Bool.and_eq_true, decide_eq_true_eq] at hv2
  obtain ⟨⟨⟨ha1, ha⟩, hn⟩, -⟩ := hv2
  refine ⟨⟨hn, fun q hq => ⟨(next_range hv q hq.1 hq.2 0 (by omega) (by omega)).1, fun x hx => ?_⟩⟩, ha, ha1⟩
  obtain ⟨i, hi, rfl⟩ := List.getElem_of_mem hx
  have hl := (next_range hv q hq.1 hq.2 0 (by omega) (by omega)).1
  have hl2 : (rowOf nxt q).length = 3 := hl
  have := (next_range hv q hq.1 hq.2 (i : Int) (by omega) (by omega)).2
  have e : rd (rowOf nxt q) (i : Int) = (rowOf nxt q)[i] := rd_get _ i hi
  rw [← e]
  exact this
section
variable (acc : List Bool) (nxt : List (List Int)) (A0 : Option Addr) (c0 : Nat) (A1 : Option Addr) (c1 : Nat) (w : World) (hr0 : Kd.C Kd.bool w A0 acc.length acc) (hc0 : acc.length ≤ c0) (hr1 : Kd.C (Kd.slice 3 (Kd.int .i64)) w A1 nxt.length nxt) (hc1 : nxt.length ≤ c1)
include hr0 hc0 hr1 hc1
set_option maxHeartbeats 4000000 in
set_option maxRecDepth 100000 in
theorem specBad (kv : Nat) (hv : spec_IsValidDfa.f kv acc nxt = some false) :
    Calls Try.prog 11 #[.agg #[.slice A0 acc.length c0, .slice A1 nxt.length c1]] w fun e w' => ∃ v, e = .returned (.tuple #[v, .int .i64 0]) ∧ Kd.R Kd.bool 4 w' w.heap.size (fun _ => True) v [] ∧ Below w.heap.size w w' := by
  have H := Sl.start w
  have HC0 := am_ (And.intro hr0 hc0)
  have HC1 := am_ (And.intro hr1 hc1)
  have HV := am_ hv
  have hu := Try.underlying28
  clear hr0 hc0 hr1 hc1 hv
  go_enter Try.func11, Try.ntmps11
  go_wp2_with (first
    | ((with_reducible refine gate_dst (N := 1) rfl ?_); refine nw_ H 1 #[.slice A0 acc.length c0, .slice A1 nxt.length c1] 28 rfl ?_; clear H; intro g2 w1 H; replace H := H.nz; have F0 := H.f2 0)
    | ((with_reducible refine gate_dst (N := 13) rfl ?_); refine gL_ (some 13) Try.func24 #[.agg #[.slice A0 acc.length c0, .slice A1 nxt.length c1]] ?_; refine (spec_IsValidDfa.calls kv A0 c0 acc A1 c1 nxt false _ (Kd.C_below HC0.out.1 H.bel) HC0.out.2 (Kd.C_below HC1.out.1 H.bel) HC1.out.2 HV.out).mono ?_; rintro e w2 ⟨rfl, hb⟩; clear F0; replace H := H.only hb; clear hb; refine ⟨_, rfl, ?_⟩)
    | ((with_reducible refine gate_dst (N := 15) rfl ?_); refine Kd.R_lit Kd.bool _ 4 ?hg (N := 15) ?hd (xs := ([] : List Bool)) (inner := []) (ok := fun _ => True) (okp := fun _ => True) ?hr ?hp (fun _ hk => hk) trivial (Below.refl _ _) (Nat.le_refl _) (by simp) ?_; (case hd => rfl); (case hg => rfl); (case hr => first | (go_simp; done) | (go_simp; rfl)); (case hp => exact (Reps.none _ _)); intro v4 w3 ho hb hg_ hnew_; clear hg_ hnew_; replace H := (H.newR hb ho).nz; clear hb ho))
  go_ret2
  exact ⟨_, rfl, (H.rd 1).1, H.bel⟩
set_option maxHeartbeats 4000000 in
set_option maxRecDepth 100000 in
theorem implBad (hv : impl_IsValidDfa.f acc nxt = some false) :
    Calls Try.prog 12 #[.agg #[.slice A0 acc.length c0, .slice A1 nxt.length c1]] w fun e w' => ∃ v, e = .returned (.tuple #[v, .int .i64 0]) ∧ Kd.R Kd.bool 4 w' w.heap.size (fun _ => True) v [] ∧ Below w.heap.size w w' := by
  have H := Sl.start w
  have HC0 := am_ (And.intro hr0 hc0)
  have HC1 := am_ (And.intro hr1 hc1)
  have HV := am_ hv
  have hu := Try.underlying28
  clear hr0 hc0 hr1 hc1 hv
  go_enter Try.func12, Try.ntmps12
  go_wp2_with (first
    | ((with_reducible refine gate_dst (N := 1) rfl ?_); refine nw_ H 1 #[.slice A0 acc.length c0, .slice A1 nxt.length c1] 28 rfl ?_; clear H; intro g2 w1 H; replace H := H.nz; have F0 := H.f2 0)
    | ((with_reducible refine gate_dst (N := 13) rfl ?_); refine gL_ (some 13) Try.func31 #[.agg #[.slice A0 acc.length c0, .slice A1 nxt.length c1]] ?_; refine (impl_IsValidDfa.calls A0 c0 acc A1 c1 nxt false _ (Kd.C_below HC0.out.1 H.bel) HC0.out.2 (Kd.C_below HC1.out.1 H.bel) HC1.out.2 HV.out).mono ?_; rintro e w2 ⟨rfl, hb⟩; clear F0; replace H := H.only hb; clear hb; refine ⟨_, rfl, ?_⟩))
  go_ret2
  exact ⟨_, rfl, Kd.R_nil _ _ _ _ _, H.bel⟩
end
theorem lengthsBoth (acc : List Bool) (nxt : List (List Int)) (h1 : acc.length ≤ 1048576) (h2 : nxt.length ≤ 1048576) : ∃ r : List Bool × Int, r.1.length ≤ 2000000000000 ∧
    (∀ A0 c0 A1 c1 w, Kd.C Kd.bool w A0 acc.length acc → acc.length ≤ c0 → Kd.C (Kd.slice 3 (Kd.int .i64)) w A1 nxt.length nxt → nxt.length ≤ c1 → Calls Try.prog 11 #[.agg #[.slice A0 acc.length c0, .slice A1 nxt.length c1]] w fun e w' => ∃ v, e = .returned (.tuple #[v, .int .i64 r.2]) ∧ Kd.R Kd.bool 4 w' w.heap.size (fun _ => True) v r.1 ∧ Below w.heap.size w w') ∧
    ∀ A0 c0 A1 c1 w, Kd.C Kd.bool w A0 acc.length acc → acc.length ≤ c0 → Kd.C (Kd.slice 3 (Kd.int .i64)) w A1 nxt.length nxt → nxt.length ≤ c1 → Calls Try.prog 12 #[.agg #[.slice A0 acc.length c0, .slice A1 nxt.length c1]] w fun e w' => ∃ v, e = .returned (.tuple #[v, .int .i64 r.2]) ∧ Kd.R Kd.bool 4 w' w.heap.size (fun _ => True) v r.1 ∧ Below w.heap.size w w' := by
  obtain ⟨kv, hkv⟩ := (spec_valid acc nxt h1 h2).rounds
  cases hv : validD acc nxt with
  | true =>
    rw [hv] at hkv
    obtain ⟨hf, ha, hp⟩ := fits_valid2 hv
    obtain ⟨k, hk, r, hr⟩ := len_total hf ha hp
    refine ⟨r, lenG_len k [] 1 r hr (by simp only [List.length_nil]; omega), fun A0 c0 A1 c1 w a1 a2 a3 a4 => specLengths acc nxt hf ha hp kv hkv k hk r hr A0 c0 A1 c1 w a1 a2 a3 a4, fun A0 c0 A1 c1 w a1 a2 a3 a4 => implLengths acc nxt hf ha hp (by rw [impl_IsValidDfa.f, hv]) k hk r hr A0 c0 A1 c1 w a1 a2 a3 a4⟩
  | false =>
    rw [hv] at hkv
    exact ⟨([], 0), by simp, fun A0 c0 A1 c1 w a1 a2 a3 a4 => specBad acc nxt A0 c0 A1 c1 w a1 a2 a3 a4 kv hkv, fun A0 c0 A1 c1 w a1 a2 a3 a4 => implBad acc nxt A0 c0 A1 c1 w a1 a2 a3 a4 (by rw [impl_IsValidDfa.f, hv])⟩
end Go.Proofs.Ytpgdhpnmagmooaa.Can
end
section
namespace Go.Proofs.Ytpgdhpnmagmooaa.Wk
open Go.RowKit Go.Shelf Go.Proofs.Ytpgdhpnmagmooaa.P Go.Proofs.Ytpgdhpnmagmooaa.Pl Go.Proofs.Ytpgdhpnmagmooaa.Mp Go.Proofs.YtpgdhpnmagmooaaW.PrintWords Go.Proofs.YtpgdhpnmagmooaaW.PrintLast Go.Proofs.YtpgdhpnmagmooaaW.PrintMore
set_option linter.unusedVariables false
set_option linter.unusedSimpArgs false
def mkB (a : Int) (xs : List Bool) : List Bool := (List.range xs.length).map fun (i : Nat) => (Int.tmod (a + i) 3) == 0
theorem markBools_l0 (xs : List Bool) (hl : xs.length ≤ 4000000000000) (a : Int) (ha : 0 ≤ a ∧ a ≤ 1000000000000000) : ∀ d i : Nat, i + d = xs.length → Ev (fun k => laws_markBoolS.l0 k ((List.range i).map (fun (m : Nat) => (Int.tmod (a + m) 3) == 0) ++ xs.drop i) (a + i) i) (a + xs.length, mkB a xs) := by
  intro d
  induction d with
  | zero =>
    intro i hi
    refine next ?_
    rw [List.drop_eq_nil_of_le (by omega), List.append_nil]
    simp only [laws_markBoolS.l0, List.length_map, List.length_range, if_neg (show ¬ (i : Int) < (i : Int) by omega)]
    exact ev_some (by unfold mkB; rw [show xs.length = i by omega])
  | succ d ih =>
    intro i hi
    refine next ?_
    have hlen : (((List.range i).map (fun (m : Nat) => (Int.tmod (a + m) 3) == 0) ++ xs.drop i).length : Int) = (xs.length : Int) := by simp; omega
    have hset : ((List.range i).map (fun (m : Nat) => (Int.tmod (a + m) 3) == 0) ++ xs.drop i).set i ((Int.tmod (a + i) 3) == 0) = (List.range (i + 1)).map (fun (m : Nat) => (Int.tmod (a + m) 3) == 0) ++ xs.drop (i + 1) := by
      rw [List.drop_eq_getElem_cons (by omega), List.range_succ, List.map_append, List.map_singleton]
      rw [List.set_append_right _ _ (by simp)]
      simp only [List.length_map, List.length_range, Nat.sub_self, List.set_cons_zero, List.append_assoc, List.singleton_append]
    have IH := ih (i + 1) (by omega)
    simp only [laws_markBoolS.l0, hlen, if_pos (show (i : Int) < (xs.length : Int) by omega), if_pos (show (0 : Int) ≤ (i : Int) by omega), Int.toNat_natCast, hset]
    rw [up1 (by omega), w64 (by omega) (by omega)]
    rw [show a + ((i + 1 : Nat) : Int) = a + i + 1 by omega] at IH
    exact IH
theorem markBools (xs : List Bool) (hl : xs.length ≤ 4000000000000) (a : Int) (ha : 0 ≤ a ∧ a ≤ 1000000000000000) : Ev (fun k => laws_markBoolS.f k xs a) (a + xs.length, mkB a xs) := by
  have := markBools_l0 xs hl a ha xs.length 0 (by omega)
  refine this.congr fun k => ?_
  simp [laws_markBoolS.f]
theorem heldBools_l0 (n : Nat) (xs : List Bool) (hx : xs.length = n) (hl : n ≤ 4000000000000) (a : Int) (ha : 0 ≤ a ∧ a ≤ 1000000000000000) : ∀ d i : Nat, i + d = n → Ev (fun k => laws_heldBoolS.l0 k (mkB a xs) (a + i) i) (a + n) := by
  have hlen : (mkB a xs).length = n := by simp [mkB, hx]
  intro d
  induction d with
  | zero =>
    intro i hi
    refine next ?_
    simp only [laws_heldBoolS.l0, hlen, if_neg (show ¬ (i : Int) < (n : Int) by omega)]
    exact ev_some (by rw [show i = n by omega])
  | succ d ih =>
    intro i hi
    refine next ?_
    have IH := ih (i + 1) (by omega)
    have hat : rdOf false (mkB a xs) (i : Int) = ((Int.tmod (a + i) 3) == 0) := by
      rw [rdOf_get false _ i (by omega)]
      simp [mkB]
    simp only [laws_heldBoolS.l0, hlen, if_pos (show (i : Int) < (n : Int) by omega), if_pos (show (0 : Int) ≤ (i : Int) by omega), hat, bne_self_eq_false, if_neg (show ¬ false = true by decide)]
    rw [up1 (by omega), w64 (by omega) (by omega)]
    rw [show a + ((i + 1 : Nat) : Int) = a + i + 1 by omega] at IH
    exact IH
theorem heldBools (xs : List Bool) (hl : xs.length ≤ 4000000000000) (a : Int) (ha : 0 ≤ a ∧ a ≤ 1000000000000000) : Ev (fun k => laws_heldBoolS.f k (mkB a xs) a) (a + xs.length) := by
  have := heldBools_l0 xs.length xs rfl hl a ha xs.length 0 (by omega)
  refine this.congr fun k => ?_
  simp [laws_heldBoolS.f]
end Go.Proofs.Ytpgdhpnmagmooaa.Wk
end
section
namespace Go.Proofs.Ytpgdhpnmagmooaa.Wk
open Go.RowKit Go.Shelf Go.Proofs.Ytpgdhpnmagmooaa.P Go.Proofs.Ytpgdhpnmagmooaa.Pl Go.Proofs.Ytpgdhpnmagmooaa.Mp Go.Proofs.YtpgdhpnmagmooaaW.PrintWords Go.Proofs.YtpgdhpnmagmooaaW.PrintLast Go.Proofs.YtpgdhpnmagmooaaW.PrintMore
set_option linter.unusedVariables false
set_option linter.unusedSimpArgs false
theorem S_mark {e0 e : Nat} {w : World} {base g n cap : Nat} {ok : Nat → Prop} {xss : List (List Int)} (h : Kd.S (Kd.slice e0 (Kd.int .i64)) e w base ok (.slice (some ⟨g, 0, none⟩) n cap) xss) (j : Nat) (hj : j < xss.length) :
    ∃ u : Value, w.cell? ⟨g, j, none⟩ = some u ∧ Kd.R (Kd.int .i64) e0 w base (fun k => some k = u.ownBlock ∧ ok k ∧ k ≠ g) u xss[j] ∧
      ∀ (w' : World) (ys : List Int), (∀ b, some b ≠ u.ownBlock → b < w.heap.size → w'.heap[b]? = w.heap[b]?) → Kd.R (Kd.int .i64) e0 w' base (fun k => some k = u.ownBlock) u ys → Kd.S (Kd.slice e0 (Kd.int .i64)) e w' base ok (.slice (some ⟨g, 0, none⟩) n cap) (xss.set j ys) := by
  obtain ⟨f, h0, inner, ho, hr⟩ := h
  obtain ⟨u, hu, hR⟩ := hr.2 j _ (Kd.zip_at (List.getElem?_eq_getElem hj))
  have hsz : (Kd.tag f (Kd.slice e0 (Kd.int .i64))).sz = 1 := rfl
  rw [hsz, Nat.mul_one] at hu
  have hg : (Value.slice (some ⟨g, 0, none⟩) n cap).ownBlock = some g := by simp [Value.ownBlock]
  have hin : inner[j]? = some u := by
    have := congrArg (fun l => l[0]?) hu
    simpa [List.getElem?_take, List.getElem?_drop] using this
  refine ⟨u, ?_, Kd.R_mono (Kd.R_tight2 rfl hR) (fun k hk => ⟨hk.1, hk.2.1.1, fun e => hk.2.1.2 (by rw [e, hg])⟩), fun w' ys hb hR2 => ⟨f, h0, inner, ?_, ?_, ?_⟩⟩
  · have := ho.cells (g := g) hg j u hin
    rwa [add_plain] at this
  · rw [List.length_zipIdx, List.length_set]
    rw [List.length_zipIdx] at ho
    refine own_move ho (fun k hk => hb k (fun e => ?_) (own_lt ho k hk))
    exact (hR.1 k e.symm).1.2 hk.symm
  · have := hr.1
    rw [List.length_zipIdx] at this ⊢
    rw [List.length_set]
    exact this
  · intro i p hp
    rw [List.getElem?_zipIdx, Nat.zero_add] at hp
    obtain ⟨x, hx, rfl⟩ := Option.map_eq_some_iff.1 hp
    rw [List.getElem?_set] at hx
    by_cases e : j = i
    · subst e
      rw [if_pos rfl, if_pos hj] at hx
      injection hx with hx
      subst hx
      refine ⟨u, by rw [hsz, Nat.mul_one]; exact hu, Kd.R_mono hR2 (fun k hk => hR.1 k hk.symm)⟩
    · rw [if_neg e] at hx
      have := hr.2 i _ (Kd.zip_at hx)
      exact Kd.M_step (d := Kd.slice e0 (Kd.int .i64)) this (fun k hk hlt => hb k (fun e2 => e ((hR.1 k e2.symm).2.symm.trans hk.2)) hlt)
def mkRow (a : Int) (xs : List Int) : List Int := (List.range xs.length).map fun (i : Nat) => a + i
def mkK : List (List Int) → Int → Int
  | [], a => a
  | r :: t, a => mkK t (a + r.length)
def mkRows : List (List Int) → Int → List (List Int)
  | [], _ => []
  | r :: t, a => mkRow a r :: mkRows t (a + r.length)
theorem markInts_l0 (xs : List Int) (hl : xs.length ≤ 2000000) (a : Int) (ha : 0 ≤ a ∧ a ≤ 1000000000000000) : ∀ d i : Nat, i + d = xs.length → Ev (fun k => laws_markIntS.l0 k ((List.range i).map (fun (m : Nat) => a + m) ++ xs.drop i) (a + i) i) (a + xs.length, mkRow a xs) := by
  intro d
  induction d with
  | zero =>
    intro i hi
    refine next ?_
    rw [List.drop_eq_nil_of_le (by omega), List.append_nil]
    simp only [laws_markIntS.l0, List.length_map, List.length_range, if_neg (show ¬ (i : Int) < (i : Int) by omega)]
    exact ev_some (by unfold mkRow; rw [show xs.length = i by omega])
  | succ d ih =>
    intro i hi
    refine next ?_
    have hlen : (((List.range i).map (fun (m : Nat) => a + m) ++ xs.drop i).length : Int) = (xs.length : Int) := by simp; omega
    have hset : ((List.range i).map (fun (m : Nat) => a + m) ++ xs.drop i).set i (a + i) = (List.range (i + 1)).map (fun (m : Nat) => a + m) ++ xs.drop (i + 1) := by
      rw [List.drop_eq_getElem_cons (by omega), List.range_succ, List.map_append, List.map_singleton]
      rw [List.set_append_right _ _ (by simp)]
      simp only [List.length_map, List.length_range, Nat.sub_self, List.set_cons_zero, List.append_assoc, List.singleton_append]
    have IH := ih (i + 1) (by omega)
    simp only [laws_markIntS.l0, hlen, if_pos (show (i : Int) < (xs.length : Int) by omega), if_pos (show (0 : Int) ≤ (i : Int) by omega), Int.toNat_natCast, hset]
    rw [up1 (by omega), w64 (by omega) (by omega)]
    rw [show a + ((i + 1 : Nat) : Int) = a + i + 1 by omega] at IH
    exact IH
theorem markInts (xs : List Int) (hl : xs.length ≤ 2000000) (a : Int) (ha : 0 ≤ a ∧ a ≤ 1000000000000000) : Ev (fun k => laws_markIntS.f k xs a) (a + xs.length, mkRow a xs) := by
  have := markInts_l0 xs hl a ha xs.length 0 (by omega)
  refine this.congr fun k => ?_
  simp [laws_markIntS.f]
theorem mkK_snoc : ∀ (t : List (List Int)) (r : List Int) (a : Int), mkK (t ++ [r]) a = mkK t a + r.length
  | [], r, a => rfl
  | x :: t, r, a => mkK_snoc t r _
theorem mkRows_snoc : ∀ (t : List (List Int)) (r : List Int) (a : Int), mkRows (t ++ [r]) a = mkRows t a ++ [mkRow (mkK t a) r]
  | [], r, a => rfl
  | x :: t, r, a => by
    show mkRow a x :: mkRows (t ++ [r]) _ = _
    rw [mkRows_snoc t r]
    rfl
theorem mkRows_len : ∀ (t : List (List Int)) (a : Int), (mkRows t a).length = t.length
  | [], a => rfl
  | x :: t, a => congrArg (· + 1) (mkRows_len t _)
def small (xss : List (List Int)) : Prop := ∀ r ∈ xss, r.length ≤ 2000000
theorem mkK_bound : ∀ (t : List (List Int)) (a : Int), small t → a ≤ mkK t a ∧ mkK t a ≤ a + 2000000 * t.length
  | [], a, h => by simp [mkK]
  | x :: t, a, h => by
    have h1 := mkK_bound t (a + x.length) (fun r hr => h r (List.mem_cons_of_mem _ hr))
    have h2 := h x List.mem_cons_self
    show a ≤ mkK t (a + x.length) ∧ mkK t (a + x.length) ≤ _
    simp only [List.length_cons]
    omega
set_option maxRecDepth 100000 in
set_option maxHeartbeats 4000000 in
theorem markRowsCalls (P0 : Nat → Prop) (v : Value) (xss : List (List Int)) (a : Int) (w0 w : World) (hB : Below w0.heap.size w0 w) (ho : Kd.S (Kd.slice 3 (Kd.int .i64)) 43 w w0.heap.size P0 v xss)
    (hx : xss.length ≤ 2000000) (hs : small xss) (ha : 0 ≤ a ∧ a ≤ 20000000000000) :
    Calls Try.prog 38 #[v, .int .i64 a] w fun e w' => e = .returned (.int .i64 (mkK xss a)) ∧ Kd.S (Kd.slice 3 (Kd.int .i64)) 43 w' w0.heap.size P0 v (mkRows xss a) ∧ Below w0.heap.size w0 w' ∧ Kept w w' P0 := by
  obtain ⟨A, c, ev⟩ := Kd.S_slice ho
  subst ev
  have HX := am_ hx
  have HS := am_ hs
  have HA := am_ ha
  have HB := am_ hB
  have HO := am_ ho
  have HK := am_ (Kept.refl w P0)
  clear hx hs ha hB ho
  go_enter Try.func38, Try.ntmps38
  go_wp2
  go_loopg [1, 5] xss.length (fun gg v1 v5 wr => ∃ (i : Nat), v5 = .int .i64 (i : Int) ∧ v1 = .int .i64 (mkK (xss.take i) a) ∧ Aside0 (i ≤ xss.length) ∧ Aside0 (xss.length ≤ gg + i) ∧ Aside0 (Kd.S (Kd.slice 3 (Kd.int .i64)) 43 wr w0.heap.size P0 (.slice A xss.length c) (mkRows (xss.take i) a ++ xss.drop i)) ∧ Aside0 (Below w0.heap.size w0 wr) ∧ Aside0 (Kept w wr P0))
  case atStart => exact ⟨0, rfl, by simp [mkK], ⟨Nat.zero_le _⟩, ⟨by omega⟩, ⟨by simpa [mkRows] using HO.out⟩, HB, HK⟩
  case round =>
    clear HO HB HK
    obtain ⟨i, rfl, rfl, HI, HG, HO, HB, HK⟩ := hrel
    by_cases hi : i < xss.length
    · cases gk with
      | zero => exact absurd HG.out (by omega)
      | succ g1 =>
      have hlen : (mkRows (xss.take i) a ++ xss.drop i).length = xss.length := by rw [List.length_append, mkRows_len, List.length_take, List.length_drop]; omega
      obtain ⟨g, cap, e, _⟩ := Kd.S_form HO.out (by omega)
      injection e with e1 e2 e3
      subst e1
      subst e3
      obtain ⟨u, hu, hR, hset⟩ := S_mark HO.out i (by omega)
      have hat : (mkRows (xss.take i) a ++ xss.drop i)[i]'(by omega) = xss[i] := by
        rw [List.getElem_append_right (by rw [mkRows_len]; simp; omega)]
        simp only [mkRows_len, List.length_take, List.getElem_drop]
        congr 1
        omega
      rw [hat] at hR
      have hri := HS.out _ (List.getElem_mem hi)
      have hkb := mkK_bound (xss.take i) a (fun r hr => HS.out r (List.mem_of_mem_take hr))
      have hti : (xss.take i).length = i := by simp; omega
      rw [hti] at hkb
      have hkk : mkK (xss.take (i + 1)) a = mkK (xss.take i) a + xss[i].length := by rw [List.take_succ_eq_append_getElem hi, mkK_snoc]
      have hrr : (mkRows (xss.take i) a ++ xss.drop i).set i (mkRow (mkK (xss.take i) a) xss[i]) = mkRows (xss.take (i + 1)) a ++ xss.drop (i + 1) := by
        rw [List.take_succ_eq_append_getElem hi, mkRows_snoc, List.set_append_right _ _ (by rw [mkRows_len, hti]; exact Nat.le_refl _), mkRows_len, hti, Nat.sub_self, List.drop_eq_getElem_cons hi, List.set_cons_zero, List.append_assoc, List.singleton_append]
      obtain ⟨kf, hkf⟩ := (markInts xss[i] hri (mkK (xss.take i) a) (by have := HA.out; have := HX.out; omega)).rounds
      generalize xss[i] = row at hR hri hkk hrr hkf
      generalize hka : mkK (xss.take i) a = ka at hkk hrr hkf ⊢
      obtain ⟨Au, cu, eu⟩ := Kd.R_slice hR
      subst eu
      have HRW := am_ hR
      have HSET := am_ hset
      have HKF := am_ hkf
      have HKK := am_ hkk
      have HRR := am_ hrr
      have p1 : ((0 : Int) ≤ (i : Int)) = True := eq_true (by omega)
      have q1 : ((i : Int) < (xss.length : Int)) = True := eq_true (by omega)
      have HI2 := am_ hi
      clear hi hlen hat hri hkb hti hkk hrr hkf hR hset hka e2
      go_wp2_with ((with_reducible refine gate_callee (f := 55) rfl ?_); refine goesL_ (some 17) rfl rfl Try.func55 (by kernel_rfl) rfl #[.slice Au row.length cu, .int .i64 ka] rfl (by (try simp only [List.map_toArray, List.map_cons, List.map_nil]); first | done | rfl) ?_; (with_reducible refine (laws_markIntS.calls kf (fun k_ => some k_ = (Value.slice Au row.length cu).ownBlock) _ row ka _ _ w0 _ ?sideB ?sideO HKF.out).mono ?_); (case sideB => exact HB.out); (case sideO => exact Kd.R_mono HRW.out (fun _ h_ => h_.1)); rintro e w' ⟨rfl, hr2, hb2, hk2⟩; have HR2 := am_ hr2; have HB2 := am_ hb2; have HK2 := am_ hk2; clear hr2 hb2 hk2; refine ⟨_, rfl, ?_⟩)
      have HSN : Aside0 (Kd.S (Kd.slice 3 (Kd.int .i64)) 43 w' w0.heap.size P0 (.slice (some ⟨g, 0, none⟩) xss.length c) (mkRows (xss.take (i + 1)) a ++ xss.drop (i + 1))) := ⟨by
        rw [← HRR.out]
        exact HSET.out w' _ (fun b hne hlt => HK2.out.2 b hlt (fun e => hne e)) (Kd.R_tight rfl HR2.out)⟩
      have HKN : Aside0 (Kept w w' P0) := ⟨HK.out.then_ HK2.out (fun k e => .inl (HRW.out.1 k e.symm).2.1)⟩
      go_roundg g1
      case measure => omega
      case rel => exact ⟨i + 1, by rw [up1 (by have := HI2.out; have := HX.out; omega)], by rw [HKK.out], ⟨HI2.out⟩, ⟨by have := HG.out; omega⟩, HSN, HB2, HKN⟩
    · have ei : i = xss.length := by have := HI.out; omega
      subst ei
      have q1 : ((xss.length : Int) < (xss.length : Int)) = False := eq_false (by omega)
      have HO : Aside0 (Kd.S (Kd.slice 3 (Kd.int .i64)) 43 wr w0.heap.size P0 (.slice A xss.length c) (mkRows xss a)) := ⟨by simpa using HO.out⟩
      rw [List.take_length]
      clear hi HI HG
      go_wp2
      go_ret
      exact ⟨rfl, HO.out, HB.out, HK.out⟩
set_option maxRecDepth 100000 in
set_option maxHeartbeats 4000000 in
theorem markDfaCalls (P0 P1 : Nat → Prop) (v0 v1 : Value) (xs : List Bool) (xss : List (List Int)) (a : Int) (w0 w : World) (hB : Below w0.heap.size w0 w) (h0 : Kd.R Kd.bool 4 w w0.heap.size P0 v0 xs) (h1 : Kd.S (Kd.slice 3 (Kd.int .i64)) 43 w w0.heap.size P1 v1 xss)
    (hl : xs.length ≤ 2000000) (hx : xss.length ≤ 2000000) (hs : small xss) (ha : 0 ≤ a ∧ a ≤ 10000000000000) :
    Calls Try.prog 14 #[.agg #[v0, v1], .int .i64 a] w fun e w' => e = .returned (.int .i64 (mkK xss (a + xs.length))) ∧ Kd.R Kd.bool 4 w' w0.heap.size P0 v0 (mkB a xs) ∧ Kd.S (Kd.slice 3 (Kd.int .i64)) 43 w' w0.heap.size P1 v1 (mkRows xss (a + xs.length)) ∧ Below w0.heap.size w0 w' ∧ Kept w w' (fun k => P0 k ∨ P1 k) := by
  have hu := Try.underlying28
  obtain ⟨A0, c0, e0⟩ := Kd.R_slice h0
  subst e0
  obtain ⟨A1, c1, e1⟩ := Kd.S_slice h1
  subst e1
  obtain ⟨kf, hkf⟩ := (markBools xs (by omega) a (by omega)).rounds
  have HKF := am_ hkf
  have HX := am_ hx
  have HS := am_ hs
  have HA : Aside0 (0 ≤ a + (xs.length : Int) ∧ a + (xs.length : Int) ≤ 20000000000000) := ⟨by omega⟩
  have HB := am_ (below_alloc hB (Obj.cells #[.slice A0 xs.length c0, .slice A1 xss.length c1] 28))
  have H0 := am_ (Kd.R_alloc h0 (Obj.cells #[.slice A0 xs.length c0, .slice A1 xss.length c1] 28))
  have H1 := am_ (Kd.S_alloc h1 (Obj.cells #[.slice A0 xs.length c0, .slice A1 xss.length c1] 28))
  have HK := am_ ((Kept.refl w (fun k => P0 k ∨ P1 k)).alloc (Obj.cells #[.slice A0 xs.length c0, .slice A1 xss.length c1] 28))
  have HBX : Aside0 ((w.alloc (Obj.cells #[.slice A0 xs.length c0, .slice A1 xss.length c1] 28)).heap[w.heap.size]? = some (.cells #[.slice A0 xs.length c0, .slice A1 xss.length c1] 28 (0, 0))) := ⟨blk_new w _⟩
  clear h0 h1 hkf hl hx hs ha hB
  go_enter Try.func14, Try.ntmps14
  go_wp2_with (first
    | ((with_reducible refine gate_callee (f := 15) rfl ?_); refine goesL_ (some 8) rfl rfl Try.func15 (by kernel_rfl) rfl #[.slice A0 xs.length c0, .int .i64 a] rfl (by (try simp only [List.map_toArray, List.map_cons, List.map_nil]); first | done | rfl) ?_; (with_reducible refine (laws_markBoolS.calls kf (fun k_ => some k_ = (Value.slice A0 xs.length c0).ownBlock) _ xs a _ _ w0 _ ?sideB ?sideO HKF.out).mono ?_); (case sideB => exact HB.out); (case sideO => exact Kd.R_tight rfl H0.out); rintro e w2 ⟨rfl, hr2, hb2, hk2⟩; have HR2 := am_ (Kd.R_tight rfl hr2); have HB2 := am_ hb2; have HK2 := am_ hk2; have HBX2 : Aside0 (w2.heap[w.heap.size]? = some (.cells #[.slice A0 xs.length c0, .slice A1 xss.length c1] 28 (0, 0))) := ⟨blk_kept HBX.out hk2 (Kd.R_ne H0.out HBX.out (by decide))⟩; have H12 := am_ (Kd.S_step (Kd.S_apart' H1.out (Kd.R_typed H0.out) (by decide)) (fun k hk hlt => hk2.2 k hlt hk.2)); have hcx : w2.cell? ⟨w.heap.size, 1, none⟩ = some (.slice A1 xss.length c1) := (blk_cell HBX2.out 1).trans rfl; clear hr2 hb2 hk2; refine ⟨_, rfl, ?_⟩)
    | ((with_reducible refine gate_callee (f := 38) rfl ?_); refine goesL_ (some 12) rfl rfl Try.func38 (by kernel_rfl) rfl #[.slice A1 xss.length c1, .int .i64 (a + xs.length)] rfl (by (try simp only [List.map_toArray, List.map_cons, List.map_nil]); first | done | rfl) ?_; (with_reducible refine (markRowsCalls (fun k_ => P1 k_ ∧ some k_ ≠ (Value.slice A0 xs.length c0).ownBlock) _ xss (a + xs.length) w0 _ ?sideB ?sideO HX.out HS.out HA.out).mono ?_); (case sideB => exact HB2.out); (case sideO => exact H12.out); rintro e w3 ⟨rfl, hr3, hb3, hk3⟩; have HR3 := am_ hr3; have HB3 := am_ hb3; have HK3 := am_ hk3; clear hr3 hb3 hk3; refine ⟨_, rfl, ?_⟩))
  go_ret
  refine ⟨rfl, ?_, Kd.S_mono HR3.out (fun _ hk => hk.1), HB3.out, ?_⟩
  · exact Kd.R_mono (Kd.R_step HR2.out (fun k hk hlt => HK3.out.2 k hlt (fun e => e.2 hk))) (fun k hk => H0.out.1 k hk.symm)
  · exact (HK.out.then_ HK2.out (fun k hk => .inl (.inl (H0.out.1 k hk.symm)))).then_ HK3.out (fun k hk => .inl (.inr hk.1))
end Go.Proofs.Ytpgdhpnmagmooaa.Wk
end
section
namespace Go.Proofs.Ytpgdhpnmagmooaa
open Go.RowKit Go.Shelf Go.Proofs.Ytpgdhpnmagmooaa.P Go.Proofs.Ytpgdhpnmagmooaa.Wk Go.Proofs.YtpgdhpnmagmooaaW.PrintWords Go.Proofs.YtpgdhpnmagmooaaW.PrintLast Go.Proofs.YtpgdhpnmagmooaaW.PrintMore
set_option linter.unusedVariables false
def dvP (b : Nat) (v0 v1 : Value) (xs : List Bool) (xss : List (List Int)) : Pc := ⟨fun w fp => Kd.R Kd.bool 4 w b (fun k => k ∈ fp) v0 xs ∧ Kd.S (Kd.slice 3 (Kd.int .i64)) 43 w b (fun k => k ∈ fp) v1 xss ∧ ∀ k ∈ fp, k < w.heap.size,
  fun ⟨h, g, hl⟩ hm => ⟨Kd.R_step h (fun k hk _ => hm k hk), Kd.S_step g (fun k hk _ => hm k hk), fun k hk => lt_same (hl k hk) (hm k hk)⟩, fun ⟨_, _, hl⟩ => hl⟩
section
variable {w0 w w1 : World} {ps : List Pc} {ok0 ok1 : Nat → Prop} {v0 v1 : Value} {xs : List Bool} {xss : List (List Int)} {b : Nat}
theorem Sl.newD (H : Sl w0 w ps) (hb : Below w.heap.size w w1) (h0 : Kd.R Kd.bool 4 w1 w.heap.size ok0 v0 xs) (h1 : Kd.S (Kd.slice 3 (Kd.int .i64)) 43 w1 w.heap.size ok1 v1 xss) : Sl w0 w1 (ps ++ [dvP w0.heap.size v0 v1 xs xss]) := by
  have hs := hb.size
  have hin : ∀ k, w.heap.size ≤ k → k < w1.heap.size → k ∈ List.range' w.heap.size (w1.heap.size - w.heap.size) := fun k h1 h2 => by
    rw [List.mem_range'_1]
    omega
  refine H.call ⟨hb, List.range' w.heap.size (w1.heap.size - w.heap.size) ++ [], ⟨_, [], rfl, ⟨Kd.R_lower (Kd.R_mono (Kd.R_bound h0) (fun k hk => hin k hk.2.1 hk.2.2.1)) H.bel.size, Kd.S_lower (Kd.S_mono (Kd.S_bound h1) (fun k hk => hin k hk.2.1 hk.2.2.1)) H.bel.size, fun k hk => ?_⟩, rfl⟩, ?_, fun k hk => ?_⟩
  · rw [List.mem_range'_1] at hk
    omega
  · rw [List.append_nil]; exact List.nodup_range'
  · rw [List.append_nil, List.mem_range'_1] at hk
    exact hk.1
theorem Sl.dv (H : Sl w0 w ps) (i : Nat) (hi : ps[i]? = some (dvP b v0 v1 xs xss) := by rfl) : ∃ A0 c0 A1 c1, v0 = .slice A0 xs.length c0 ∧ v1 = .slice A1 xss.length c1 ∧ xs.length ≤ c0 ∧ xss.length ≤ c1 := by
  obtain ⟨f, ⟨h, g, hl⟩, hn, hg⟩ := H.get i hi
  obtain ⟨A0, c0, e0, h0, _⟩ := Kd.R_reads h
  obtain ⟨A1, c1, e1, h1, _⟩ := Kd.S_reads g
  exact ⟨A0, c0, A1, c1, e0, e1, h0, h1⟩
theorem Sl.dv0 {A : Option Addr} {n c : Nat} (H : Sl w0 w ps) (i : Nat) (hi : ps[i]? = some (dvP b (.slice A n c) v1 xs xss) := by rfl) : Kd.C Kd.bool w A xs.length xs := by
  obtain ⟨f, ⟨h, g, hl⟩, hn, hg⟩ := H.get i hi
  exact (Kd.R_reads' h).2.2
theorem Sl.dv1 {A : Option Addr} {n c : Nat} (H : Sl w0 w ps) (i : Nat) (hi : ps[i]? = some (dvP b v0 (.slice A n c) xs xss) := by rfl) : Kd.C (Kd.slice 3 (Kd.int .i64)) w A xss.length xss := by
  obtain ⟨f, ⟨h, g, hl⟩, hn, hg⟩ := H.get i hi
  exact (Kd.S_reads' g).2.2
theorem Sl.markD (H : Sl w0 w ps) (i : Nat) (a : Int) (hi : ps[i]? = some (dvP w0.heap.size v0 v1 xs xss)) (hl : xs.length ≤ 2000000) (hx : xss.length ≤ 2000000) (hs : small xss) (ha : 0 ≤ a ∧ a ≤ 10000000000000) :
    Calls Try.prog 14 #[.agg #[v0, v1], .int .i64 a] w fun e w' => e = .returned (.int .i64 (mkK xss (a + xs.length))) ∧ Sl w0 w' (ps.set i (dvP w0.heap.size v0 v1 (mkB a xs) (mkRows xss (a + xs.length)))) := by
  obtain ⟨f, ⟨h, g, hlt⟩, hn, hg, hback⟩ := H.opn i hi
  refine (markDfaCalls _ _ v0 v1 xs xss a w0 w H.bel h g hl hx hs ha).mono ?_
  rintro e w' ⟨rfl, h0, h1, hB, hK⟩
  refine ⟨rfl, hback w' _ f hB ⟨h0, h1, fun k hk => Nat.lt_of_lt_of_le (hlt k hk) hK.1⟩ hn (fun k hk => Or.inl hk) (fun k hk hkf => hK.2 k hk (fun e => e.elim hkf hkf))⟩
theorem Sl.markB (H : Sl w0 w ps) (i : Nat) (a : Int) (hi : ps[i]? = some (rwP Kd.bool 4 v0 xs)) (hl : xs.length ≤ 4000000000000) (ha : 0 ≤ a ∧ a ≤ 10000000000000) :
    Calls Try.prog 15 #[v0, .int .i64 a] w fun e w' => e = .returned (.int .i64 (a + xs.length)) ∧ Sl w0 w' (ps.set i (rwP Kd.bool 4 v0 (mkB a xs))) := by
  obtain ⟨f, ⟨h, hlt⟩, hn, hg, hback⟩ := H.opn i hi
  obtain ⟨k, hk⟩ := (markBools xs hl a (by omega)).rounds
  refine (laws_markBoolS.calls k (fun k => k ∈ f) v0 xs a _ _ w0 w H.bel (Kd.R_raise (b := 0) (fun _ _ _ _ h => h) h (fun k hk => hg k (h.1 k hk))) hk).mono ?_
  rintro e w' ⟨rfl, h0, hB, hK⟩
  refine ⟨rfl, hback w' _ (f ++ List.range' w.heap.size (w'.heap.size - w.heap.size)) hB ⟨Kd.R_mono (Kd.R_bound (Kd.R_lower h0 (Nat.zero_le _))) (fun k hk => in_new hk.1 hk.2.2.1), new_lt hlt hK.1⟩ (List.nodup_append.2 ⟨hn, List.nodup_range', fun a ha b hb' e => ?_⟩) (fun k hk => ?_) hK.2⟩
  · rw [List.mem_range'_1] at hb'
    have := hlt a ha
    omega
  · rcases List.mem_append.1 hk with hk | hk
    · exact Or.inl hk
    · rw [List.mem_range'_1] at hk
      exact Or.inr hk.1
end
section
variable {P : Program} {ops : Array Oper} {rest : List Oper} {o : Oper} {a : Act} {Q : Exit → Act → World → Prop} {w0 W : World} {ps : List Pc}
theorem p2_ (H : Sl w0 W ps) (p : Tmp) (i : Nat) {g : Nat} {x y x' y' : Value} {t t' : TypeId} {q : Operand} (ho : o.op = .store t' (.tmp p) q)
    (h : ∀ w1, Sl w0 w1 (ps.set i (bx g #[x', y'] t)) → wpList P ops Q rest a w1) (hi : ps[i]? = some (bx g #[x, y] t) := by rfl)
    (hrun : (execOp a.eval o).run P W = .ok .skip ((W.setCell ⟨g, 0, none⟩ x').setCell ⟨g, 1, none⟩ y') := by first | (go_simp; done) | (go_simp; rfl)) (hgd : o.guard = none := by rfl) (hN : o.dst = none := by rfl) : wpList P ops Q (o :: rest) a W := by
  refine wpList_plain hgd fun K hK => ?_
  unfold Oper.wp
  rw [hrun]
  show K (a.put o.dst undef) _
  rw [hN]
  have hl := (List.getElem?_eq_some_iff.1 hi).1
  have h1 := H.put i hi 0 x'
  have h2 := h1.put i (by rw [List.getElem?_set_self hl]) 1 y'
  rw [List.set_set] at h2
  exact hK _ _ (h _ h2)
end
end Go.Proofs.Ytpgdhpnmagmooaa
end
