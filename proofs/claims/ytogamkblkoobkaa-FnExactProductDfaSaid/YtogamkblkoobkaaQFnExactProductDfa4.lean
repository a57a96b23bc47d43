/- Texts of the proof of FnExactProductDfa, put together. No condition. -/
import Derived.Test.YtogamkblkoobkaaQFnExactProductDfa2
import Derived.Shelf.Abstract
import Derived.Lib.Walk
import Derived.Test.YtogamkblkoobkaaQFnExactProductDfa3
import Derived.Deep.Slices
import Derived.Lib.SmallJoins
import Derived.DeepKeys4
import Derived.WideKeyPair
import Derived.Test.YtogamkblkoobkaaProg
section
namespace Go.Proofs.Ytogamkblkoobkaa.P
open Go.RowKit Go.Proofs.YtogamkblkoobkaaW.PrintWords Go.Proofs.YtogamkblkoobkaaW.PrintLast Go.Proofs.YtogamkblkoobkaaW.PrintMore
attribute [local go_sem] max2_int min2_int max_two min_two max_three min_three max_four min_four
set_option linter.unusedVariables false
set_option linter.unusedSimpArgs false
def laws_heldBoolS.l0 : Nat → List Bool → Int → Int → Option (Int)
  | 0, _, _, _ => none
  | k + 1, x0, x1, x5 => if x5 < (x0.length : Int) then (if 0 ≤ x5 then (if ((rdOf false x0 x5) != ((Int.tmod x1 3) == 0)) = true then (some (-1)) else (laws_heldBoolS.l0 k x0 (wrap64 (x1 + 1)) (wrap64 (x5 + 1)))) else (none)) else (some x1)
def laws_heldBoolS.f (k : Nat) (l0 : List Bool) (a1 : Int) : Option (Int) := laws_heldBoolS.l0 k l0 a1 0
theorem laws_heldBoolS.mono_l : ∀ k, (∀ y0 y1 y2, LeO (laws_heldBoolS.l0 k y0 y1 y2) (laws_heldBoolS.l0 (k + 1) y0 y1 y2))
  | 0 => fun _ _ _ r h => by simp [laws_heldBoolS.l0] at h
  | k + 1 => by
    have ih0 := laws_heldBoolS.mono_l k
    · intro y0 y1 y2
      unfold laws_heldBoolS.l0
      repeat' first
      | (with_reducible exact ih0 _ _ _)
      | (with_reducible exact LeO.refl _)
      | (with_reducible exact LeO.none _)
      | (with_reducible refine LeO.ite ?_ ?_)
      | (with_reducible refine LeO.bind ?_ (fun _ => ?_))
      | exact ih0 _ _ _
      | exact LeO.none _
      | refine LeO.ite ?_ ?_
      | refine LeO.bind ?_ (fun _ => ?_)
theorem laws_heldBoolS.mono : ∀ a0 a1 k, LeO (laws_heldBoolS.f k a0 a1) (laws_heldBoolS.f (k + 1) a0 a1) := by
  intro a0 a1 k
  have ih0 := laws_heldBoolS.mono_l k
  unfold laws_heldBoolS.f
  repeat' first
      | (with_reducible exact ih0 _ _ _)
      | (with_reducible exact LeO.refl _)
      | (with_reducible exact LeO.none _)
      | (with_reducible refine LeO.ite ?_ ?_)
      | (with_reducible refine LeO.bind ?_ (fun _ => ?_))
      | exact ih0 _ _ _
      | exact LeO.none _
      | refine LeO.ite ?_ ?_
      | refine LeO.bind ?_ (fun _ => ?_)
set_option maxHeartbeats 8000000 in
set_option maxRecDepth 100000 in
theorem laws_heldBoolS.calls (k : Nat) (A0 : Option Addr) (c0 : Nat) (l0 : List Bool) (a1 : Int) (r : Int) (w : World) (hr0 : Kd.C Kd.bool w A0 l0.length l0) (hc0 : l0.length ≤ c0) (h : laws_heldBoolS.f k l0 a1 = some r) :
    Calls Try.prog 61 #[.slice A0 l0.length c0, .int .i64 a1] w fun e w' => e = .returned (.int .i64 r) ∧ Drawn0 w w' := by
  have HR0 := Aside0.mk hr0
  have HC0 := Aside0.mk hc0
  clear hr0 hc0
  have H : (laws_heldBoolS.l0 k l0 a1 0) = some r := h
  clear h
  have H' := Aside0.mk H
  clear H
  go_enter Try.func61, Try.ntmps61
  go_wp2
  go_loopg [1, 5] k (fun kq v1 v5 w' => ∃ (x1_1 : Int) (x5_1 : Int), v1 = .int .i64 x1_1 ∧ v5 = .int .i64 x5_1 ∧ Aside0 (laws_heldBoolS.l0 kq l0 x1_1 x5_1 = some r) ∧ Aside0 (kq ≤ k) ∧ Drawn0 w w')
  case atStart => exact ⟨(a1), (0), (by first | rfl | (simp; done) | (simp [*]; done)), (by first | rfl | (simp; done) | (simp [*]; done)), H', ⟨Nat.le_refl _⟩, by repeat (first | exact Drawn0.refl _ | apply Drawn0.step)⟩
  case round =>
    clear H'
    try clear p2
    obtain ⟨x1_1, x5_1, rfl, rfl, HA, HK1, ⟨m1, rfl⟩⟩ := hrel
    cases gk with
    | zero => exact absurd HA.out (by simp [laws_heldBoolS.l0])
    | succ k1 =>
      have H := HA.out
      clear HA
      simp only [laws_heldBoolS.l0] at H
      by_cases c3 : x5_1 < (l0.length : Int)
      · rw [if_pos c3] at H
        have c3b0 : decide (x5_1 < (l0.length : Int)) = true := decide_eq_true c3
        clear c3
        by_cases c4 : 0 ≤ x5_1
        · rw [if_pos c4] at H
          have c4b0 : decide (0 ≤ x5_1) = true := decide_eq_true c4
          clear c4
          by_cases c5 : ((rdOf false l0 x5_1) != ((Int.tmod x1_1 3) == 0)) = true
          · rw [if_pos c5] at H
            have c5b0 : ((rdOf false l0 x5_1) != ((Int.tmod x1_1 3) == 0)) = true := c5
            (try (have c5b1 : decide ((rdOf false l0 x5_1) = ((Int.tmod x1_1 3) == 0)) = false := by simpa using c5))
            (try (have c5b2 : ((rdOf false l0 x5_1) == ((Int.tmod x1_1 3) == 0)) = false := by simpa using c5))
            (try (have c5b3 : ¬ ((rdOf false l0 x5_1) = ((Int.tmod x1_1 3) == 0)) := by simpa using c5))
            clear c5
            obtain rfl := Option.some.inj H
            simp only [Option.some.injEq, Prod.mk.injEq] at H
            obtain ⟨rfl⟩ := H
            have p257 : 0 ≤ (x5_1 : Int) := of_decide_eq_true (by first | (with_reducible assumption) | assumption)
            have q257 : x5_1 < (l0.length : Int) := of_decide_eq_true (by first | (with_reducible assumption) | assumption)
            obtain ⟨ad257, e257, hx257_0⟩ := Kd.at_bool HR0.out x5_1 p257 q257
            cases e257
            replace p257 := eq_true p257
            replace q257 := eq_true q257
            go_wp2
            go_ret
            exact ⟨by first | rfl | (simp; done) | (simp [*]; done), by repeat (first | exact Drawn0.refl _ | apply Drawn0.step)⟩
          · rw [if_neg c5] at H
            have c5b0 : ((rdOf false l0 x5_1) != ((Int.tmod x1_1 3) == 0)) = false := by simpa using c5
            (try (have c5b1 : decide ((rdOf false l0 x5_1) = ((Int.tmod x1_1 3) == 0)) = true := by simpa using c5))
            (try (have c5b2 : ((rdOf false l0 x5_1) == ((Int.tmod x1_1 3) == 0)) = true := by simpa using c5))
            clear c5
            have H' := Aside0.mk H
            clear H
            have p257 : 0 ≤ (x5_1 : Int) := of_decide_eq_true (by first | (with_reducible assumption) | assumption)
            have q257 : x5_1 < (l0.length : Int) := of_decide_eq_true (by first | (with_reducible assumption) | assumption)
            obtain ⟨ad257, e257, hx257_0⟩ := Kd.at_bool HR0.out x5_1 p257 q257
            cases e257
            replace p257 := eq_true p257
            replace q257 := eq_true q257
            go_wp2
            go_roundg k1
            case measure => have := HK1.out; omega
            case rel => exact ⟨(wrap64 (x1_1 + 1)), (wrap64 (x5_1 + 1)), (by first | rfl | (simp; done) | (simp [*]; done)), (by first | rfl | (simp; done) | (simp [*]; done)), H', ⟨by have := HK1.out; omega⟩, by repeat (first | exact Drawn0.refl _ | apply Drawn0.step)⟩
        · rw [if_neg c4] at H
          exact absurd H (by simp)
      · rw [if_neg c3] at H
        have c3b0 : decide (x5_1 < (l0.length : Int)) = false := decide_eq_false c3
        clear c3
        obtain rfl := Option.some.inj H
        simp only [Option.some.injEq, Prod.mk.injEq] at H
        obtain ⟨rfl⟩ := H
        go_wp2
        go_ret
        exact ⟨by first | rfl | (simp; done) | (simp [*]; done), by repeat (first | exact Drawn0.refl _ | apply Drawn0.step)⟩
def laws_heldIntS.l0 : Nat → List Int → Int → Int → Option (Int)
  | 0, _, _, _ => none
  | k + 1, x0, x1, x5 => if x5 < (x0.length : Int) then (if 0 ≤ x5 then (if (rd x0 x5) = x1 then (laws_heldIntS.l0 k x0 (wrap64 (x1 + 1)) (wrap64 (x5 + 1))) else (some (-1))) else (none)) else (some x1)
def laws_heldIntS.f (k : Nat) (l0 : List Int) (a1 : Int) : Option (Int) := laws_heldIntS.l0 k l0 a1 0
theorem laws_heldIntS.mono_l : ∀ k, (∀ y0 y1 y2, LeO (laws_heldIntS.l0 k y0 y1 y2) (laws_heldIntS.l0 (k + 1) y0 y1 y2))
  | 0 => fun _ _ _ r h => by simp [laws_heldIntS.l0] at h
  | k + 1 => by
    have ih0 := laws_heldIntS.mono_l k
    · intro y0 y1 y2
      unfold laws_heldIntS.l0
      repeat' first
      | (with_reducible exact ih0 _ _ _)
      | (with_reducible exact LeO.refl _)
      | (with_reducible exact LeO.none _)
      | (with_reducible refine LeO.ite ?_ ?_)
      | (with_reducible refine LeO.bind ?_ (fun _ => ?_))
      | exact ih0 _ _ _
      | exact LeO.none _
      | refine LeO.ite ?_ ?_
      | refine LeO.bind ?_ (fun _ => ?_)
theorem laws_heldIntS.mono : ∀ a0 a1 k, LeO (laws_heldIntS.f k a0 a1) (laws_heldIntS.f (k + 1) a0 a1) := by
  intro a0 a1 k
  have ih0 := laws_heldIntS.mono_l k
  unfold laws_heldIntS.f
  repeat' first
      | (with_reducible exact ih0 _ _ _)
      | (with_reducible exact LeO.refl _)
      | (with_reducible exact LeO.none _)
      | (with_reducible refine LeO.ite ?_ ?_)
      | (with_reducible refine LeO.bind ?_ (fun _ => ?_))
      | exact ih0 _ _ _
      | exact LeO.none _
      | refine LeO.ite ?_ ?_
      | refine LeO.bind ?_ (fun _ => ?_)
set_option maxHeartbeats 8000000 in
set_option maxRecDepth 100000 in
theorem laws_heldIntS.calls (k : Nat) (A0 : Option Addr) (c0 : Nat) (l0 : List Int) (a1 : Int) (r : Int) (w : World) (hr0 : Kd.C (Kd.int .i64) w A0 l0.length l0) (hc0 : l0.length ≤ c0) (h : laws_heldIntS.f k l0 a1 = some r) :
    Calls Try.prog 120 #[.slice A0 l0.length c0, .int .i64 a1] w fun e w' => e = .returned (.int .i64 r) ∧ Drawn0 w w' := by
  have HR0 := Aside0.mk hr0
  have HC0 := Aside0.mk hc0
  clear hr0 hc0
  have H : (laws_heldIntS.l0 k l0 a1 0) = some r := h
  clear h
  have H' := Aside0.mk H
  clear H
  go_enter Try.func120, Try.ntmps120
  go_wp2
  go_loopg [1, 5] k (fun kq v1 v5 w' => ∃ (x1_1 : Int) (x5_1 : Int), v1 = .int .i64 x1_1 ∧ v5 = .int .i64 x5_1 ∧ Aside0 (laws_heldIntS.l0 kq l0 x1_1 x5_1 = some r) ∧ Aside0 (kq ≤ k) ∧ Drawn0 w w')
  case atStart => exact ⟨(a1), (0), (by first | rfl | (simp; done) | (simp [*]; done)), (by first | rfl | (simp; done) | (simp [*]; done)), H', ⟨Nat.le_refl _⟩, by repeat (first | exact Drawn0.refl _ | apply Drawn0.step)⟩
  case round =>
    clear H'
    try clear c1
    try clear p2
    obtain ⟨x1_1, x5_1, rfl, rfl, HA, HK1, ⟨m1, rfl⟩⟩ := hrel
    cases gk with
    | zero => exact absurd HA.out (by simp [laws_heldIntS.l0])
    | succ k1 =>
      have H := HA.out
      clear HA
      simp only [laws_heldIntS.l0] at H
      by_cases c3 : x5_1 < (l0.length : Int)
      · rw [if_pos c3] at H
        have c3b0 : decide (x5_1 < (l0.length : Int)) = true := decide_eq_true c3
        clear c3
        by_cases c4 : 0 ≤ x5_1
        · rw [if_pos c4] at H
          have c4b0 : decide (0 ≤ x5_1) = true := decide_eq_true c4
          clear c4
          by_cases c5 : (rd l0 x5_1) = x1_1
          · rw [if_pos c5] at H
            have c5b0 : ((rd l0 x5_1) == x1_1) = true := beq_iff_eq.mpr c5
            have c5b1 : ((rd l0 x5_1) != x1_1) = false := bne_eq_false_iff_eq.mpr c5
            clear c5
            have H' := Aside0.mk H
            clear H
            have p258 : 0 ≤ (x5_1 : Int) := of_decide_eq_true (by first | (with_reducible assumption) | assumption)
            have q258 : x5_1 < (l0.length : Int) := of_decide_eq_true (by first | (with_reducible assumption) | assumption)
            obtain ⟨ad258, e258, hx258_0⟩ := Kd.at_int HR0.out x5_1 p258 q258
            cases e258
            replace p258 := eq_true p258
            replace q258 := eq_true q258
            go_wp2
            go_roundg k1
            case measure => have := HK1.out; omega
            case rel => exact ⟨(wrap64 (x1_1 + 1)), (wrap64 (x5_1 + 1)), (by first | rfl | (simp; done) | (simp [*]; done)), (by first | rfl | (simp; done) | (simp [*]; done)), H', ⟨by have := HK1.out; omega⟩, by repeat (first | exact Drawn0.refl _ | apply Drawn0.step)⟩
          · rw [if_neg c5] at H
            have c5b0 : ((rd l0 x5_1) == x1_1) = false := beq_eq_false_iff_ne.mpr c5
            have c5b1 : ((rd l0 x5_1) != x1_1) = true := bne_iff_ne.mpr c5
            obtain rfl := Option.some.inj H
            simp only [Option.some.injEq, Prod.mk.injEq] at H
            obtain ⟨rfl⟩ := H
            have p258 : 0 ≤ (x5_1 : Int) := of_decide_eq_true (by first | (with_reducible assumption) | assumption)
            have q258 : x5_1 < (l0.length : Int) := of_decide_eq_true (by first | (with_reducible assumption) | assumption)
            obtain ⟨ad258, e258, hx258_0⟩ := Kd.at_int HR0.out x5_1 p258 q258
            cases e258
            replace p258 := eq_true p258
            replace q258 := eq_true q258
            go_wp2
            go_ret
            exact ⟨by first | rfl | (simp; done) | (simp [*]; done), by repeat (first | exact Drawn0.refl _ | apply Drawn0.step)⟩
        · rw [if_neg c4] at H
          exact absurd H (by simp)
      · rw [if_neg c3] at H
        have c3b0 : decide (x5_1 < (l0.length : Int)) = false := decide_eq_false c3
        clear c3
        obtain rfl := Option.some.inj H
        simp only [Option.some.injEq, Prod.mk.injEq] at H
        obtain ⟨rfl⟩ := H
        go_wp2
        go_ret
        exact ⟨by first | rfl | (simp; done) | (simp [*]; done), by repeat (first | exact Drawn0.refl _ | apply Drawn0.step)⟩
def laws_heldIntSS.l0 : Nat → List (List Int) → Int → Int → Option (Int)
  | 0, _, _, _ => none
  | k + 1, x0, x1, x5 => if x5 < (x0.length : Int) then (if 0 ≤ x5 then ((laws_heldIntS.f k (rd_L1 x0 x5) x1).bind fun t260 => (if t260 < 0 then (some (-1)) else (laws_heldIntSS.l0 k x0 t260 (wrap64 (x5 + 1))))) else (none)) else (some x1)
def laws_heldIntSS.f (k : Nat) (l0 : List (List Int)) (a1 : Int) : Option (Int) := laws_heldIntSS.l0 k l0 a1 0
theorem laws_heldIntSS.mono_l : ∀ k, (∀ y0 y1 y2, LeO (laws_heldIntSS.l0 k y0 y1 y2) (laws_heldIntSS.l0 (k + 1) y0 y1 y2))
  | 0 => fun _ _ _ r h => by simp [laws_heldIntSS.l0] at h
  | k + 1 => by
    have ih0 := laws_heldIntSS.mono_l k
    · intro y0 y1 y2
      unfold laws_heldIntSS.l0
      repeat' first
      | (with_reducible exact ih0 _ _ _)
      | (with_reducible exact laws_heldIntS.mono _ _ _)
      | (with_reducible exact LeO.refl _)
      | (with_reducible exact LeO.none _)
      | (with_reducible refine LeO.ite ?_ ?_)
      | (with_reducible refine LeO.bind ?_ (fun _ => ?_))
      | exact ih0 _ _ _
      | exact laws_heldIntS.mono _ _ _
      | exact LeO.none _
      | refine LeO.ite ?_ ?_
      | refine LeO.bind ?_ (fun _ => ?_)
theorem laws_heldIntSS.mono : ∀ a0 a1 k, LeO (laws_heldIntSS.f k a0 a1) (laws_heldIntSS.f (k + 1) a0 a1) := by
  intro a0 a1 k
  have ih0 := laws_heldIntSS.mono_l k
  unfold laws_heldIntSS.f
  repeat' first
      | (with_reducible exact ih0 _ _ _)
      | (with_reducible exact laws_heldIntS.mono _ _ _)
      | (with_reducible exact LeO.refl _)
      | (with_reducible exact LeO.none _)
      | (with_reducible refine LeO.ite ?_ ?_)
      | (with_reducible refine LeO.bind ?_ (fun _ => ?_))
      | exact ih0 _ _ _
      | exact laws_heldIntS.mono _ _ _
      | exact LeO.none _
      | refine LeO.ite ?_ ?_
      | refine LeO.bind ?_ (fun _ => ?_)
set_option maxHeartbeats 8000000 in
set_option maxRecDepth 100000 in
theorem laws_heldIntSS.calls (k : Nat) (A0 : Option Addr) (c0 : Nat) (l0 : List (List Int)) (a1 : Int) (r : Int) (w : World) (hr0 : Kd.C (Kd.slice 3 (Kd.int .i64)) w A0 l0.length l0) (hc0 : l0.length ≤ c0) (h : laws_heldIntSS.f k l0 a1 = some r) :
    Calls Try.prog 62 #[.slice A0 l0.length c0, .int .i64 a1] w fun e w' => e = .returned (.int .i64 r) ∧ Drawn0 w w' := by
  have HR0 := Aside0.mk hr0
  have HC0 := Aside0.mk hc0
  clear hr0 hc0
  have H : (laws_heldIntSS.l0 k l0 a1 0) = some r := h
  clear h
  have H' := Aside0.mk H
  clear H
  go_enter Try.func62, Try.ntmps62
  go_wp2
  go_loopg [1, 5] k (fun kq v1 v5 w' => ∃ (x1_1 : Int) (x5_1 : Int), v1 = .int .i64 x1_1 ∧ v5 = .int .i64 x5_1 ∧ Aside0 (laws_heldIntSS.l0 kq l0 x1_1 x5_1 = some r) ∧ Aside0 (kq ≤ k) ∧ Drawn0 w w')
  case atStart => exact ⟨(a1), (0), (by first | rfl | (simp; done) | (simp [*]; done)), (by first | rfl | (simp; done) | (simp [*]; done)), H', ⟨Nat.le_refl _⟩, by repeat (first | exact Drawn0.refl _ | apply Drawn0.step)⟩
  case round =>
    clear H'
    try clear p2
    obtain ⟨x1_1, x5_1, rfl, rfl, HA, HK1, ⟨m1, rfl⟩⟩ := hrel
    cases gk with
    | zero => exact absurd HA.out (by simp [laws_heldIntSS.l0])
    | succ k1 =>
      have H := HA.out
      clear HA
      simp only [laws_heldIntSS.l0] at H
      by_cases c3 : x5_1 < (l0.length : Int)
      · rw [if_pos c3] at H
        have c3b0 : decide (x5_1 < (l0.length : Int)) = true := decide_eq_true c3
        clear c3
        by_cases c4 : 0 ≤ x5_1
        · rw [if_pos c4] at H
          have c4b0 : decide (0 ≤ x5_1) = true := decide_eq_true c4
          clear c4
          replace H := Option.bind_eq_some_iff.mp H
          obtain ⟨t260, A50, H⟩ := H
          replace H : (if t260 < 0 then (some (-1)) else (laws_heldIntSS.l0 k1 l0 t260 (wrap64 (x5_1 + 1)))) = some r := H
          have A5 := Aside0.mk A50
          clear A50
          by_cases c6 : t260 < 0
          · rw [if_pos c6] at H
            have c6b0 : decide (t260 < 0) = true := decide_eq_true c6
            clear c6
            obtain rfl := Option.some.inj H
            simp only [Option.some.injEq, Prod.mk.injEq] at H
            obtain ⟨rfl⟩ := H
            have p259 : 0 ≤ (x5_1 : Int) := of_decide_eq_true (by first | (with_reducible assumption) | assumption)
            have q259 : x5_1 < (l0.length : Int) := of_decide_eq_true (by first | (with_reducible assumption) | assumption)
            obtain ⟨ad259, A259_0, c259_0, e259, hx259_0, hl259_0, hi259_0⟩ := at_L1 HR0.out x5_1 p259 q259
            cases e259
            have HR259_0 := Aside0.mk hi259_0
            have HC259_0 := Aside0.mk hl259_0
            clear hi259_0 hl259_0
            replace p259 := eq_true p259
            replace q259 := eq_true q259
            go_wp2_with (first | ((with_reducible refine gate_callee (f := 120) rfl ?_); refine goesL_ (some 17) rfl rfl Try.func120 (by kernel_rfl) rfl #[.slice A259_0 (rd_L1 l0 x5_1).length c259_0, .int .i64 x1_1] rfl (by (try simp only [List.map_toArray, List.map_cons, List.map_nil]); first | done | rfl | (simp only [List.length_drop, List.length_take]; rfl)) ?_; (with_reducible refine (laws_heldIntS.calls k1 _ _ (rd_L1 l0 x5_1) x1_1 t260 _ ?side1 ?side2 A5.out).mono ?_); (case side1 => repeat (first | exact HR259_0.out | (with_reducible refine Kd.C_alloc ?_ _) | (with_reducible refine Kd.C_drewN ?_ _) | (with_reducible refine Kd.C_drew ?_))); (case side2 => exact HC259_0.out); rintro e w' ⟨rfl, ⟨nd, rfl⟩⟩; refine ⟨_, rfl, ?_⟩))
            go_ret
            exact ⟨by first | rfl | (simp; done) | (simp [*]; done), by repeat (first | exact Drawn0.refl _ | apply Drawn0.step)⟩
          · rw [if_neg c6] at H
            have c6b0 : decide (t260 < 0) = false := decide_eq_false c6
            clear c6
            have H' := Aside0.mk H
            clear H
            have p259 : 0 ≤ (x5_1 : Int) := of_decide_eq_true (by first | (with_reducible assumption) | assumption)
            have q259 : x5_1 < (l0.length : Int) := of_decide_eq_true (by first | (with_reducible assumption) | assumption)
            obtain ⟨ad259, A259_0, c259_0, e259, hx259_0, hl259_0, hi259_0⟩ := at_L1 HR0.out x5_1 p259 q259
            cases e259
            have HR259_0 := Aside0.mk hi259_0
            have HC259_0 := Aside0.mk hl259_0
            clear hi259_0 hl259_0
            replace p259 := eq_true p259
            replace q259 := eq_true q259
            go_wp2_with (first | ((with_reducible refine gate_callee (f := 120) rfl ?_); refine goesL_ (some 17) rfl rfl Try.func120 (by kernel_rfl) rfl #[.slice A259_0 (rd_L1 l0 x5_1).length c259_0, .int .i64 x1_1] rfl (by (try simp only [List.map_toArray, List.map_cons, List.map_nil]); first | done | rfl | (simp only [List.length_drop, List.length_take]; rfl)) ?_; (with_reducible refine (laws_heldIntS.calls k1 _ _ (rd_L1 l0 x5_1) x1_1 t260 _ ?side1 ?side2 A5.out).mono ?_); (case side1 => repeat (first | exact HR259_0.out | (with_reducible refine Kd.C_alloc ?_ _) | (with_reducible refine Kd.C_drewN ?_ _) | (with_reducible refine Kd.C_drew ?_))); (case side2 => exact HC259_0.out); rintro e w' ⟨rfl, ⟨nd, rfl⟩⟩; refine ⟨_, rfl, ?_⟩))
            go_roundg k1
            case measure => have := HK1.out; omega
            case rel => exact ⟨(t260), (wrap64 (x5_1 + 1)), (by first | rfl | (simp; done) | (simp [*]; done)), (by first | rfl | (simp; done) | (simp [*]; done)), H', ⟨by have := HK1.out; omega⟩, by repeat (first | exact Drawn0.refl _ | apply Drawn0.step)⟩
        · rw [if_neg c4] at H
          exact absurd H (by simp)
      · rw [if_neg c3] at H
        have c3b0 : decide (x5_1 < (l0.length : Int)) = false := decide_eq_false c3
        clear c3
        obtain rfl := Option.some.inj H
        simp only [Option.some.injEq, Prod.mk.injEq] at H
        obtain ⟨rfl⟩ := H
        go_wp2
        go_ret
        exact ⟨by first | rfl | (simp; done) | (simp [*]; done), by repeat (first | exact Drawn0.refl _ | apply Drawn0.step)⟩
def laws_heldDfa.f (k : Nat) (l0_0 : List Bool) (l0_1 : List (List Int)) (a1 : Int) : Option (Int) := (laws_heldBoolS.f k l0_0 a1).bind fun t262 => (if t262 < 0 then (some (-1)) else ((laws_heldIntSS.f k l0_1 t262).bind fun t263 => (if t263 < 0 then (some (-1)) else (some t263))))
theorem laws_heldDfa.mono : ∀ a0 a1 a2 k, LeO (laws_heldDfa.f k a0 a1 a2) (laws_heldDfa.f (k + 1) a0 a1 a2) := by
  intro a0 a1 a2 k
  unfold laws_heldDfa.f
  repeat' first
      | (with_reducible exact laws_heldBoolS.mono _ _ _)
      | (with_reducible exact laws_heldIntSS.mono _ _ _)
      | (with_reducible exact LeO.refl _)
      | (with_reducible exact LeO.none _)
      | (with_reducible refine LeO.ite ?_ ?_)
      | (with_reducible refine LeO.bind ?_ (fun _ => ?_))
      | exact laws_heldBoolS.mono _ _ _
      | exact laws_heldIntSS.mono _ _ _
      | exact LeO.none _
      | refine LeO.ite ?_ ?_
      | refine LeO.bind ?_ (fun _ => ?_)
set_option maxHeartbeats 8000000 in
set_option maxRecDepth 100000 in
theorem laws_heldDfa.calls (k : Nat) (A0_0 : Option Addr) (c0_0 : Nat) (l0_0 : List Bool) (A0_1 : Option Addr) (c0_1 : Nat) (l0_1 : List (List Int)) (a1 : Int) (r : Int) (w : World) (hr0_0 : Kd.C Kd.bool w A0_0 l0_0.length l0_0) (hc0_0 : l0_0.length ≤ c0_0) (hr0_1 : Kd.C (Kd.slice 3 (Kd.int .i64)) w A0_1 l0_1.length l0_1) (hc0_1 : l0_1.length ≤ c0_1) (h : laws_heldDfa.f k l0_0 l0_1 a1 = some r) :
    Calls Try.prog 18 #[.agg #[.slice A0_0 l0_0.length c0_0, .slice A0_1 l0_1.length c0_1], .int .i64 a1] w fun e w' => e = .returned (.int .i64 r) ∧ Below w.heap.size w w' := by
  have hu27 := Try.underlying27
  have HR0_0 := Aside0.mk hr0_0
  have HC0_0 := Aside0.mk hc0_0
  clear hr0_0 hc0_0
  have HR0_1 := Aside0.mk hr0_1
  have HC0_1 := Aside0.mk hc0_1
  clear hr0_1 hc0_1
  have HB := Aside0.mk (Below.refl w.heap.size w)
  have H : ((laws_heldBoolS.f k l0_0 a1).bind fun t262 => (if t262 < 0 then (some (-1)) else ((laws_heldIntSS.f k l0_1 t262).bind fun t263 => (if t263 < 0 then (some (-1)) else (some t263))))) = some r := h
  clear h
  replace H := Option.bind_eq_some_iff.mp H
  obtain ⟨t262, A30, H⟩ := H
  replace H : (if t262 < 0 then (some (-1)) else ((laws_heldIntSS.f k l0_1 t262).bind fun t263 => (if t263 < 0 then (some (-1)) else (some t263)))) = some r := H
  have A3 := Aside0.mk A30
  clear A30
  by_cases c4 : t262 < 0
  · rw [if_pos c4] at H
    have c4b0 : decide (t262 < 0) = true := decide_eq_true c4
    clear c4
    obtain rfl := Option.some.inj H
    simp only [Option.some.injEq, Prod.mk.injEq] at H
    obtain ⟨rfl⟩ := H
    go_enter Try.func18, Try.ntmps18
    go_wp2_with (first | ((with_reducible refine gate_dst (N := 2) rfl ?_); refine box_event ?hg (N := 2) ?hd (cs := #[.slice A0_0 l0_0.length c0_0, .slice A0_1 l0_1.length c0_1]) (t := 27) ?hr ?_; (case hd => rfl); (case hg => rfl); (case hr => first | (go_simp; done) | (go_simp; rfl)); intro gb261 hg w5 hbox hb; have n0_ := Aside0.mk (below_step (by repeat (first | (with_reducible first | exact HB.out | apply below_alloc | apply pw_below_drewN | apply below_drew1) | exact HB.out)) hb); have n1_ := Aside0.mk (hbox); have n2_ := Aside0.mk ((by rw [hg]; exact (below_size (by repeat (first | (with_reducible first | exact HB.out | apply below_alloc | apply pw_below_drewN | apply below_drew1) | exact HB.out))) : w.heap.size ≤ gb261)); have n3_ := Aside0.mk ((by rw [hg]; exact (below_size (by repeat (first | (with_reducible first | exact HB.out | apply below_alloc | apply pw_below_drewN | apply below_drew1) | exact HB.out))) : w.heap.size ≤ gb261)); clear HB; have HB := n0_; have BK261 := n1_; have GW261 := n2_; have GE261 := n3_; clear n0_ n1_ n2_ n3_; clear hb hbox hg; have hcz6_0 : w5.cell? ⟨gb261, 0, none⟩ = some (.slice A0_0 l0_0.length c0_0) := (blk_cell BK261.out 0).trans rfl; have hcz6_1 : w5.cell? ⟨gb261, 1, none⟩ = some (.slice A0_1 l0_1.length c0_1) := (blk_cell BK261.out 1).trans rfl; have hfz6_0 := blk_frozen BK261.out 0; have hfz6_1 := blk_frozen BK261.out 1) | ((with_reducible refine gate_callee (f := 61) rfl ?_); refine goesL_ (some 8) rfl rfl Try.func61 (by kernel_rfl) rfl #[.slice A0_0 l0_0.length c0_0, .int .i64 a1] rfl (by (try simp only [List.map_toArray, List.map_cons, List.map_nil]); first | done | rfl | (simp only [List.length_drop, List.length_take]; rfl)) ?_; (with_reducible refine (laws_heldBoolS.calls k _ _ l0_0 a1 t262 _ ?side1 ?side2 A3.out).mono ?_); (case side1 => repeat (first | exact (Kd.C_below HR0_0.out HB.out) | (with_reducible refine Kd.C_alloc ?_ _) | (with_reducible refine Kd.C_drewN ?_ _) | (with_reducible refine Kd.C_drew ?_))); (case side2 => exact HC0_0.out); rintro e w' ⟨rfl, ⟨nd, rfl⟩⟩; refine ⟨_, rfl, ?_⟩))
    go_ret
    exact ⟨by first | rfl | (simp [errW_none, errW_some] <;> rfl) | (simp [*, errW_none, errW_some] <;> rfl), by repeat (first | (with_reducible first | exact HB.out | apply below_alloc | apply pw_below_drewN | apply below_drew1 | refine below_set ?_ GE261.out) | exact HB.out)⟩
  · rw [if_neg c4] at H
    have c4b0 : decide (t262 < 0) = false := decide_eq_false c4
    clear c4
    replace H := Option.bind_eq_some_iff.mp H
    obtain ⟨t263, A70, H⟩ := H
    replace H : (if t263 < 0 then (some (-1)) else (some t263)) = some r := H
    have A7 := Aside0.mk A70
    clear A70
    by_cases c8 : t263 < 0
    · rw [if_pos c8] at H
      have c8b0 : decide (t263 < 0) = true := decide_eq_true c8
      clear c8
      obtain rfl := Option.some.inj H
      simp only [Option.some.injEq, Prod.mk.injEq] at H
      obtain ⟨rfl⟩ := H
      go_enter Try.func18, Try.ntmps18
      go_wp2_with (first | ((with_reducible refine gate_dst (N := 2) rfl ?_); refine box_event ?hg (N := 2) ?hd (cs := #[.slice A0_0 l0_0.length c0_0, .slice A0_1 l0_1.length c0_1]) (t := 27) ?hr ?_; (case hd => rfl); (case hg => rfl); (case hr => first | (go_simp; done) | (go_simp; rfl)); intro gb261 hg w9 hbox hb; have n0_ := Aside0.mk (below_step (by repeat (first | (with_reducible first | exact HB.out | apply below_alloc | apply pw_below_drewN | apply below_drew1) | exact HB.out)) hb); have n1_ := Aside0.mk (hbox); have n2_ := Aside0.mk ((by rw [hg]; exact (below_size (by repeat (first | (with_reducible first | exact HB.out | apply below_alloc | apply pw_below_drewN | apply below_drew1) | exact HB.out))) : w.heap.size ≤ gb261)); have n3_ := Aside0.mk ((by rw [hg]; exact (below_size (by repeat (first | (with_reducible first | exact HB.out | apply below_alloc | apply pw_below_drewN | apply below_drew1) | exact HB.out))) : w.heap.size ≤ gb261)); clear HB; have HB := n0_; have BK261 := n1_; have GW261 := n2_; have GE261 := n3_; clear n0_ n1_ n2_ n3_; clear hb hbox hg; have hcz10_0 : w9.cell? ⟨gb261, 0, none⟩ = some (.slice A0_0 l0_0.length c0_0) := (blk_cell BK261.out 0).trans rfl; have hcz10_1 : w9.cell? ⟨gb261, 1, none⟩ = some (.slice A0_1 l0_1.length c0_1) := (blk_cell BK261.out 1).trans rfl; have hfz10_0 := blk_frozen BK261.out 0; have hfz10_1 := blk_frozen BK261.out 1) | ((with_reducible refine gate_callee (f := 61) rfl ?_); refine goesL_ (some 8) rfl rfl Try.func61 (by kernel_rfl) rfl #[.slice A0_0 l0_0.length c0_0, .int .i64 a1] rfl (by (try simp only [List.map_toArray, List.map_cons, List.map_nil]); first | done | rfl | (simp only [List.length_drop, List.length_take]; rfl)) ?_; (with_reducible refine (laws_heldBoolS.calls k _ _ l0_0 a1 t262 _ ?side1 ?side2 A3.out).mono ?_); (case side1 => repeat (first | exact (Kd.C_below HR0_0.out HB.out) | (with_reducible refine Kd.C_alloc ?_ _) | (with_reducible refine Kd.C_drewN ?_ _) | (with_reducible refine Kd.C_drew ?_))); (case side2 => exact HC0_0.out); rintro e w' ⟨rfl, ⟨nd, rfl⟩⟩; refine ⟨_, rfl, ?_⟩) | ((with_reducible refine gate_callee (f := 62) rfl ?_); refine goesL_ (some 14) rfl rfl Try.func62 (by kernel_rfl) rfl #[.slice A0_1 l0_1.length c0_1, .int .i64 t262] rfl (by (try simp only [List.map_toArray, List.map_cons, List.map_nil]); first | done | rfl | (simp only [List.length_drop, List.length_take]; rfl)) ?_; (with_reducible refine (laws_heldIntSS.calls k _ _ l0_1 t262 t263 _ ?side1 ?side2 A7.out).mono ?_); (case side1 => repeat (first | exact (Kd.C_below HR0_1.out (by repeat (first | (with_reducible first | exact HB.out | apply below_alloc | apply pw_below_drewN | apply below_drew1 | refine below_set ?_ GE261.out) | exact HB.out))) | (with_reducible refine Kd.C_alloc ?_ _) | (with_reducible refine Kd.C_drewN ?_ _) | (with_reducible refine Kd.C_drew ?_))); (case side2 => exact HC0_1.out); rintro e w' ⟨rfl, ⟨nd, rfl⟩⟩; refine ⟨_, rfl, ?_⟩))
      go_ret
      exact ⟨by first | rfl | (simp [errW_none, errW_some] <;> rfl) | (simp [*, errW_none, errW_some] <;> rfl), by repeat (first | (with_reducible first | exact HB.out | apply below_alloc | apply pw_below_drewN | apply below_drew1 | refine below_set ?_ GE261.out) | exact HB.out)⟩
    · rw [if_neg c8] at H
      have c8b0 : decide (t263 < 0) = false := decide_eq_false c8
      clear c8
      obtain rfl := Option.some.inj H
      simp only [Option.some.injEq, Prod.mk.injEq] at H
      obtain ⟨rfl⟩ := H
      go_enter Try.func18, Try.ntmps18
      go_wp2_with (first | ((with_reducible refine gate_dst (N := 2) rfl ?_); refine box_event ?hg (N := 2) ?hd (cs := #[.slice A0_0 l0_0.length c0_0, .slice A0_1 l0_1.length c0_1]) (t := 27) ?hr ?_; (case hd => rfl); (case hg => rfl); (case hr => first | (go_simp; done) | (go_simp; rfl)); intro gb261 hg w11 hbox hb; have n0_ := Aside0.mk (below_step (by repeat (first | (with_reducible first | exact HB.out | apply below_alloc | apply pw_below_drewN | apply below_drew1) | exact HB.out)) hb); have n1_ := Aside0.mk (hbox); have n2_ := Aside0.mk ((by rw [hg]; exact (below_size (by repeat (first | (with_reducible first | exact HB.out | apply below_alloc | apply pw_below_drewN | apply below_drew1) | exact HB.out))) : w.heap.size ≤ gb261)); have n3_ := Aside0.mk ((by rw [hg]; exact (below_size (by repeat (first | (with_reducible first | exact HB.out | apply below_alloc | apply pw_below_drewN | apply below_drew1) | exact HB.out))) : w.heap.size ≤ gb261)); clear HB; have HB := n0_; have BK261 := n1_; have GW261 := n2_; have GE261 := n3_; clear n0_ n1_ n2_ n3_; clear hb hbox hg; have hcz12_0 : w11.cell? ⟨gb261, 0, none⟩ = some (.slice A0_0 l0_0.length c0_0) := (blk_cell BK261.out 0).trans rfl; have hcz12_1 : w11.cell? ⟨gb261, 1, none⟩ = some (.slice A0_1 l0_1.length c0_1) := (blk_cell BK261.out 1).trans rfl; have hfz12_0 := blk_frozen BK261.out 0; have hfz12_1 := blk_frozen BK261.out 1) | ((with_reducible refine gate_callee (f := 61) rfl ?_); refine goesL_ (some 8) rfl rfl Try.func61 (by kernel_rfl) rfl #[.slice A0_0 l0_0.length c0_0, .int .i64 a1] rfl (by (try simp only [List.map_toArray, List.map_cons, List.map_nil]); first | done | rfl | (simp only [List.length_drop, List.length_take]; rfl)) ?_; (with_reducible refine (laws_heldBoolS.calls k _ _ l0_0 a1 t262 _ ?side1 ?side2 A3.out).mono ?_); (case side1 => repeat (first | exact (Kd.C_below HR0_0.out HB.out) | (with_reducible refine Kd.C_alloc ?_ _) | (with_reducible refine Kd.C_drewN ?_ _) | (with_reducible refine Kd.C_drew ?_))); (case side2 => exact HC0_0.out); rintro e w' ⟨rfl, ⟨nd, rfl⟩⟩; refine ⟨_, rfl, ?_⟩) | ((with_reducible refine gate_callee (f := 62) rfl ?_); refine goesL_ (some 14) rfl rfl Try.func62 (by kernel_rfl) rfl #[.slice A0_1 l0_1.length c0_1, .int .i64 t262] rfl (by (try simp only [List.map_toArray, List.map_cons, List.map_nil]); first | done | rfl | (simp only [List.length_drop, List.length_take]; rfl)) ?_; (with_reducible refine (laws_heldIntSS.calls k _ _ l0_1 t262 t263 _ ?side1 ?side2 A7.out).mono ?_); (case side1 => repeat (first | exact (Kd.C_below HR0_1.out (by repeat (first | (with_reducible first | exact HB.out | apply below_alloc | apply pw_below_drewN | apply below_drew1 | refine below_set ?_ GE261.out) | exact HB.out))) | (with_reducible refine Kd.C_alloc ?_ _) | (with_reducible refine Kd.C_drewN ?_ _) | (with_reducible refine Kd.C_drew ?_))); (case side2 => exact HC0_1.out); rintro e w' ⟨rfl, ⟨nd, rfl⟩⟩; refine ⟨_, rfl, ?_⟩))
      go_ret
      exact ⟨by first | rfl | (simp [errW_none, errW_some] <;> rfl) | (simp [*, errW_none, errW_some] <;> rfl), by repeat (first | (with_reducible first | exact HB.out | apply below_alloc | apply pw_below_drewN | apply below_drew1 | refine below_set ?_ GE261.out) | exact HB.out)⟩
end Go.Proofs.Ytogamkblkoobkaa.P
end
section
namespace Go.Proofs.Ytogamkblkoobkaa.Wk
open Go.RowKit Go.Shelf Go.Proofs.Ytogamkblkoobkaa.P Go.Proofs.Ytogamkblkoobkaa.Pl Go.Proofs.Ytogamkblkoobkaa.Mp Go.Proofs.YtogamkblkoobkaaW.PrintWords Go.Proofs.YtogamkblkoobkaaW.PrintLast Go.Proofs.YtogamkblkoobkaaW.PrintMore
set_option linter.unusedVariables false
set_option linter.unusedSimpArgs false
theorem S_mark {e0 e : Nat} {w : World} {base g n cap : Nat} {ok : Nat → Prop} {xss : List (List Int)} (h : Kd.S (Kd.slice e0 (Kd.int .i64)) e w base ok (.slice (some ⟨g, 0, none⟩) n cap) xss) (j : Nat) (hj : j < xss.length) :
    ∃ u : Value, w.cell? ⟨g, j, none⟩ = some u ∧ Kd.R (Kd.int .i64) e0 w base (fun k => some k = u.ownBlock ∧ ok k ∧ k ≠ g) u xss[j] ∧
      ∀ (w' : World) (ys : List Int), (∀ b, some b ≠ u.ownBlock → b < w.heap.size → w'.heap[b]? = w.heap[b]?) → Kd.R (Kd.int .i64) e0 w' base (fun k => some k = u.ownBlock) u ys → Kd.S (Kd.slice e0 (Kd.int .i64)) e w' base ok (.slice (some ⟨g, 0, none⟩) n cap) (xss.set j ys) := by
  obtain ⟨f, h0, inner, ho, hr⟩ := h
  obtain ⟨u, hu, hR⟩ := hr.2 j _ (Kd.zip_at (List.getElem?_eq_getElem hj))
  have hsz : (Kd.tag f (Kd.slice e0 (Kd.int .i64))).sz = 1 := rfl
  rw [hsz, Nat.mul_one] at hu
  have hg : (Value.slice (some ⟨g, 0, none⟩) n cap).ownBlock = some g := by simp [Value.ownBlock]
  have hin : inner[j]? = some u := by
    have := congrArg (fun l => l[0]?) hu
    simpa [List.getElem?_take, List.getElem?_drop] using this
  refine ⟨u, ?_, Kd.R_mono (Kd.R_tight2 rfl hR) (fun k hk => ⟨hk.1, hk.2.1.1, fun e => hk.2.1.2 (by rw [e, hg])⟩), fun w' ys hb hR2 => ⟨f, h0, inner, ?_, ?_, ?_⟩⟩
  · have := ho.cells (g := g) hg j u hin
    rwa [add_plain] at this
  · rw [List.length_zipIdx, List.length_set]
    rw [List.length_zipIdx] at ho
    refine own_move ho (fun k hk => hb k (fun e => ?_) (own_lt ho k hk))
    exact (hR.1 k e.symm).1.2 hk.symm
  · have := hr.1
    rw [List.length_zipIdx] at this ⊢
    rw [List.length_set]
    exact this
  · intro i p hp
    rw [List.getElem?_zipIdx, Nat.zero_add] at hp
    obtain ⟨x, hx, rfl⟩ := Option.map_eq_some_iff.1 hp
    rw [List.getElem?_set] at hx
    by_cases e : j = i
    · subst e
      rw [if_pos rfl, if_pos hj] at hx
      injection hx with hx
      subst hx
      refine ⟨u, by rw [hsz, Nat.mul_one]; exact hu, Kd.R_mono hR2 (fun k hk => hR.1 k hk.symm)⟩
    · rw [if_neg e] at hx
      have := hr.2 i _ (Kd.zip_at hx)
      exact Kd.M_step (d := Kd.slice e0 (Kd.int .i64)) this (fun k hk hlt => hb k (fun e2 => e ((hR.1 k e2.symm).2.symm.trans hk.2)) hlt)
def mkRow (a : Int) (xs : List Int) : List Int := (List.range xs.length).map fun (i : Nat) => a + i
def mkK : List (List Int) → Int → Int
  | [], a => a
  | r :: t, a => mkK t (a + r.length)
def mkRows : List (List Int) → Int → List (List Int)
  | [], _ => []
  | r :: t, a => mkRow a r :: mkRows t (a + r.length)
theorem markInts_l0 (xs : List Int) (hl : xs.length ≤ 2000000) (a : Int) (ha : 0 ≤ a ∧ a ≤ 1000000000000000) : ∀ d i : Nat, i + d = xs.length → Ev (fun k => laws_markIntS.l0 k ((List.range i).map (fun (m : Nat) => a + m) ++ xs.drop i) (a + i) i) (a + xs.length, mkRow a xs) := by
  intro d
  induction d with
  | zero =>
    intro i hi
    refine next ?_
    rw [List.drop_eq_nil_of_le (by omega), List.append_nil]
    simp only [laws_markIntS.l0, List.length_map, List.length_range, if_neg (show ¬ (i : Int) < (i : Int) by omega)]
    exact ev_some (by unfold mkRow; rw [show xs.length = i by omega])
  | succ d ih =>
    intro i hi
    refine next ?_
    have hlen : (((List.range i).map (fun (m : Nat) => a + m) ++ xs.drop i).length : Int) = (xs.length : Int) := by simp; omega
    have hset : ((List.range i).map (fun (m : Nat) => a + m) ++ xs.drop i).set i (a + i) = (List.range (i + 1)).map (fun (m : Nat) => a + m) ++ xs.drop (i + 1) := by
      rw [List.drop_eq_getElem_cons (by omega), List.range_succ, List.map_append, List.map_singleton]
      rw [List.set_append_right _ _ (by simp)]
      simp only [List.length_map, List.length_range, Nat.sub_self, List.set_cons_zero, List.append_assoc, List.singleton_append]
    have IH := ih (i + 1) (by omega)
    simp only [laws_markIntS.l0, hlen, if_pos (show (i : Int) < (xs.length : Int) by omega), if_pos (show (0 : Int) ≤ (i : Int) by omega), Int.toNat_natCast, hset]
    rw [up1 (by omega), w64 (by omega) (by omega)]
    rw [show a + ((i + 1 : Nat) : Int) = a + i + 1 by omega] at IH
    exact IH
theorem markInts (xs : List Int) (hl : xs.length ≤ 2000000) (a : Int) (ha : 0 ≤ a ∧ a ≤ 1000000000000000) : Ev (fun k => laws_markIntS.f k xs a) (a + xs.length, mkRow a xs) := by
  have := markInts_l0 xs hl a ha xs.length 0 (by omega)
  refine this.congr fun k => ?_
  simp [laws_markIntS.f]
theorem mkK_snoc : ∀ (t : List (List Int)) (r : List Int) (a : Int), mkK (t ++ [r]) a = mkK t a + r.length
  | [], r, a => rfl
  | x :: t, r, a => mkK_snoc t r _
theorem mkRows_snoc : ∀ (t : List (List Int)) (r : List Int) (a : Int), mkRows (t ++ [r]) a = mkRows t a ++ [mkRow (mkK t a) r]
  | [], r, a => rfl
  | x :: t, r, a => by
    show mkRow a x :: mkRows (t ++ [r]) _ = _
    rw [mkRows_snoc t r]
    rfl
theorem mkRows_len : ∀ (t : List (List Int)) (a : Int), (mkRows t a).length = t.length
  | [], a => rfl
  | x :: t, a => congrArg (· + 1) (mkRows_len t _)
def small (xss : List (List Int)) : Prop := ∀ r ∈ xss, r.length ≤ 2000000
theorem mkK_bound : ∀ (t : List (List Int)) (a : Int), small t → a ≤ mkK t a ∧ mkK t a ≤ a + 2000000 * t.length
  | [], a, h => by simp [mkK]
  | x :: t, a, h => by
    have h1 := mkK_bound t (a + x.length) (fun r hr => h r (List.mem_cons_of_mem _ hr))
    have h2 := h x List.mem_cons_self
    show a ≤ mkK t (a + x.length) ∧ mkK t (a + x.length) ≤ _
    simp only [List.length_cons]
    omega
set_option maxRecDepth 100000 in
set_option maxHeartbeats 4000000 in
theorem markRowsCalls (P0 : Nat → Prop) (v : Value) (xss : List (List Int)) (a : Int) (w0 w : World) (hB : Below w0.heap.size w0 w) (ho : Kd.S (Kd.slice 3 (Kd.int .i64)) 67 w w0.heap.size P0 v xss)
    (hx : xss.length ≤ 2000000) (hs : small xss) (ha : 0 ≤ a ∧ a ≤ 20000000000000) :
    Calls Try.prog 60 #[v, .int .i64 a] w fun e w' => e = .returned (.int .i64 (mkK xss a)) ∧ Kd.S (Kd.slice 3 (Kd.int .i64)) 67 w' w0.heap.size P0 v (mkRows xss a) ∧ Below w0.heap.size w0 w' ∧ Kept w w' P0 := by
  obtain ⟨A, c, ev⟩ := Kd.S_slice ho
  subst ev
  have HX := Aside0.mk hx
  have HS := Aside0.mk hs
  have HA := Aside0.mk ha
  have HB := Aside0.mk hB
  have HO := Aside0.mk ho
  have HK := Aside0.mk (Kept.refl w P0)
  clear hx hs ha hB ho
  go_enter Try.func60, Try.ntmps60
  go_wp2
  go_loopg [1, 5] xss.length (fun gg v1 v5 wr => ∃ (i : Nat), v5 = .int .i64 (i : Int) ∧ v1 = .int .i64 (mkK (xss.take i) a) ∧ Aside0 (i ≤ xss.length) ∧ Aside0 (xss.length ≤ gg + i) ∧ Aside0 (Kd.S (Kd.slice 3 (Kd.int .i64)) 67 wr w0.heap.size P0 (.slice A xss.length c) (mkRows (xss.take i) a ++ xss.drop i)) ∧ Aside0 (Below w0.heap.size w0 wr) ∧ Aside0 (Kept w wr P0))
  case atStart => exact ⟨0, rfl, by simp [mkK], ⟨Nat.zero_le _⟩, ⟨by omega⟩, ⟨by simpa [mkRows] using HO.out⟩, HB, HK⟩
  case round =>
    clear HO HB HK
    obtain ⟨i, rfl, rfl, HI, HG, HO, HB, HK⟩ := hrel
    by_cases hi : i < xss.length
    · cases gk with
      | zero => exact absurd HG.out (by omega)
      | succ g1 =>
      have hlen : (mkRows (xss.take i) a ++ xss.drop i).length = xss.length := by rw [List.length_append, mkRows_len, List.length_take, List.length_drop]; omega
      obtain ⟨g, cap, e, _⟩ := Kd.S_form HO.out (by omega)
      injection e with e1 e2 e3
      subst e1
      subst e3
      obtain ⟨u, hu, hR, hset⟩ := S_mark HO.out i (by omega)
      have hat : (mkRows (xss.take i) a ++ xss.drop i)[i]'(by omega) = xss[i] := by
        rw [List.getElem_append_right (by rw [mkRows_len]; simp; omega)]
        simp only [mkRows_len, List.length_take, List.getElem_drop]
        congr 1
        omega
      rw [hat] at hR
      have hri := HS.out _ (List.getElem_mem hi)
      have hkb := mkK_bound (xss.take i) a (fun r hr => HS.out r (List.mem_of_mem_take hr))
      have hti : (xss.take i).length = i := by simp; omega
      rw [hti] at hkb
      have hkk : mkK (xss.take (i + 1)) a = mkK (xss.take i) a + xss[i].length := by rw [List.take_succ_eq_append_getElem hi, mkK_snoc]
      have hrr : (mkRows (xss.take i) a ++ xss.drop i).set i (mkRow (mkK (xss.take i) a) xss[i]) = mkRows (xss.take (i + 1)) a ++ xss.drop (i + 1) := by
        rw [List.take_succ_eq_append_getElem hi, mkRows_snoc, List.set_append_right _ _ (by rw [mkRows_len, hti]; exact Nat.le_refl _), mkRows_len, hti, Nat.sub_self, List.drop_eq_getElem_cons hi, List.set_cons_zero, List.append_assoc, List.singleton_append]
      obtain ⟨kf, hkf⟩ := (markInts xss[i] hri (mkK (xss.take i) a) (by have := HA.out; have := HX.out; omega)).rounds
      generalize xss[i] = row at hR hri hkk hrr hkf
      generalize hka : mkK (xss.take i) a = ka at hkk hrr hkf ⊢
      obtain ⟨Au, cu, eu⟩ := Kd.R_slice hR
      subst eu
      have HRW := Aside0.mk hR
      have HSET := Aside0.mk hset
      have HKF := Aside0.mk hkf
      have HKK := Aside0.mk hkk
      have HRR := Aside0.mk hrr
      have p1 : ((0 : Int) ≤ (i : Int)) = True := eq_true (by omega)
      have q1 : ((i : Int) < (xss.length : Int)) = True := eq_true (by omega)
      have HI2 := Aside0.mk hi
      clear hi hlen hat hri hkb hti hkk hrr hkf hR hset hka e2
      go_wp2_with ((with_reducible refine gate_callee (f := 119) rfl ?_); refine goesL_ (some 17) rfl rfl Try.func119 (by kernel_rfl) rfl #[.slice Au row.length cu, .int .i64 ka] rfl (by (try simp only [List.map_toArray, List.map_cons, List.map_nil]); first | done | rfl) ?_; (with_reducible refine (laws_markIntS.calls kf (fun k_ => some k_ = (Value.slice Au row.length cu).ownBlock) _ row ka _ _ w0 _ ?sideB ?sideO HKF.out).mono ?_); (case sideB => exact HB.out); (case sideO => exact Kd.R_mono HRW.out (fun _ h_ => h_.1)); rintro e w' ⟨rfl, hr2, hb2, hk2⟩; have HR2 := Aside0.mk hr2; have HB2 := Aside0.mk hb2; have HK2 := Aside0.mk hk2; clear hr2 hb2 hk2; refine ⟨_, rfl, ?_⟩)
      have HSN : Aside0 (Kd.S (Kd.slice 3 (Kd.int .i64)) 67 w' w0.heap.size P0 (.slice (some ⟨g, 0, none⟩) xss.length c) (mkRows (xss.take (i + 1)) a ++ xss.drop (i + 1))) := ⟨by
        rw [← HRR.out]
        exact HSET.out w' _ (fun b hne hlt => HK2.out.2 b hlt (fun e => hne e)) (Kd.R_tight rfl HR2.out)⟩
      have HKN : Aside0 (Kept w w' P0) := ⟨HK.out.then_ HK2.out (fun k e => .inl (HRW.out.1 k e.symm).2.1)⟩
      go_roundg g1
      case measure => omega
      case rel => exact ⟨i + 1, by rw [up1 (by have := HI2.out; have := HX.out; omega)], by rw [HKK.out], ⟨HI2.out⟩, ⟨by have := HG.out; omega⟩, HSN, HB2, HKN⟩
    · have ei : i = xss.length := by have := HI.out; omega
      subst ei
      have q1 : ((xss.length : Int) < (xss.length : Int)) = False := eq_false (by omega)
      have HO : Aside0 (Kd.S (Kd.slice 3 (Kd.int .i64)) 67 wr w0.heap.size P0 (.slice A xss.length c) (mkRows xss a)) := ⟨by simpa using HO.out⟩
      rw [List.take_length]
      clear hi HI HG
      go_wp2
      go_ret
      exact ⟨rfl, HO.out, HB.out, HK.out⟩
def mkB (a : Int) (xs : List Bool) : List Bool := (List.range xs.length).map fun (i : Nat) => (Int.tmod (a + i) 3) == 0
theorem markBools_l0 (xs : List Bool) (hl : xs.length ≤ 2000000) (a : Int) (ha : 0 ≤ a ∧ a ≤ 1000000000000000) : ∀ d i : Nat, i + d = xs.length → Ev (fun k => laws_markBoolS.l0 k ((List.range i).map (fun (m : Nat) => (Int.tmod (a + m) 3) == 0) ++ xs.drop i) (a + i) i) (a + xs.length, mkB a xs) := by
  intro d
  induction d with
  | zero =>
    intro i hi
    refine next ?_
    rw [List.drop_eq_nil_of_le (by omega), List.append_nil]
    simp only [laws_markBoolS.l0, List.length_map, List.length_range, if_neg (show ¬ (i : Int) < (i : Int) by omega)]
    exact ev_some (by unfold mkB; rw [show xs.length = i by omega])
  | succ d ih =>
    intro i hi
    refine next ?_
    have hlen : (((List.range i).map (fun (m : Nat) => (Int.tmod (a + m) 3) == 0) ++ xs.drop i).length : Int) = (xs.length : Int) := by simp; omega
    have hset : ((List.range i).map (fun (m : Nat) => (Int.tmod (a + m) 3) == 0) ++ xs.drop i).set i ((Int.tmod (a + i) 3) == 0) = (List.range (i + 1)).map (fun (m : Nat) => (Int.tmod (a + m) 3) == 0) ++ xs.drop (i + 1) := by
      rw [List.drop_eq_getElem_cons (by omega), List.range_succ, List.map_append, List.map_singleton]
      rw [List.set_append_right _ _ (by simp)]
      simp only [List.length_map, List.length_range, Nat.sub_self, List.set_cons_zero, List.append_assoc, List.singleton_append]
    have IH := ih (i + 1) (by omega)
    simp only [laws_markBoolS.l0, hlen, if_pos (show (i : Int) < (xs.length : Int) by omega), if_pos (show (0 : Int) ≤ (i : Int) by omega), Int.toNat_natCast, hset]
    rw [up1 (by omega), w64 (by omega) (by omega)]
    rw [show a + ((i + 1 : Nat) : Int) = a + i + 1 by omega] at IH
    exact IH
theorem markBools (xs : List Bool) (hl : xs.length ≤ 2000000) (a : Int) (ha : 0 ≤ a ∧ a ≤ 1000000000000000) : Ev (fun k => laws_markBoolS.f k xs a) (a + xs.length, mkB a xs) := by
  have := markBools_l0 xs hl a ha xs.length 0 (by omega)
  refine this.congr fun k => ?_
  simp [laws_markBoolS.f]
theorem heldBools_l0 (n : Nat) (xs : List Bool) (hx : xs.length = n) (hl : n ≤ 2000000) (a : Int) (ha : 0 ≤ a ∧ a ≤ 1000000000000000) : ∀ d i : Nat, i + d = n → Ev (fun k => laws_heldBoolS.l0 k (mkB a xs) (a + i) i) (a + n) := by
  have hlen : (mkB a xs).length = n := by simp [mkB, hx]
  intro d
  induction d with
  | zero =>
    intro i hi
    refine next ?_
    simp only [laws_heldBoolS.l0, hlen, if_neg (show ¬ (i : Int) < (n : Int) by omega)]
    exact ev_some (by rw [show i = n by omega])
  | succ d ih =>
    intro i hi
    refine next ?_
    have IH := ih (i + 1) (by omega)
    have hat : rdOf false (mkB a xs) (i : Int) = ((Int.tmod (a + i) 3) == 0) := by
      rw [rdOf_get false _ i (by omega)]
      simp [mkB]
    simp only [laws_heldBoolS.l0, hlen, if_pos (show (i : Int) < (n : Int) by omega), if_pos (show (0 : Int) ≤ (i : Int) by omega), hat, bne_self_eq_false, if_neg (show ¬ false = true by decide)]
    rw [up1 (by omega), w64 (by omega) (by omega)]
    rw [show a + ((i + 1 : Nat) : Int) = a + i + 1 by omega] at IH
    exact IH
theorem heldBools (xs : List Bool) (hl : xs.length ≤ 2000000) (a : Int) (ha : 0 ≤ a ∧ a ≤ 1000000000000000) : Ev (fun k => laws_heldBoolS.f k (mkB a xs) a) (a + xs.length) := by
  have := heldBools_l0 xs.length xs rfl hl a ha xs.length 0 (by omega)
  refine this.congr fun k => ?_
  simp [laws_heldBoolS.f]
theorem heldInts_l0 (n : Nat) (xs : List Int) (hx : xs.length = n) (hl : n ≤ 2000000) (a : Int) (ha : 0 ≤ a ∧ a ≤ 1000000000000000) : ∀ d i : Nat, i + d = n → Ev (fun k => laws_heldIntS.l0 k (mkRow a xs) (a + i) i) (a + n) := by
  have hlen : (mkRow a xs).length = n := by simp [mkRow, hx]
  intro d
  induction d with
  | zero =>
    intro i hi
    refine next ?_
    simp only [laws_heldIntS.l0, hlen, if_neg (show ¬ (i : Int) < (n : Int) by omega)]
    exact ev_some (by rw [show i = n by omega])
  | succ d ih =>
    intro i hi
    refine next ?_
    have IH := ih (i + 1) (by omega)
    have hat : rd (mkRow a xs) (i : Int) = a + i := by
      rw [rd_get _ i (by omega)]
      simp [mkRow]
    simp only [laws_heldIntS.l0, hlen, if_pos (show (i : Int) < (n : Int) by omega), if_pos (show (0 : Int) ≤ (i : Int) by omega), hat, if_true]
    rw [up1 (by omega), w64 (by omega) (by omega)]
    rw [show a + ((i + 1 : Nat) : Int) = a + i + 1 by omega] at IH
    exact IH
theorem heldInts (xs : List Int) (hl : xs.length ≤ 2000000) (a : Int) (ha : 0 ≤ a ∧ a ≤ 1000000000000000) : Ev (fun k => laws_heldIntS.f k (mkRow a xs) a) (a + xs.length) := by
  have := heldInts_l0 xs.length xs rfl hl a ha xs.length 0 (by omega)
  refine this.congr fun k => ?_
  simp [laws_heldIntS.f]
theorem mkRows_get : ∀ (t : List (List Int)) (a : Int) (i : Nat) (hi : i < t.length), (mkRows t a)[i]'(by rw [mkRows_len]; exact hi) = mkRow (mkK (t.take i) a) t[i]
  | x :: t, a, 0, _ => rfl
  | x :: t, a, i + 1, hi => mkRows_get t _ i (by simpa using hi)
theorem heldRows (xss : List (List Int)) (hx : xss.length ≤ 2000000) (hs : small xss) (a : Int) (ha : 0 ≤ a ∧ a ≤ 20000000000000) : Ev (fun k => laws_heldIntSS.f k (mkRows xss a) a) (mkK xss a) := by
  have hlen : (mkRows xss a).length = xss.length := mkRows_len xss a
  have H : ∀ d i : Nat, i + d = xss.length → Ev (fun k => laws_heldIntSS.l0 k (mkRows xss a) (mkK (xss.take i) a) i) (mkK xss a) := by
    intro d
    induction d with
    | zero =>
      intro i hi
      refine next ?_
      simp only [laws_heldIntSS.l0, hlen, if_neg (show ¬ (i : Int) < (xss.length : Int) by omega)]
      exact ev_some (by rw [List.take_of_length_le (by omega)])
    | succ d ih =>
      intro i hi
      have hii : i < xss.length := by omega
      refine next ?_
      have IH := ih (i + 1) (by omega)
      rw [List.take_succ_eq_append_getElem hii, mkK_snoc] at IH
      have hkb := mkK_bound (xss.take i) a (fun r hr => hs r (List.mem_of_mem_take hr))
      have hti : (xss.take i).length = i := by simp; omega
      rw [hti] at hkb
      have hat : rd_L1 (mkRows xss a) (i : Int) = mkRow (mkK (xss.take i) a) xss[i] := by
        show (mkRows xss a).getD (i : Int).toNat [] = _
        rw [Int.toNat_natCast, List.getD_eq_getElem?_getD, List.getElem?_eq_getElem (by omega), Option.getD_some, mkRows_get xss a i hii]
      simp only [laws_heldIntSS.l0, hlen, if_pos (show (i : Int) < (xss.length : Int) by omega), if_pos (show (0 : Int) ≤ (i : Int) by omega), hat]
      refine (heldInts xss[i] (hs _ (List.getElem_mem hii)) _ (by omega)).bind ?_
      simp only [if_neg (show ¬ mkK (xss.take i) a + (xss[i].length : Int) < 0 by omega)]
      rw [up1 (by omega)]
      exact IH
  have := H xss.length 0 (by omega)
  refine this.congr fun k => ?_
  simp [laws_heldIntSS.f, mkK]
theorem heldMarked (xs : List Bool) (xss : List (List Int)) (hl : xs.length ≤ 2000000) (hx : xss.length ≤ 2000000) (hs : small xss) (a : Int) (ha : 0 ≤ a ∧ a ≤ 10000000000000) : Ev (fun k => laws_heldDfa.f k (mkB a xs) (mkRows xss (a + xs.length)) a) (mkK xss (a + xs.length)) := by
  have hkb := mkK_bound xss (a + xs.length) hs
  refine (heldBools xs (by omega) a (by omega)).bind ?_
  simp only [if_neg (show ¬ a + (xs.length : Int) < 0 by omega)]
  refine (heldRows xss hx hs _ (by omega)).bind ?_
  simp only [if_neg (show ¬ mkK xss (a + (xs.length : Int)) < 0 by omega)]
  exact ev_some rfl
set_option maxRecDepth 100000 in
set_option maxHeartbeats 4000000 in
theorem markDfaCalls (P0 P1 : Nat → Prop) (v0 v1 : Value) (xs : List Bool) (xss : List (List Int)) (a : Int) (w0 w : World) (hB : Below w0.heap.size w0 w) (h0 : Kd.R Kd.bool 4 w w0.heap.size P0 v0 xs) (h1 : Kd.S (Kd.slice 3 (Kd.int .i64)) 67 w w0.heap.size P1 v1 xss)
    (hl : xs.length ≤ 2000000) (hx : xss.length ≤ 2000000) (hs : small xss) (ha : 0 ≤ a ∧ a ≤ 10000000000000) :
    Calls Try.prog 17 #[.agg #[v0, v1], .int .i64 a] w fun e w' => e = .returned (.int .i64 (mkK xss (a + xs.length))) ∧ Kd.R Kd.bool 4 w' w0.heap.size P0 v0 (mkB a xs) ∧ Kd.S (Kd.slice 3 (Kd.int .i64)) 67 w' w0.heap.size P1 v1 (mkRows xss (a + xs.length)) ∧ Below w0.heap.size w0 w' ∧ Kept w w' (fun k => P0 k ∨ P1 k) := by
  have hu := Try.underlying27
  obtain ⟨A0, c0, e0⟩ := Kd.R_slice h0
  subst e0
  obtain ⟨A1, c1, e1⟩ := Kd.S_slice h1
  subst e1
  obtain ⟨kf, hkf⟩ := (markBools xs (by omega) a (by omega)).rounds
  have HKF := Aside0.mk hkf
  have HX := Aside0.mk hx
  have HS := Aside0.mk hs
  have HA : Aside0 (0 ≤ a + (xs.length : Int) ∧ a + (xs.length : Int) ≤ 20000000000000) := ⟨by omega⟩
  have HB := Aside0.mk (below_alloc hB (Obj.cells #[.slice A0 xs.length c0, .slice A1 xss.length c1] 27))
  have H0 := Aside0.mk (Kd.R_alloc h0 (Obj.cells #[.slice A0 xs.length c0, .slice A1 xss.length c1] 27))
  have H1 := Aside0.mk (Kd.S_alloc h1 (Obj.cells #[.slice A0 xs.length c0, .slice A1 xss.length c1] 27))
  have HK := Aside0.mk ((Kept.refl w (fun k => P0 k ∨ P1 k)).alloc (Obj.cells #[.slice A0 xs.length c0, .slice A1 xss.length c1] 27))
  have HBX : Aside0 ((w.alloc (Obj.cells #[.slice A0 xs.length c0, .slice A1 xss.length c1] 27)).heap[w.heap.size]? = some (.cells #[.slice A0 xs.length c0, .slice A1 xss.length c1] 27 (0, 0))) := ⟨blk_new w _⟩
  clear h0 h1 hkf hl hx hs ha hB
  go_enter Try.func17, Try.ntmps17
  go_wp2_with (first
    | ((with_reducible refine gate_callee (f := 59) rfl ?_); refine goesL_ (some 8) rfl rfl Try.func59 (by kernel_rfl) rfl #[.slice A0 xs.length c0, .int .i64 a] rfl (by (try simp only [List.map_toArray, List.map_cons, List.map_nil]); first | done | rfl) ?_; (with_reducible refine (laws_markBoolS.calls kf (fun k_ => some k_ = (Value.slice A0 xs.length c0).ownBlock) _ xs a _ _ w0 _ ?sideB ?sideO HKF.out).mono ?_); (case sideB => exact HB.out); (case sideO => exact Kd.R_tight rfl H0.out); rintro e w2 ⟨rfl, hr2, hb2, hk2⟩; have HR2 := Aside0.mk (Kd.R_tight rfl hr2); have HB2 := Aside0.mk hb2; have HK2 := Aside0.mk hk2; have HBX2 : Aside0 (w2.heap[w.heap.size]? = some (.cells #[.slice A0 xs.length c0, .slice A1 xss.length c1] 27 (0, 0))) := ⟨blk_kept HBX.out hk2 (Kd.R_ne H0.out HBX.out (by decide))⟩; have H12 := Aside0.mk (Kd.S_step (Kd.S_apart' H1.out (Kd.R_typed H0.out) (by decide)) (fun k hk hlt => hk2.2 k hlt hk.2)); have hcx : w2.cell? ⟨w.heap.size, 1, none⟩ = some (.slice A1 xss.length c1) := (blk_cell HBX2.out 1).trans rfl; clear hr2 hb2 hk2; refine ⟨_, rfl, ?_⟩)
    | ((with_reducible refine gate_callee (f := 60) rfl ?_); refine goesL_ (some 12) rfl rfl Try.func60 (by kernel_rfl) rfl #[.slice A1 xss.length c1, .int .i64 (a + xs.length)] rfl (by (try simp only [List.map_toArray, List.map_cons, List.map_nil]); first | done | rfl) ?_; (with_reducible refine (markRowsCalls (fun k_ => P1 k_ ∧ some k_ ≠ (Value.slice A0 xs.length c0).ownBlock) _ xss (a + xs.length) w0 _ ?sideB ?sideO HX.out HS.out HA.out).mono ?_); (case sideB => exact HB2.out); (case sideO => exact H12.out); rintro e w3 ⟨rfl, hr3, hb3, hk3⟩; have HR3 := Aside0.mk hr3; have HB3 := Aside0.mk hb3; have HK3 := Aside0.mk hk3; clear hr3 hb3 hk3; refine ⟨_, rfl, ?_⟩))
  go_ret
  refine ⟨rfl, ?_, Kd.S_mono HR3.out (fun _ hk => hk.1), HB3.out, ?_⟩
  · exact Kd.R_mono (Kd.R_step HR2.out (fun k hk hlt => HK3.out.2 k hlt (fun e => e.2 hk))) (fun k hk => H0.out.1 k hk.symm)
  · exact (HK.out.then_ HK2.out (fun k hk => .inl (.inl (H0.out.1 k hk.symm)))).then_ HK3.out (fun k hk => .inl (.inr hk.1))
end Go.Proofs.Ytogamkblkoobkaa.Wk
end
section
namespace Go.Proofs.Ytogamkblkoobkaa.Wk
open Go.RowKit Go.Shelf Go.Proofs.Ytogamkblkoobkaa.P Go.Proofs.Ytogamkblkoobkaa.Pl Go.Proofs.Ytogamkblkoobkaa.Mp Go.Proofs.YtogamkblkoobkaaW.PrintWords Go.Proofs.YtogamkblkoobkaaW.PrintLast Go.Proofs.YtogamkblkoobkaaW.PrintMore
set_option linter.unusedVariables false
set_option linter.unusedSimpArgs false
structure Dv (base : Nat) (w : World) (lo hi : Nat) (v0 v1 : Value) (xs : List Bool) (xss : List (List Int)) : Prop where
  r0 : Kd.R Kd.bool 4 w base (fun k => lo ≤ k ∧ k < hi) v0 xs
  r1 : Kd.S (Kd.slice 3 (Kd.int .i64)) 67 w base (fun k => lo ≤ k ∧ k < hi) v1 xss
section
variable {base : Nat} {w w' : World} {lo hi : Nat} {v0 v1 : Value} {xs : List Bool} {xss : List (List Int)}
theorem Dv.fresh (hb : base ≤ w.heap.size) (h0 : Kd.R Kd.bool 4 w' w.heap.size (fun _ => True) v0 xs) (h1 : Kd.S (Kd.slice 3 (Kd.int .i64)) 67 w' w.heap.size (fun _ => True) v1 xss) : Dv base w' w.heap.size w'.heap.size v0 v1 xs xss :=
  ⟨Kd.R_lower (Kd.R_mono (Kd.R_bound h0) (fun k hk => ⟨hk.2.1, hk.2.2.1⟩)) hb, Kd.S_lower (Kd.S_mono (Kd.S_bound h1) (fun k hk => ⟨hk.2.1, hk.2.2.1⟩)) hb⟩
theorem Dv.below (h : Dv base w lo hi v0 v1 xs xss) (hb : Below w.heap.size w w') : Dv base w' lo hi v0 v1 xs xss := ⟨Kd.R_below h.r0 hb, Kd.S_below h.r1 hb⟩
theorem Dv.kept (h : Dv base w lo hi v0 v1 xs xss) {S : Nat → Prop} (hk : Kept w w' S) (hd : ∀ k, lo ≤ k → k < hi → ¬ S k) : Dv base w' lo hi v0 v1 xs xss :=
  ⟨Kd.R_step h.r0 (fun k hk2 hlt => hk.2 k hlt (hd k hk2.1 hk2.2)), Kd.S_step h.r1 (fun k hk2 hlt => hk.2 k hlt (hd k hk2.1 hk2.2))⟩
theorem Dv.slices (h : Dv base w lo hi v0 v1 xs xss) : ∃ A0 c0 A1 c1, v0 = .slice A0 xs.length c0 ∧ v1 = .slice A1 xss.length c1 ∧ xs.length ≤ c0 ∧ xss.length ≤ c1 := by
  obtain ⟨A0, c0, e0, h0, _⟩ := Kd.R_reads h.r0
  obtain ⟨A1, c1, e1, h1, _⟩ := Kd.S_reads h.r1
  exact ⟨A0, c0, A1, c1, e0, e1, h0, h1⟩
theorem Dv.c0 {A : Option Addr} {n c : Nat} (h : Dv base w lo hi (.slice A n c) v1 xs xss) : Kd.C Kd.bool w A xs.length xs := (Kd.R_reads' h.r0).2.2
theorem Dv.c1 {A : Option Addr} {n c : Nat} (h : Dv base w lo hi v0 (.slice A n c) xs xss) : Kd.C (Kd.slice 3 (Kd.int .i64)) w A xss.length xss := (Kd.S_reads' h.r1).2.2
theorem Dv.box (h : Dv base w lo hi v0 v1 xs xss) {g : Nat} {cells : Array Value} (hb : w.heap[g]? = some (.cells cells 27 (0, 0))) (j : Nat) (u : Value) : Dv base (w.setCell ⟨g, j, none⟩ u) lo hi v0 v1 xs xss :=
  ⟨Kd.R_set h.r0 hb (by decide) j u, Kd.S_set h.r1 hb (by decide) j u⟩
end
theorem markDv {w0 w : World} {lo hi : Nat} {v0 v1 : Value} {xs : List Bool} {xss : List (List Int)} (a : Int) (hB : Below w0.heap.size w0 w) (h : Dv w0.heap.size w lo hi v0 v1 xs xss)
    (hl : xs.length ≤ 2000000) (hx : xss.length ≤ 2000000) (hs : small xss) (ha : 0 ≤ a ∧ a ≤ 10000000000000) :
    Calls Try.prog 17 #[.agg #[v0, v1], .int .i64 a] w fun e w' => e = .returned (.int .i64 (mkK xss (a + xs.length))) ∧ Dv w0.heap.size w' lo hi v0 v1 (mkB a xs) (mkRows xss (a + xs.length)) ∧ Below w0.heap.size w0 w' ∧ Kept w w' (fun k => lo ≤ k ∧ k < hi) :=
  (markDfaCalls _ _ v0 v1 xs xss a w0 w hB h.r0 h.r1 hl hx hs ha).mono fun e w' hh => by
    obtain ⟨h1, h2, h3, h4, h5⟩ := hh
    exact ⟨h1, ⟨h2, h3⟩, h4, h5.mono (fun k hk => hk.elim id id)⟩
theorem heldDv {base : Nat} {w : World} {lo hi : Nat} {v0 v1 : Value} {xs : List Bool} {xss : List (List Int)} (h : Dv base w lo hi v0 v1 (mkB 1 xs) (mkRows xss (1 + xs.length)))
    (hl : xs.length ≤ 2000000) (hx : xss.length ≤ 2000000) (hs : small xss) :
    Calls Try.prog 18 #[.agg #[v0, v1], .int .i64 1] w fun e w' => e = .returned (.int .i64 (mkK xss (1 + xs.length))) ∧ Below w.heap.size w w' := by
  obtain ⟨k, hk⟩ := (heldMarked xs xss hl hx hs 1 (by omega)).rounds
  obtain ⟨A0, c0, A1, c1, e0, e1, h0, h1⟩ := h.slices
  subst e0
  subst e1
  exact laws_heldDfa.calls k _ _ _ _ _ _ 1 _ _ h.c0 h0 h.c1 h1 hk
end Go.Proofs.Ytogamkblkoobkaa.Wk
end
section
namespace Go.Proofs.Ytogamkblkoobkaa.P
open Go.RowKit Go.Proofs.YtogamkblkoobkaaW.PrintWords Go.Proofs.YtogamkblkoobkaaW.PrintLast Go.Proofs.YtogamkblkoobkaaW.PrintMore
attribute [local go_sem] max2_int min2_int max_two min_two max_three min_three max_four min_four
set_option linter.unusedVariables false
set_option linter.unusedSimpArgs false
def laws_toBoolS.l0 : Nat → List Bool → List Bool → Int → Option (List Bool)
  | 0, _, _, _ => none
  | k + 1, x0, x3, x4 => if x4 < (x0.length : Int) then (if 0 ≤ x4 then (if x4 < (x3.length : Int) then (laws_toBoolS.l0 k x0 (x3.set (x4 : Int).toNat (rdOf false x0 x4)) (wrap64 (x4 + 1))) else (none)) else (none)) else (some x3)
def laws_toBoolS.f (k : Nat) (l0 : List Bool) : Option (List Bool) := if 0 ≤ (l0.length : Int) then (if ((l0.length : Int) : Int).toNat ≤ 281474976710656 then (laws_toBoolS.l0 k l0 (List.replicate ((l0.length : Int) : Int).toNat false) 0) else (none)) else (none)
theorem laws_toBoolS.mono_l : ∀ k, (∀ y0 y1 y2, LeO (laws_toBoolS.l0 k y0 y1 y2) (laws_toBoolS.l0 (k + 1) y0 y1 y2))
  | 0 => fun _ _ _ r h => by simp [laws_toBoolS.l0] at h
  | k + 1 => by
    have ih0 := laws_toBoolS.mono_l k
    · intro y0 y1 y2
      unfold laws_toBoolS.l0
      repeat' first
      | (with_reducible exact ih0 _ _ _)
      | (with_reducible exact LeO.refl _)
      | (with_reducible exact LeO.none _)
      | (with_reducible refine LeO.ite ?_ ?_)
      | (with_reducible refine LeO.bind ?_ (fun _ => ?_))
      | exact ih0 _ _ _
      | exact LeO.none _
      | refine LeO.ite ?_ ?_
      | refine LeO.bind ?_ (fun _ => ?_)
theorem laws_toBoolS.mono : ∀ a0 k, LeO (laws_toBoolS.f k a0) (laws_toBoolS.f (k + 1) a0) := by
  intro a0 k
  have ih0 := laws_toBoolS.mono_l k
  unfold laws_toBoolS.f
  repeat' first
      | (with_reducible exact ih0 _ _ _)
      | (with_reducible exact LeO.refl _)
      | (with_reducible exact LeO.none _)
      | (with_reducible refine LeO.ite ?_ ?_)
      | (with_reducible refine LeO.bind ?_ (fun _ => ?_))
      | exact ih0 _ _ _
      | exact LeO.none _
      | refine LeO.ite ?_ ?_
      | refine LeO.bind ?_ (fun _ => ?_)
set_option maxHeartbeats 8000000 in
set_option maxRecDepth 100000 in
theorem laws_toBoolS.calls (k : Nat) (A0 : Option Addr) (c0 : Nat) (l0 : List Bool) (r : List Bool) (w : World) (hr0 : Kd.C Kd.bool w A0 l0.length l0) (hc0 : l0.length ≤ c0) (h : laws_toBoolS.f k l0 = some r) :
    Calls Try.prog 54 #[.slice A0 l0.length c0] w fun e w' => ∃ v0_ : Value, e = .returned (v0_) ∧ Kd.R Kd.bool 4 w' w.heap.size (fun _ => True) v0_ r ∧ Below w.heap.size w w' := by
  have HR0 := Aside0.mk hr0
  have HC0 := Aside0.mk hc0
  clear hr0 hc0
  have HB := Aside0.mk (Below.refl w.heap.size w)
  have H : (if 0 ≤ (l0.length : Int) then (if ((l0.length : Int) : Int).toNat ≤ 281474976710656 then (laws_toBoolS.l0 k l0 (List.replicate ((l0.length : Int) : Int).toNat false) 0) else (none)) else (none)) = some r := h
  clear h
  by_cases c2 : 0 ≤ (l0.length : Int)
  · rw [if_pos c2] at H
    have c2b0 := eq_true c2
    have c2b1 : decide (0 ≤ (l0.length : Int)) = true := decide_eq_true c2
    clear c2
    by_cases c3 : ((l0.length : Int) : Int).toNat ≤ 281474976710656
    · rw [if_pos c3] at H
      have c3b0 := eq_true c3
      have c3b1 : decide (((l0.length : Int) : Int).toNat ≤ 281474976710656) = true := decide_eq_true c3
      clear c3
      obtain ⟨y199, hy199⟩ : ∃ y_ : List Bool, y_ = (List.replicate ((l0.length : Int) : Int).toNat false) := ⟨_, rfl⟩
      replace H : (laws_toBoolS.l0 k l0 y199 0) = some r := by first | (rw [hy199]; with_reducible exact H) | (have H2_ := (Option.bind_some _ _).symm.trans H; rw [hy199]; with_reducible exact H2_) | (have H2_ := (Option.bind_some _ _).symm.trans H; with_reducible exact H2_) | with_reducible exact H | (rw [hy199]; exact H) | exact H
      have Ny199 := Aside0.mk hy199
      clear hy199
      have H' := Aside0.mk H
      clear H
      go_enter Try.func54, Try.ntmps54
      go_wp2_with (first | ((with_reducible refine gate_dst (N := 7) rfl ?_); refine Kd.R_make Kd.bool _ 4 rfl (N := 7) rfl 22 _ _ rfl (l0.length : Int) rfl rfl Try.underlying22 (.bool false) 1 info4 rfl (by decide) (by omega) false (ok := fun _ => True) (okp := fun _ => True) rfl (fun _ hk => hk) trivial (of_decide_eq_true (by first | (with_reducible assumption) | assumption)) (Nat.le_trans (Nat.mul_le_mul_right _ (of_decide_eq_true (by first | (with_reducible assumption) | assumption) : (l0.length : Int).toNat ≤ 281474976710656)) (by omega)) (Below.refl _ _) (Nat.le_refl _) ?_; intro v200 w4 ho5 hb hg_ hnew_; clear hg_ hnew_; (first | rw [← Ny199.out] at ho5 | (simp only [Int.reduceToNat] at ho5; rw [← Ny199.out] at ho5)); have n0_ := Aside0.mk (Kd.R_lower ho5 (below_size (by repeat (first | (with_reducible first | exact HB.out | apply below_alloc | apply pw_below_drewN | apply below_drew1) | exact HB.out)))); have n1_ := Aside0.mk (below_step (by repeat (first | (with_reducible first | exact HB.out | apply below_alloc | apply pw_below_drewN | apply below_drew1) | exact HB.out)) hb); clear HB; have HO201 := n0_; have HB := n1_; clear n0_ n1_; clear hb ho5))
      go_loopg [4] k (fun kq v4 w' => ∃ (x3_1 : List Bool) (x4_1 : Int), v4 = .int .i64 x4_1 ∧ Aside0 (laws_toBoolS.l0 kq l0 x3_1 x4_1 = some r) ∧ Aside0 (kq ≤ k) ∧ Aside0 (Kd.R Kd.bool 4 w' w.heap.size (fun _ => True) v200 x3_1) ∧ Aside0 (Below w.heap.size w w'))
      case atStart => exact ⟨(y199), (0), (by first | rfl | (simp; done) | (simp [*]; done)), H', ⟨Nat.le_refl _⟩, ⟨by (with_reducible repeat (first | apply Kd.R_alloc | apply Kd.R_drewN | apply Kd.R_drew)); exact HO201.out⟩, ⟨by repeat (first | (with_reducible first | exact HB.out | apply below_alloc | apply pw_below_drewN | apply below_drew1) | exact HB.out)⟩⟩
      case round =>
        clear H'
        try clear c2
        try clear c2b0
        try clear c2b1
        try clear p2
        try clear c3
        try clear c3b0
        try clear c3b1
        try clear c5
        obtain ⟨x3_1, x4_1, rfl, HA, HK1, HO_3, HB⟩ := hrel
        cases gk with
        | zero => exact absurd HA.out (by simp [laws_toBoolS.l0])
        | succ k1 =>
          have H := HA.out
          clear HA
          simp only [laws_toBoolS.l0] at H
          by_cases c6 : x4_1 < (l0.length : Int)
          · rw [if_pos c6] at H
            have c6b0 : decide (x4_1 < (l0.length : Int)) = true := decide_eq_true c6
            clear c6
            by_cases c7 : 0 ≤ x4_1
            · rw [if_pos c7] at H
              have c7b0 : decide (0 ≤ x4_1) = true := decide_eq_true c7
              clear c7
              by_cases c8 : x4_1 < (x3_1.length : Int)
              · rw [if_pos c8] at H
                have c8b0 : decide (x4_1 < (x3_1.length : Int)) = true := decide_eq_true c8
                clear c8
                obtain ⟨y203, hy203⟩ : ∃ y_ : List Bool, y_ = (x3_1.set (x4_1 : Int).toNat (rdOf false l0 x4_1)) := ⟨_, rfl⟩
                replace H : (laws_toBoolS.l0 k1 l0 y203 (wrap64 (x4_1 + 1))) = some r := by first | (rw [hy203]; with_reducible exact H) | (have H2_ := (Option.bind_some _ _).symm.trans H; rw [hy203]; with_reducible exact H2_) | (have H2_ := (Option.bind_some _ _).symm.trans H; with_reducible exact H2_) | with_reducible exact H | (rw [hy203]; exact H) | exact H
                have Ny203 := Aside0.mk hy203
                clear hy203
                have H' := Aside0.mk H
                clear H
                have p202 : 0 ≤ (x4_1 : Int) := of_decide_eq_true (by first | (with_reducible assumption) | assumption)
                have q202 : x4_1 < (l0.length : Int) := of_decide_eq_true (by first | (with_reducible assumption) | assumption)
                obtain ⟨ad202, e202, hx202_0⟩ := Kd.at_bool HR0.out x4_1 p202 q202
                cases e202
                replace hx202_0 := (HB.out.cell (World.block_lt_of_cell? w _ hx202_0)).trans hx202_0
                replace p202 := eq_true p202
                replace q202 := eq_true q202
                have p9 : 0 ≤ (x4_1 : Int) := of_decide_eq_true (by first | (with_reducible assumption) | assumption)
                have q9 : (x4_1 : Int) < ((x3_1.length : Int) : Int) := of_decide_eq_true (by first | (with_reducible assumption) | assumption)
                obtain ⟨go9, co9, eo9, gb9, gl9, cl9, HG9⟩ := Kd.R_form HO_3.out (by omega)
                (first | cases eo9 | (injection eo9 with ea_ en_ ec_; (first | subst ea_ | (injection ea_ with ea_; subst ea_)); subst ec_; clear en_))
                have GB9 := Aside0.mk gb9
                have GG9 := Aside0.mk HG9
                clear gb9 gl9 HG9
                obtain ⟨hx9_0, hf9_0⟩ := Kd.R_celln false HO_3.out (x4_1 : Int) p9 q9
                replace p9 := eq_true p9
                replace q9 := eq_true q9
                have HP10 := Kd.R_putg HO_3.out (x4_1 : Int) (rdOf false l0 x4_1)
                go_wp2_with (first | ((with_reducible refine gate_store (t := 4) (p := 20) rfl ?_); refine store_event (t := 4) (p := 20) (v := ?vo_w11) (w1 := (wr.setCell ⟨go9, (x4_1 : Int).toNat, none⟩ (.bool (rdOf false l0 x4_1)))) ?hg ?ho ?hn ?hr ?_; (case ho => rfl); (case hg => rfl); (case hn => rfl); (case hr => first | (go_simp; done) | (go_simp; rfl)); intro w11 hw; have hg : wr.grownBy w11 (some go9) := (by rw [hw]; exact HP10.2); have hp_ : Kd.R Kd.bool 4 w11 w.heap.size (fun _ => True) (.slice (some ⟨go9, 0, none⟩) x3_1.length co9) y203 := (by rw [hw, Ny203.out]; exact HP10.1); clear HP10; have n0_ := Aside0.mk (hp_); have n1_ := Aside0.mk ((by rw [hw]; exact below_set (HB.out) GB9.out : Below w.heap.size w w11)); clear HO_3; clear HB; have HO_3 := n0_; have HB := n1_; clear n0_ n1_; clear hg hw hp_))
                go_roundg k1
                case measure => have := HK1.out; omega
                case rel => exact ⟨(y203), (wrap64 (x4_1 + 1)), (by first | rfl | (simp; done) | (simp [*]; done)), H', ⟨by have := HK1.out; omega⟩, ⟨by (with_reducible repeat (first | apply Kd.R_alloc | apply Kd.R_drewN | apply Kd.R_drew)); exact HO_3.out⟩, ⟨by repeat (first | (with_reducible first | exact HB.out | apply below_alloc | apply pw_below_drewN | apply below_drew1) | exact HB.out)⟩⟩
              · rw [if_neg c8] at H
                exact absurd H (by simp)
            · rw [if_neg c7] at H
              exact absurd H (by simp)
          · rw [if_neg c6] at H
            have c6b0 : decide (x4_1 < (l0.length : Int)) = false := decide_eq_false c6
            clear c6
            obtain rfl := Option.some.inj H
            simp only [Option.some.injEq, Prod.mk.injEq] at H
            obtain ⟨rfl⟩ := H
            go_wp2
            go_ret
            exact ⟨_, by first | rfl | (simp [errW_none, errW_some] <;> rfl) | (simp [*, errW_none, errW_some] <;> rfl), by (with_reducible repeat (first | apply Kd.R_alloc | apply Kd.R_drewN | apply Kd.R_drew)); exact HO_3.out, by repeat (first | (with_reducible first | exact HB.out | apply below_alloc | apply pw_below_drewN | apply below_drew1) | exact HB.out)⟩
    · rw [if_neg c3] at H
      exact absurd H (by simp)
  · rw [if_neg c2] at H
    exact absurd H (by simp)
def laws_toIntS.l0 : Nat → List Int → List Int → Int → Option (List Int)
  | 0, _, _, _ => none
  | k + 1, x0, x3, x4 => if x4 < (x0.length : Int) then (if 0 ≤ x4 then (if x4 < (x3.length : Int) then (laws_toIntS.l0 k x0 (x3.set (x4 : Int).toNat (rd x0 x4)) (wrap64 (x4 + 1))) else (none)) else (none)) else (some x3)
def laws_toIntS.f (k : Nat) (l0 : List Int) : Option (List Int) := if 0 ≤ (l0.length : Int) then (if ((l0.length : Int) : Int).toNat ≤ 35184372088832 then (laws_toIntS.l0 k l0 (List.replicate ((l0.length : Int) : Int).toNat 0) 0) else (none)) else (none)
theorem laws_toIntS.mono_l : ∀ k, (∀ y0 y1 y2, LeO (laws_toIntS.l0 k y0 y1 y2) (laws_toIntS.l0 (k + 1) y0 y1 y2))
  | 0 => fun _ _ _ r h => by simp [laws_toIntS.l0] at h
  | k + 1 => by
    have ih0 := laws_toIntS.mono_l k
    · intro y0 y1 y2
      unfold laws_toIntS.l0
      repeat' first
      | (with_reducible exact ih0 _ _ _)
      | (with_reducible exact LeO.refl _)
      | (with_reducible exact LeO.none _)
      | (with_reducible refine LeO.ite ?_ ?_)
      | (with_reducible refine LeO.bind ?_ (fun _ => ?_))
      | exact ih0 _ _ _
      | exact LeO.none _
      | refine LeO.ite ?_ ?_
      | refine LeO.bind ?_ (fun _ => ?_)
theorem laws_toIntS.mono : ∀ a0 k, LeO (laws_toIntS.f k a0) (laws_toIntS.f (k + 1) a0) := by
  intro a0 k
  have ih0 := laws_toIntS.mono_l k
  unfold laws_toIntS.f
  repeat' first
      | (with_reducible exact ih0 _ _ _)
      | (with_reducible exact LeO.refl _)
      | (with_reducible exact LeO.none _)
      | (with_reducible refine LeO.ite ?_ ?_)
      | (with_reducible refine LeO.bind ?_ (fun _ => ?_))
      | exact ih0 _ _ _
      | exact LeO.none _
      | refine LeO.ite ?_ ?_
      | refine LeO.bind ?_ (fun _ => ?_)
set_option maxHeartbeats 8000000 in
set_option maxRecDepth 100000 in
theorem laws_toIntS.calls (k : Nat) (A0 : Option Addr) (c0 : Nat) (l0 : List Int) (r : List Int) (w : World) (hr0 : Kd.C (Kd.int .i64) w A0 l0.length l0) (hc0 : l0.length ≤ c0) (h : laws_toIntS.f k l0 = some r) :
    Calls Try.prog 117 #[.slice A0 l0.length c0] w fun e w' => ∃ v0_ : Value, e = .returned (v0_) ∧ Kd.R (Kd.int .i64) 3 w' w.heap.size (fun _ => True) v0_ r ∧ Below w.heap.size w w' := by
  have HR0 := Aside0.mk hr0
  have HC0 := Aside0.mk hc0
  clear hr0 hc0
  have HB := Aside0.mk (Below.refl w.heap.size w)
  have H : (if 0 ≤ (l0.length : Int) then (if ((l0.length : Int) : Int).toNat ≤ 35184372088832 then (laws_toIntS.l0 k l0 (List.replicate ((l0.length : Int) : Int).toNat 0) 0) else (none)) else (none)) = some r := h
  clear h
  by_cases c2 : 0 ≤ (l0.length : Int)
  · rw [if_pos c2] at H
    have c2b0 := eq_true c2
    have c2b1 : decide (0 ≤ (l0.length : Int)) = true := decide_eq_true c2
    clear c2
    by_cases c3 : ((l0.length : Int) : Int).toNat ≤ 35184372088832
    · rw [if_pos c3] at H
      have c3b0 := eq_true c3
      have c3b1 : decide (((l0.length : Int) : Int).toNat ≤ 35184372088832) = true := decide_eq_true c3
      clear c3
      obtain ⟨y204, hy204⟩ : ∃ y_ : List Int, y_ = (List.replicate ((l0.length : Int) : Int).toNat 0) := ⟨_, rfl⟩
      replace H : (laws_toIntS.l0 k l0 y204 0) = some r := by first | (rw [hy204]; with_reducible exact H) | (have H2_ := (Option.bind_some _ _).symm.trans H; rw [hy204]; with_reducible exact H2_) | (have H2_ := (Option.bind_some _ _).symm.trans H; with_reducible exact H2_) | with_reducible exact H | (rw [hy204]; exact H) | exact H
      have Ny204 := Aside0.mk hy204
      clear hy204
      have H' := Aside0.mk H
      clear H
      go_enter Try.func117, Try.ntmps117
      go_wp2_with (first | ((with_reducible refine gate_dst (N := 7) rfl ?_); refine Kd.R_make (Kd.int .i64) _ 3 rfl (N := 7) rfl 67 _ _ rfl (l0.length : Int) rfl rfl Try.underlying67 (.int .i64 0) 8 info3 rfl (by decide) (by omega) 0 (ok := fun _ => True) (okp := fun _ => True) rfl (fun _ hk => hk) trivial (of_decide_eq_true (by first | (with_reducible assumption) | assumption)) (Nat.le_trans (Nat.mul_le_mul_right _ (of_decide_eq_true (by first | (with_reducible assumption) | assumption) : (l0.length : Int).toNat ≤ 35184372088832)) (by omega)) (Below.refl _ _) (Nat.le_refl _) ?_; intro v205 w4 ho5 hb hg_ hnew_; clear hg_ hnew_; (first | rw [← Ny204.out] at ho5 | (simp only [Int.reduceToNat] at ho5; rw [← Ny204.out] at ho5)); have n0_ := Aside0.mk (Kd.R_lower ho5 (below_size (by repeat (first | (with_reducible first | exact HB.out | apply below_alloc | apply pw_below_drewN | apply below_drew1) | exact HB.out)))); have n1_ := Aside0.mk (below_step (by repeat (first | (with_reducible first | exact HB.out | apply below_alloc | apply pw_below_drewN | apply below_drew1) | exact HB.out)) hb); clear HB; have HO206 := n0_; have HB := n1_; clear n0_ n1_; clear hb ho5))
      go_loopg [4] k (fun kq v4 w' => ∃ (x3_1 : List Int) (x4_1 : Int), v4 = .int .i64 x4_1 ∧ Aside0 (laws_toIntS.l0 kq l0 x3_1 x4_1 = some r) ∧ Aside0 (kq ≤ k) ∧ Aside0 (Kd.R (Kd.int .i64) 3 w' w.heap.size (fun _ => True) v205 x3_1) ∧ Aside0 (Below w.heap.size w w'))
      case atStart => exact ⟨(y204), (0), (by first | rfl | (simp; done) | (simp [*]; done)), H', ⟨Nat.le_refl _⟩, ⟨by (with_reducible repeat (first | apply Kd.R_alloc | apply Kd.R_drewN | apply Kd.R_drew)); exact HO206.out⟩, ⟨by repeat (first | (with_reducible first | exact HB.out | apply below_alloc | apply pw_below_drewN | apply below_drew1) | exact HB.out)⟩⟩
      case round =>
        clear H'
        try clear c1
        try clear c2
        try clear c2b0
        try clear c2b1
        try clear p2
        try clear c3
        try clear c3b0
        try clear c3b1
        obtain ⟨x3_1, x4_1, rfl, HA, HK1, HO_3, HB⟩ := hrel
        cases gk with
        | zero => exact absurd HA.out (by simp [laws_toIntS.l0])
        | succ k1 =>
          have H := HA.out
          clear HA
          simp only [laws_toIntS.l0] at H
          by_cases c6 : x4_1 < (l0.length : Int)
          · rw [if_pos c6] at H
            have c6b0 : decide (x4_1 < (l0.length : Int)) = true := decide_eq_true c6
            clear c6
            by_cases c7 : 0 ≤ x4_1
            · rw [if_pos c7] at H
              have c7b0 : decide (0 ≤ x4_1) = true := decide_eq_true c7
              clear c7
              by_cases c8 : x4_1 < (x3_1.length : Int)
              · rw [if_pos c8] at H
                have c8b0 : decide (x4_1 < (x3_1.length : Int)) = true := decide_eq_true c8
                clear c8
                obtain ⟨y208, hy208⟩ : ∃ y_ : List Int, y_ = (x3_1.set (x4_1 : Int).toNat (rd l0 x4_1)) := ⟨_, rfl⟩
                replace H : (laws_toIntS.l0 k1 l0 y208 (wrap64 (x4_1 + 1))) = some r := by first | (rw [hy208]; with_reducible exact H) | (have H2_ := (Option.bind_some _ _).symm.trans H; rw [hy208]; with_reducible exact H2_) | (have H2_ := (Option.bind_some _ _).symm.trans H; with_reducible exact H2_) | with_reducible exact H | (rw [hy208]; exact H) | exact H
                have Ny208 := Aside0.mk hy208
                clear hy208
                have H' := Aside0.mk H
                clear H
                have p207 : 0 ≤ (x4_1 : Int) := of_decide_eq_true (by first | (with_reducible assumption) | assumption)
                have q207 : x4_1 < (l0.length : Int) := of_decide_eq_true (by first | (with_reducible assumption) | assumption)
                obtain ⟨ad207, e207, hx207_0⟩ := Kd.at_int HR0.out x4_1 p207 q207
                cases e207
                replace hx207_0 := (HB.out.cell (World.block_lt_of_cell? w _ hx207_0)).trans hx207_0
                replace p207 := eq_true p207
                replace q207 := eq_true q207
                have p9 : 0 ≤ (x4_1 : Int) := of_decide_eq_true (by first | (with_reducible assumption) | assumption)
                have q9 : (x4_1 : Int) < ((x3_1.length : Int) : Int) := of_decide_eq_true (by first | (with_reducible assumption) | assumption)
                obtain ⟨go9, co9, eo9, gb9, gl9, cl9, HG9⟩ := Kd.R_form HO_3.out (by omega)
                (first | cases eo9 | (injection eo9 with ea_ en_ ec_; (first | subst ea_ | (injection ea_ with ea_; subst ea_)); subst ec_; clear en_))
                have GB9 := Aside0.mk gb9
                have GG9 := Aside0.mk HG9
                clear gb9 gl9 HG9
                obtain ⟨hx9_0, hf9_0⟩ := Kd.R_celln 0 HO_3.out (x4_1 : Int) p9 q9
                replace p9 := eq_true p9
                replace q9 := eq_true q9
                have HP10 := Kd.R_putg HO_3.out (x4_1 : Int) (rd l0 x4_1)
                go_wp2_with (first | ((with_reducible refine gate_store (t := 3) (p := 20) rfl ?_); refine store_event (t := 3) (p := 20) (v := ?vo_w11) (w1 := (wr.setCell ⟨go9, (x4_1 : Int).toNat, none⟩ (.int .i64 (rd l0 x4_1)))) ?hg ?ho ?hn ?hr ?_; (case ho => rfl); (case hg => rfl); (case hn => rfl); (case hr => first | (go_simp; done) | (go_simp; rfl)); intro w11 hw; have hg : wr.grownBy w11 (some go9) := (by rw [hw]; exact HP10.2); have hp_ : Kd.R (Kd.int .i64) 3 w11 w.heap.size (fun _ => True) (.slice (some ⟨go9, 0, none⟩) x3_1.length co9) y208 := (by rw [hw, Ny208.out]; exact HP10.1); clear HP10; have n0_ := Aside0.mk (hp_); have n1_ := Aside0.mk ((by rw [hw]; exact below_set (HB.out) GB9.out : Below w.heap.size w w11)); clear HO_3; clear HB; have HO_3 := n0_; have HB := n1_; clear n0_ n1_; clear hg hw hp_))
                go_roundg k1
                case measure => have := HK1.out; omega
                case rel => exact ⟨(y208), (wrap64 (x4_1 + 1)), (by first | rfl | (simp; done) | (simp [*]; done)), H', ⟨by have := HK1.out; omega⟩, ⟨by (with_reducible repeat (first | apply Kd.R_alloc | apply Kd.R_drewN | apply Kd.R_drew)); exact HO_3.out⟩, ⟨by repeat (first | (with_reducible first | exact HB.out | apply below_alloc | apply pw_below_drewN | apply below_drew1) | exact HB.out)⟩⟩
              · rw [if_neg c8] at H
                exact absurd H (by simp)
            · rw [if_neg c7] at H
              exact absurd H (by simp)
          · rw [if_neg c6] at H
            have c6b0 : decide (x4_1 < (l0.length : Int)) = false := decide_eq_false c6
            clear c6
            obtain rfl := Option.some.inj H
            simp only [Option.some.injEq, Prod.mk.injEq] at H
            obtain ⟨rfl⟩ := H
            go_wp2
            go_ret
            exact ⟨_, by first | rfl | (simp [errW_none, errW_some] <;> rfl) | (simp [*, errW_none, errW_some] <;> rfl), by (with_reducible repeat (first | apply Kd.R_alloc | apply Kd.R_drewN | apply Kd.R_drew)); exact HO_3.out, by repeat (first | (with_reducible first | exact HB.out | apply below_alloc | apply pw_below_drewN | apply below_drew1) | exact HB.out)⟩
    · rw [if_neg c3] at H
      exact absurd H (by simp)
  · rw [if_neg c2] at H
    exact absurd H (by simp)
def laws_toIntSS.l0 : Nat → List (List Int) → List (List Int) → Int → Option ((List (List Int)))
  | 0, _, _, _ => none
  | k + 1, x0, x3, x4 => if x4 < (x0.length : Int) then (if 0 ≤ x4 then ((laws_toIntS.f k (rd_L1 x0 x4)).bind fun t213 => (if x4 < (x3.length : Int) then (laws_toIntSS.l0 k x0 (x3.set (x4 : Int).toNat t213) (wrap64 (x4 + 1))) else (none))) else (none)) else (some x3)
def laws_toIntSS.f (k : Nat) (l0 : List (List Int)) : Option ((List (List Int))) := if 0 ≤ (l0.length : Int) then (if ((l0.length : Int) : Int).toNat ≤ 11728124029610 then (laws_toIntSS.l0 k l0 (List.replicate ((l0.length : Int) : Int).toNat []) 0) else (none)) else (none)
theorem laws_toIntSS.mono_l : ∀ k, (∀ y0 y1 y2, LeO (laws_toIntSS.l0 k y0 y1 y2) (laws_toIntSS.l0 (k + 1) y0 y1 y2))
  | 0 => fun _ _ _ r h => by simp [laws_toIntSS.l0] at h
  | k + 1 => by
    have ih0 := laws_toIntSS.mono_l k
    · intro y0 y1 y2
      unfold laws_toIntSS.l0
      repeat' first
      | (with_reducible exact ih0 _ _ _)
      | (with_reducible exact laws_toIntS.mono _ _)
      | (with_reducible exact LeO.refl _)
      | (with_reducible exact LeO.none _)
      | (with_reducible refine LeO.ite ?_ ?_)
      | (with_reducible refine LeO.bind ?_ (fun _ => ?_))
      | exact ih0 _ _ _
      | exact laws_toIntS.mono _ _
      | exact LeO.none _
      | refine LeO.ite ?_ ?_
      | refine LeO.bind ?_ (fun _ => ?_)
theorem laws_toIntSS.mono : ∀ a0 k, LeO (laws_toIntSS.f k a0) (laws_toIntSS.f (k + 1) a0) := by
  intro a0 k
  have ih0 := laws_toIntSS.mono_l k
  unfold laws_toIntSS.f
  repeat' first
      | (with_reducible exact ih0 _ _ _)
      | (with_reducible exact laws_toIntS.mono _ _)
      | (with_reducible exact LeO.refl _)
      | (with_reducible exact LeO.none _)
      | (with_reducible refine LeO.ite ?_ ?_)
      | (with_reducible refine LeO.bind ?_ (fun _ => ?_))
      | exact ih0 _ _ _
      | exact laws_toIntS.mono _ _
      | exact LeO.none _
      | refine LeO.ite ?_ ?_
      | refine LeO.bind ?_ (fun _ => ?_)
set_option maxHeartbeats 8000000 in
set_option maxRecDepth 100000 in
theorem laws_toIntSS.calls (k : Nat) (A0 : Option Addr) (c0 : Nat) (l0 : List (List Int)) (r : List (List Int)) (w : World) (hr0 : Kd.C (Kd.slice 3 (Kd.int .i64)) w A0 l0.length l0) (hc0 : l0.length ≤ c0) (h : laws_toIntSS.f k l0 = some r) :
    Calls Try.prog 55 #[.slice A0 l0.length c0] w fun e w' => ∃ v0_ : Value, e = .returned (v0_) ∧ Kd.S (Kd.slice 3 (Kd.int .i64)) 67 w' w.heap.size (fun _ => True) v0_ r ∧ Below w.heap.size w w' := by
  have HR0 := Aside0.mk hr0
  have HC0 := Aside0.mk hc0
  clear hr0 hc0
  have HB := Aside0.mk (Below.refl w.heap.size w)
  have H : (if 0 ≤ (l0.length : Int) then (if ((l0.length : Int) : Int).toNat ≤ 11728124029610 then (laws_toIntSS.l0 k l0 (List.replicate ((l0.length : Int) : Int).toNat []) 0) else (none)) else (none)) = some r := h
  clear h
  by_cases c2 : 0 ≤ (l0.length : Int)
  · rw [if_pos c2] at H
    have c2b0 := eq_true c2
    have c2b1 : decide (0 ≤ (l0.length : Int)) = true := decide_eq_true c2
    clear c2
    by_cases c3 : ((l0.length : Int) : Int).toNat ≤ 11728124029610
    · rw [if_pos c3] at H
      have c3b0 := eq_true c3
      have c3b1 : decide (((l0.length : Int) : Int).toNat ≤ 11728124029610) = true := decide_eq_true c3
      clear c3
      obtain ⟨y209, hy209⟩ : ∃ y_ : List (List Int), y_ = (List.replicate ((l0.length : Int) : Int).toNat []) := ⟨_, rfl⟩
      replace H : (laws_toIntSS.l0 k l0 y209 0) = some r := by first | (rw [hy209]; with_reducible exact H) | (have H2_ := (Option.bind_some _ _).symm.trans H; rw [hy209]; with_reducible exact H2_) | (have H2_ := (Option.bind_some _ _).symm.trans H; with_reducible exact H2_) | with_reducible exact H | (rw [hy209]; exact H) | exact H
      have Ny209 := Aside0.mk hy209
      clear hy209
      have H' := Aside0.mk H
      clear H
      go_enter Try.func55, Try.ntmps55
      go_wp2_with (first | ((with_reducible refine gate_dst (N := 7) rfl ?_); refine Kd.S_make (Kd.slice 3 (Kd.int .i64)) _ 67 rfl (N := 7) rfl 23 _ _ rfl (l0.length : Int) rfl rfl Try.underlying23 (.slice none 0 0) 24 info67 rfl (by decide) (by omega) [] (ok := fun _ => True) (okp := fun _ => True) ⟨_, rfl, Kd.R_nil _ _ _ _ _⟩ (fun _ hk => hk) trivial (of_decide_eq_true (by first | (with_reducible assumption) | assumption)) (Nat.le_trans (Nat.mul_le_mul_right _ (of_decide_eq_true (by first | (with_reducible assumption) | assumption) : (l0.length : Int).toNat ≤ 11728124029610)) (by omega)) (Below.refl _ _) (Nat.le_refl _) ?_; intro v210 w4 ho5 hb hg_ hnew_; clear hg_ hnew_; (first | rw [← Ny209.out] at ho5 | (simp only [Int.reduceToNat] at ho5; rw [← Ny209.out] at ho5)); have n0_ := Aside0.mk (Kd.S_lower ho5 (below_size (by repeat (first | (with_reducible first | exact HB.out | apply below_alloc | apply pw_below_drewN | apply below_drew1) | exact HB.out)))); have n1_ := Aside0.mk (below_step (by repeat (first | (with_reducible first | exact HB.out | apply below_alloc | apply pw_below_drewN | apply below_drew1) | exact HB.out)) hb); clear HB; have HO211 := n0_; have HB := n1_; clear n0_ n1_; clear hb ho5))
      go_loopg [4] k (fun kq v4 w' => ∃ (x3_1 : List (List Int)) (x4_1 : Int), v4 = .int .i64 x4_1 ∧ Aside0 (laws_toIntSS.l0 kq l0 x3_1 x4_1 = some r) ∧ Aside0 (kq ≤ k) ∧ Aside0 (Kd.S (Kd.slice 3 (Kd.int .i64)) 67 w' w.heap.size (fun _ => True) v210 x3_1) ∧ Aside0 (Below w.heap.size w w'))
      case atStart => exact ⟨(y209), (0), (by first | rfl | (simp; done) | (simp [*]; done)), H', ⟨Nat.le_refl _⟩, ⟨by (with_reducible repeat (first | apply Kd.S_alloc | apply Kd.S_drewN | apply Kd.S_drew)); exact HO211.out⟩, ⟨by repeat (first | (with_reducible first | exact HB.out | apply below_alloc | apply pw_below_drewN | apply below_drew1) | exact HB.out)⟩⟩
      case round =>
        clear H'
        try clear c2
        try clear c2b0
        try clear c2b1
        try clear p2
        try clear c3
        try clear c3b0
        try clear c3b1
        try clear c5
        obtain ⟨x3_1, x4_1, rfl, HA, HK1, HO_3, HB⟩ := hrel
        cases gk with
        | zero => exact absurd HA.out (by simp [laws_toIntSS.l0])
        | succ k1 =>
          have H := HA.out
          clear HA
          simp only [laws_toIntSS.l0] at H
          by_cases c6 : x4_1 < (l0.length : Int)
          · rw [if_pos c6] at H
            have c6b0 : decide (x4_1 < (l0.length : Int)) = true := decide_eq_true c6
            clear c6
            by_cases c7 : 0 ≤ x4_1
            · rw [if_pos c7] at H
              have c7b0 : decide (0 ≤ x4_1) = true := decide_eq_true c7
              clear c7
              replace H := Option.bind_eq_some_iff.mp H
              obtain ⟨t213, A80, H⟩ := H
              replace H : (if x4_1 < (x3_1.length : Int) then (laws_toIntSS.l0 k1 l0 (x3_1.set (x4_1 : Int).toNat t213) (wrap64 (x4_1 + 1))) else (none)) = some r := H
              have A8 := Aside0.mk A80
              clear A80
              by_cases c9 : x4_1 < (x3_1.length : Int)
              · rw [if_pos c9] at H
                have c9b0 : decide (x4_1 < (x3_1.length : Int)) = true := decide_eq_true c9
                clear c9
                obtain ⟨y216, hy216⟩ : ∃ y_ : List (List Int), y_ = (x3_1.set (x4_1 : Int).toNat t213) := ⟨_, rfl⟩
                replace H : (laws_toIntSS.l0 k1 l0 y216 (wrap64 (x4_1 + 1))) = some r := by first | (rw [hy216]; with_reducible exact H) | (have H2_ := (Option.bind_some _ _).symm.trans H; rw [hy216]; with_reducible exact H2_) | (have H2_ := (Option.bind_some _ _).symm.trans H; with_reducible exact H2_) | with_reducible exact H | (rw [hy216]; exact H) | exact H
                have Ny216 := Aside0.mk hy216
                clear hy216
                have H' := Aside0.mk H
                clear H
                have p212 : 0 ≤ (x4_1 : Int) := of_decide_eq_true (by first | (with_reducible assumption) | assumption)
                have q212 : x4_1 < (l0.length : Int) := of_decide_eq_true (by first | (with_reducible assumption) | assumption)
                obtain ⟨ad212, A212_0, c212_0, e212, hx212_0, hl212_0, hi212_0⟩ := at_L1 HR0.out x4_1 p212 q212
                cases e212
                replace hx212_0 := (HB.out.cell (World.block_lt_of_cell? w _ hx212_0)).trans hx212_0
                have HR212_0 := Aside0.mk hi212_0
                have HC212_0 := Aside0.mk hl212_0
                clear hi212_0 hl212_0
                replace p212 := eq_true p212
                replace q212 := eq_true q212
                go_wp2_with (first | ((with_reducible refine gate_callee (f := 117) rfl ?_); refine goesL_ (some 20) rfl rfl Try.func117 (by kernel_rfl) rfl #[.slice A212_0 (rd_L1 l0 x4_1).length c212_0] rfl (by (try simp only [List.map_toArray, List.map_cons, List.map_nil]); first | done | rfl | (simp only [List.length_drop, List.length_take]; rfl)) ?_; (with_reducible refine (laws_toIntS.calls k1 _ _ (rd_L1 l0 x4_1) t213 _ ?side1 ?side2 A8.out).mono ?_); (case side1 => repeat (first | exact (Kd.C_below HR212_0.out HB.out) | (with_reducible refine Kd.C_alloc ?_ _) | (with_reducible refine Kd.C_drewN ?_ _) | (with_reducible refine Kd.C_drew ?_))); (case side2 => exact HC212_0.out); rintro e w11 ⟨v214, rfl, ho0, hb⟩; refine ⟨_, rfl, ?_⟩; have n0_ := Aside0.mk (Kd.S_elder' (by (with_reducible repeat (first | apply Kd.S_alloc | apply Kd.S_drewN | apply Kd.S_drew)); exact HO_3.out) (Kd.R_base ho0) hb); have n1_ := Aside0.mk (Kd.R_lower ho0 (below_size (by repeat (first | (with_reducible first | exact HB.out | apply below_alloc | apply pw_below_drewN | apply below_drew1) | exact HB.out)))); have n2_ := Aside0.mk (below_step (by repeat (first | (with_reducible first | exact HB.out | apply below_alloc | apply pw_below_drewN | apply below_drew1) | exact HB.out)) hb); clear HO_3; clear HB; have HO_3 := n0_; have HO215 := n1_; have HB := n2_; clear n0_ n1_ n2_; (try clear hb); (try clear hb2); (try clear hk); (try clear hi); (try clear ho0); have p10 : 0 ≤ (x4_1 : Int) := of_decide_eq_true (by first | (with_reducible assumption) | assumption); have q10 : (x4_1 : Int) < ((x3_1.length : Int) : Int) := of_decide_eq_true (by first | (with_reducible assumption) | assumption); obtain ⟨go10, co10, eo10, gb10, gl10, cl10, HG10⟩ := Kd.S_form HO_3.out (by omega); (first | cases eo10 | (injection eo10 with ea_ en_ ec_; (first | subst ea_ | (injection ea_ with ea_; subst ea_)); subst ec_; clear en_)); have GB10 := Aside0.mk gb10; have GG10 := Aside0.mk HG10; clear gb10 gl10 HG10; obtain ⟨_, ce10, hcl10, hM10, hcc10, hfr10, _, _⟩ := Kd.S_elem HO_3.out [] (x4_1 : Int) p10 q10; obtain ⟨ve10_0, rfl, ge10_0⟩ := hM10; have hx10_0 := hcc10 0 _ rfl; have hf10_0 := hfr10 0; (try simp only [show ((Kd.slice 3 (Kd.int .i64))).sz = 1 from rfl, Nat.mul_one, Nat.add_zero] at hx10_0); (try simp only [show ((Kd.slice 3 (Kd.int .i64))).sz = 1 from rfl, Nat.mul_one, Nat.add_zero] at hf10_0); (try clear hcl10); (try clear hcc10); (try clear hfr10); (try clear hM10); replace p10 := eq_true p10; replace q10 := eq_true q10; have n_ := Aside0.mk (Kd.S_mono (ok' := (fun k_ => some k_ ≠ (v214 : Value).ownBlock)) HO_3.out (fun k_ hk => hk.2)); clear HO_3; have HO_3 := n_; clear n_; have HX12 := Aside0.mk (show Kd.S (Kd.slice 3 (Kd.int .i64)) 67 w11 w.heap.size (fun k_ => ((fun _ => True)) k_ ∧ ¬ ((fun k_ => some k_ = (v214 : Value).ownBlock)) k_) (.slice (some ⟨go10, 0, none⟩) x3_1.length co10) x3_1 from (by (with_reducible repeat (first | apply Kd.S_alloc | apply Kd.S_drewN | apply Kd.S_drew)); exact Kd.S_mono HO_3.out (fun k_ hk => ⟨trivial, fun e_ => hk e_⟩))); obtain ⟨oki12, ce12, hcl12, hM12, hcc12, hfr12, hoki12, hH12⟩ := Kd.S_elem HX12.out [] (x4_1 : Int) (of_decide_eq_true (by first | (with_reducible assumption) | assumption)) (by have h_ : (x4_1 : Int) < ((x3_1.length : Int) : Int) := of_decide_eq_true (by first | (with_reducible assumption) | assumption); first | exact h_ | (have e_ := (Kd.S_reads' HO_3.out).1; omega) | simpa using h_); obtain ⟨ve12_0, rfl, ge12_0⟩ := hM12; have HP12 := Kd.S_seg hH12 (of_decide_eq_true (by first | (with_reducible assumption) | assumption)) (by have h_ : (x4_1 : Int) < ((x3_1.length : Int) : Int) := of_decide_eq_true (by first | (with_reducible assumption) | assumption); first | exact h_ | (have e_ := (Kd.S_reads' HO_3.out).1; omega) | simpa using h_) (seg := [v214]) (j := 0) (show 1 ≤ 1 from by decide) (x' := t213) (Kd.M_row (Kd.R_mono (Kd.R_tight rfl (Kd.R_mono (ok' := fun k_ => ((fun _ => True)) k_ ∧ k_ ≠ go10) (Kd.R_apart' (HO215.out) (Kd.S_typed HO_3.out) (by decide)) (fun k_ hk => ⟨trivial, fun e_ => (hk.2) (by rw [e_]; rfl)⟩))) (fun _ h_ => Or.inr (h_)))) (fun _ hk => hk) (fun k_ hk_ => ((Kd.R_mono (ok' := fun k_ => ((fun _ => True)) k_ ∧ k_ ≠ go10) (Kd.R_apart' (HO215.out) (Kd.S_typed HO_3.out) (by decide)) (fun k_ hk => ⟨trivial, fun e_ => (hk.2) (by rw [e_]; rfl)⟩))).1 k_ hk_.symm); have hx12_0 := hcc12 0 _ rfl; (try simp only [show ((Kd.slice 3 (Kd.int .i64))).sz = 1 from rfl, Nat.mul_one, Nat.add_zero] at hx12_0); have hf12_0 := hfr12 0; (try simp only [show ((Kd.slice 3 (Kd.int .i64))).sz = 1 from rfl, Nat.mul_one, Nat.add_zero] at hf12_0); (try clear hcl12); (try clear hcc12); (try clear hfr12); (try clear hM12); (try clear hoki12); (try clear hH12); (try simp only [show ((Kd.slice 3 (Kd.int .i64))).sz = 1 from rfl, Nat.mul_one, Nat.add_zero] at HP12)) | ((with_reducible refine gate_store (t := 67) (p := 21) rfl ?_); refine store_event (t := 67) (p := 21) (v := ?vo_w13) (w1 := (w11.setCell ⟨go10, (x4_1 : Int).toNat, none⟩ (v214))) ?hg ?ho ?hn ?hr ?_; (case ho => rfl); (case hg => rfl); (case hn => rfl); (case hr => first | (go_simp; done) | (go_simp; rfl) | (obtain ⟨A_, c_, hv_, _⟩ := Kd.R_reads HO215.out; rw [hv_]; first | (go_simp; done) | (go_simp; rfl))); intro w13 hw; have hg : w11.grownBy w13 (some go10) := (by rw [hw]; exact HP12.2); have hp_ : Kd.S (Kd.slice 3 (Kd.int .i64)) 67 w13 w.heap.size (fun _ => True) (.slice (some ⟨go10, 0, none⟩) x3_1.length co10) y216 := (by rw [hw, Ny216.out]; exact HP12.1); clear HP12; have n0_ := Aside0.mk (hp_); have n1_ := Aside0.mk ((by rw [hw]; exact below_set (HB.out) GB10.out : Below w.heap.size w w13)); clear HO_3; clear HB; clear HO215; have HO_3 := n0_; have HB := n1_; clear n0_ n1_; clear hg hw hp_))
                go_roundg k1
                case measure => have := HK1.out; omega
                case rel => exact ⟨(y216), (wrap64 (x4_1 + 1)), (by first | rfl | (simp; done) | (simp [*]; done)), H', ⟨by have := HK1.out; omega⟩, ⟨by (with_reducible repeat (first | apply Kd.S_alloc | apply Kd.S_drewN | apply Kd.S_drew)); exact HO_3.out⟩, ⟨by repeat (first | (with_reducible first | exact HB.out | apply below_alloc | apply pw_below_drewN | apply below_drew1) | exact HB.out)⟩⟩
              · rw [if_neg c9] at H
                exact absurd H (by simp)
            · rw [if_neg c7] at H
              exact absurd H (by simp)
          · rw [if_neg c6] at H
            have c6b0 : decide (x4_1 < (l0.length : Int)) = false := decide_eq_false c6
            clear c6
            obtain rfl := Option.some.inj H
            simp only [Option.some.injEq, Prod.mk.injEq] at H
            obtain ⟨rfl⟩ := H
            go_wp2
            go_ret
            exact ⟨_, by first | rfl | (simp [errW_none, errW_some] <;> rfl) | (simp [*, errW_none, errW_some] <;> rfl), by (with_reducible repeat (first | apply Kd.S_alloc | apply Kd.S_drewN | apply Kd.S_drew)); exact HO_3.out, by repeat (first | (with_reducible first | exact HB.out | apply below_alloc | apply pw_below_drewN | apply below_drew1) | exact HB.out)⟩
    · rw [if_neg c3] at H
      exact absurd H (by simp)
  · rw [if_neg c2] at H
    exact absurd H (by simp)
def laws_toDfa.f (k : Nat) (l0_0 : List Bool) (l0_1 : List (List Int)) : Option (List Bool × (List (List Int))) := (laws_toBoolS.f k l0_0).bind fun t220 => ((laws_toIntSS.f k l0_1).bind fun t223 => (some (t220, t223)))
theorem laws_toDfa.mono : ∀ a0 a1 k, LeO (laws_toDfa.f k a0 a1) (laws_toDfa.f (k + 1) a0 a1) := by
  intro a0 a1 k
  unfold laws_toDfa.f
  repeat' first
      | (with_reducible exact laws_toBoolS.mono _ _)
      | (with_reducible exact laws_toIntSS.mono _ _)
      | (with_reducible exact LeO.refl _)
      | (with_reducible exact LeO.none _)
      | (with_reducible refine LeO.ite ?_ ?_)
      | (with_reducible refine LeO.bind ?_ (fun _ => ?_))
      | exact laws_toBoolS.mono _ _
      | exact laws_toIntSS.mono _ _
      | exact LeO.none _
      | refine LeO.ite ?_ ?_
      | refine LeO.bind ?_ (fun _ => ?_)
set_option maxHeartbeats 8000000 in
set_option maxRecDepth 100000 in
theorem laws_toDfa.calls (k : Nat) (A0_0 : Option Addr) (c0_0 : Nat) (l0_0 : List Bool) (A0_1 : Option Addr) (c0_1 : Nat) (l0_1 : List (List Int)) (r1 : List Bool) (r2 : List (List Int)) (w : World) (hr0_0 : Kd.C Kd.bool w A0_0 l0_0.length l0_0) (hc0_0 : l0_0.length ≤ c0_0) (hr0_1 : Kd.C (Kd.slice 3 (Kd.int .i64)) w A0_1 l0_1.length l0_1) (hc0_1 : l0_1.length ≤ c0_1) (h : laws_toDfa.f k l0_0 l0_1 = some (r1, r2)) :
    Calls Try.prog 14 #[.agg #[.slice A0_0 l0_0.length c0_0, .slice A0_1 l0_1.length c0_1]] w fun e w' => ∃ v0_ v1_ : Value, e = .returned (.agg #[v0_, v1_]) ∧ Kd.R Kd.bool 4 w' w.heap.size (fun _ => True) v0_ r1 ∧ Kd.S (Kd.slice 3 (Kd.int .i64)) 67 w' w.heap.size (fun _ => True) v1_ r2 ∧ Below w.heap.size w w' := by
  have hu25 := Try.underlying25
  have hu27 := Try.underlying27
  have HR0_0 := Aside0.mk hr0_0
  have HC0_0 := Aside0.mk hc0_0
  clear hr0_0 hc0_0
  have HR0_1 := Aside0.mk hr0_1
  have HC0_1 := Aside0.mk hc0_1
  clear hr0_1 hc0_1
  have HB := Aside0.mk (Below.refl w.heap.size w)
  have H : ((laws_toBoolS.f k l0_0).bind fun t220 => ((laws_toIntSS.f k l0_1).bind fun t223 => (some (t220, t223)))) = some (r1, r2) := h
  clear h
  replace H := Option.bind_eq_some_iff.mp H
  obtain ⟨t220, A20, H⟩ := H
  replace H : ((laws_toIntSS.f k l0_1).bind fun t223 => (some (t220, t223))) = some (r1, r2) := H
  have A2 := Aside0.mk A20
  clear A20
  replace H := Option.bind_eq_some_iff.mp H
  obtain ⟨t223, A30, H⟩ := H
  replace H : (some (t220, t223)) = some (r1, r2) := H
  have A3 := Aside0.mk A30
  clear A30
  simp only [Option.some.injEq, Prod.mk.injEq] at H
  obtain ⟨rfl, rfl⟩ := H
  go_enter Try.func14, Try.ntmps14
  go_wp2_with (first | ((with_reducible refine gate_dst (N := 1) rfl ?_); refine box_event ?hg (N := 1) ?hd (cs := #[.slice A0_0 l0_0.length c0_0, .slice A0_1 l0_1.length c0_1]) (t := 25) ?hr ?_; (case hd => rfl); (case hg => rfl); (case hr => first | (go_simp; done) | (go_simp; rfl)); intro gb217 hg w4 hbox hb; have n0_ := Aside0.mk (below_step (by repeat (first | (with_reducible first | exact HB.out | apply below_alloc | apply pw_below_drewN | apply below_drew1) | exact HB.out)) hb); have n1_ := Aside0.mk (hbox); have n2_ := Aside0.mk ((by rw [hg]; exact (below_size (by repeat (first | (with_reducible first | exact HB.out | apply below_alloc | apply pw_below_drewN | apply below_drew1) | exact HB.out))) : w.heap.size ≤ gb217)); have n3_ := Aside0.mk ((by rw [hg]; exact (below_size (by repeat (first | (with_reducible first | exact HB.out | apply below_alloc | apply pw_below_drewN | apply below_drew1) | exact HB.out))) : w.heap.size ≤ gb217)); clear HB; have HB := n0_; have BK217 := n1_; have GW217 := n2_; have GE217 := n3_; clear n0_ n1_ n2_ n3_; clear hb hbox hg) | ((with_reducible refine gate_dst (N := 2) rfl ?_); refine box_event ?hg (N := 2) ?hd (cs := #[.slice none 0 0, .slice none 0 0]) (t := 27) ?hr ?_; (case hd => rfl); (case hg => rfl); (case hr => first | (go_simp; done) | (go_simp; rfl)); intro gb218 hg w5 hbox hb; have n0_ := Aside0.mk (blk_below (g := gb217) (o := .cells #[.slice A0_0 l0_0.length c0_0, .slice A0_1 l0_1.length c0_1] 25 (0, 0)) (by (with_reducible repeat (first | refine blk_drewN ?_ _ | refine blk_drew ?_ | refine blk_alloc ?_ _)); exact BK217.out) hb); have n1_ := Aside0.mk (below_step (by repeat (first | (with_reducible first | exact HB.out | apply below_alloc | apply pw_below_drewN | apply below_drew1 | refine below_set ?_ GE217.out) | exact HB.out)) hb); have n2_ := Aside0.mk (hbox); have n3_ := Aside0.mk ((by rw [hg]; exact (below_size (by repeat (first | (with_reducible first | exact HB.out | apply below_alloc | apply pw_below_drewN | apply below_drew1 | refine below_set ?_ GE217.out) | exact HB.out))) : w.heap.size ≤ gb218)); have n4_ := Aside0.mk ((by rw [hg]; exact (below_size (by repeat (first | (with_reducible first | exact HB.out | apply below_alloc | apply pw_below_drewN | apply below_drew1 | refine below_set ?_ GE217.out) | exact HB.out))) : w.heap.size ≤ gb218)); have n5_ := Aside0.mk ((by rw [hg]; exact Nat.ne_of_lt (blk_lt (g := gb217) (o := .cells #[.slice A0_0 l0_0.length c0_0, .slice A0_1 l0_1.length c0_1] 25 (0, 0)) (by (with_reducible repeat (first | refine blk_drewN ?_ _ | refine blk_drew ?_ | refine blk_alloc ?_ _)); exact BK217.out)) : gb217 ≠ gb218)); have n6_ := Aside0.mk ((by rw [hg]; exact Nat.ne_of_gt (blk_lt (g := gb217) (o := .cells #[.slice A0_0 l0_0.length c0_0, .slice A0_1 l0_1.length c0_1] 25 (0, 0)) (by (with_reducible repeat (first | refine blk_drewN ?_ _ | refine blk_drew ?_ | refine blk_alloc ?_ _)); exact BK217.out)) : gb218 ≠ gb217)); clear BK217; clear HB; have BK217 := n0_; have HB := n1_; have BK218 := n2_; have GW218 := n3_; have GE218 := n4_; have NB217_218 := n5_; have NB218_217 := n6_; clear n0_ n1_ n2_ n3_ n4_ n5_ n6_; clear hb hbox hg) | ((with_reducible refine gate_dst (N := 3) rfl ?_); refine box_event ?hg (N := 3) ?hd (cs := #[.slice none 0 0, .slice none 0 0]) (t := 27) ?hr ?_; (case hd => rfl); (case hg => rfl); (case hr => first | (go_simp; done) | (go_simp; rfl)); intro gb219 hg w6 hbox hb; have n0_ := Aside0.mk (blk_below (g := gb217) (o := .cells #[.slice A0_0 l0_0.length c0_0, .slice A0_1 l0_1.length c0_1] 25 (0, 0)) (by (with_reducible repeat (first | refine blk_drewN ?_ _ | refine blk_drew ?_ | refine blk_alloc ?_ _)); exact BK217.out) hb); have n1_ := Aside0.mk (blk_below (g := gb218) (o := .cells #[.slice none 0 0, .slice none 0 0] 27 (0, 0)) (by (with_reducible repeat (first | refine blk_drewN ?_ _ | refine blk_drew ?_ | refine blk_alloc ?_ _)); exact BK218.out) hb); have n2_ := Aside0.mk (below_step (by repeat (first | (with_reducible first | exact HB.out | apply below_alloc | apply pw_below_drewN | apply below_drew1 | refine below_set ?_ GE217.out | refine below_set ?_ GE218.out) | exact HB.out)) hb); have n3_ := Aside0.mk (hbox); have n4_ := Aside0.mk ((by rw [hg]; exact (below_size (by repeat (first | (with_reducible first | exact HB.out | apply below_alloc | apply pw_below_drewN | apply below_drew1 | refine below_set ?_ GE217.out | refine below_set ?_ GE218.out) | exact HB.out))) : w.heap.size ≤ gb219)); have n5_ := Aside0.mk ((by rw [hg]; exact (below_size (by repeat (first | (with_reducible first | exact HB.out | apply below_alloc | apply pw_below_drewN | apply below_drew1 | refine below_set ?_ GE217.out | refine below_set ?_ GE218.out) | exact HB.out))) : w.heap.size ≤ gb219)); have n6_ := Aside0.mk ((by rw [hg]; exact Nat.ne_of_lt (blk_lt (g := gb217) (o := .cells #[.slice A0_0 l0_0.length c0_0, .slice A0_1 l0_1.length c0_1] 25 (0, 0)) (by (with_reducible repeat (first | refine blk_drewN ?_ _ | refine blk_drew ?_ | refine blk_alloc ?_ _)); exact BK217.out)) : gb217 ≠ gb219)); have n7_ := Aside0.mk ((by rw [hg]; exact Nat.ne_of_gt (blk_lt (g := gb217) (o := .cells #[.slice A0_0 l0_0.length c0_0, .slice A0_1 l0_1.length c0_1] 25 (0, 0)) (by (with_reducible repeat (first | refine blk_drewN ?_ _ | refine blk_drew ?_ | refine blk_alloc ?_ _)); exact BK217.out)) : gb219 ≠ gb217)); have n8_ := Aside0.mk ((by rw [hg]; exact Nat.ne_of_lt (blk_lt (g := gb218) (o := .cells #[.slice none 0 0, .slice none 0 0] 27 (0, 0)) (by (with_reducible repeat (first | refine blk_drewN ?_ _ | refine blk_drew ?_ | refine blk_alloc ?_ _)); exact BK218.out)) : gb218 ≠ gb219)); have n9_ := Aside0.mk ((by rw [hg]; exact Nat.ne_of_gt (blk_lt (g := gb218) (o := .cells #[.slice none 0 0, .slice none 0 0] 27 (0, 0)) (by (with_reducible repeat (first | refine blk_drewN ?_ _ | refine blk_drew ?_ | refine blk_alloc ?_ _)); exact BK218.out)) : gb219 ≠ gb218)); clear BK217; clear BK218; clear HB; have BK217 := n0_; have BK218 := n1_; have HB := n2_; have BK219 := n3_; have GW219 := n4_; have GE219 := n5_; have NB217_219 := n6_; have NB219_217 := n7_; have NB218_219 := n8_; have NB219_218 := n9_; clear n0_ n1_ n2_ n3_ n4_ n5_ n6_ n7_ n8_ n9_; clear hb hbox hg; have hnb7 := NB217_218.out; have hnc7 := NB218_217.out; have hnb8 := NB217_219.out; have hnc8 := NB219_217.out; have hcz9_0 : w6.cell? ⟨gb217, 0, none⟩ = some (.slice A0_0 l0_0.length c0_0) := (blk_cell BK217.out 0).trans rfl; have hcz9_1 : w6.cell? ⟨gb217, 1, none⟩ = some (.slice A0_1 l0_1.length c0_1) := (blk_cell BK217.out 1).trans rfl; have hfz9_0 := blk_frozen BK217.out 0; have hfz9_1 := blk_frozen BK217.out 1) | ((with_reducible refine gate_callee (f := 54) rfl ?_); refine goesL_ (some 6) rfl rfl Try.func54 (by kernel_rfl) rfl #[.slice A0_0 l0_0.length c0_0] rfl (by (try simp only [List.map_toArray, List.map_cons, List.map_nil]); first | done | rfl | (simp only [List.length_drop, List.length_take]; rfl)) ?_; (with_reducible refine (laws_toBoolS.calls k _ _ l0_0 t220 _ ?side1 ?side2 A2.out).mono ?_); (case side1 => repeat (first | exact (Kd.C_below HR0_0.out HB.out) | (with_reducible refine Kd.C_alloc ?_ _) | (with_reducible refine Kd.C_drewN ?_ _) | (with_reducible refine Kd.C_drew ?_))); (case side2 => exact HC0_0.out); rintro e w10 ⟨v221, rfl, ho0, hb⟩; refine ⟨_, rfl, ?_⟩; have n0_ := Aside0.mk (Kd.R_lower ho0 (below_size (by repeat (first | (with_reducible first | exact HB.out | apply below_alloc | apply pw_below_drewN | apply below_drew1 | refine below_set ?_ GE217.out | refine below_set ?_ GE218.out | refine below_set ?_ GE219.out) | exact HB.out)))); have n1_ := Aside0.mk (blk_below (g := gb217) (o := .cells #[.slice A0_0 l0_0.length c0_0, .slice A0_1 l0_1.length c0_1] 25 (0, 0)) (by (with_reducible repeat (first | refine blk_drewN ?_ _ | refine blk_drew ?_ | refine blk_alloc ?_ _)); exact BK217.out) hb); have n2_ := Aside0.mk (blk_below (g := gb218) (o := .cells #[.slice none 0 0, .slice none 0 0] 27 (0, 0)) (by (with_reducible repeat (first | refine blk_drewN ?_ _ | refine blk_drew ?_ | refine blk_alloc ?_ _)); exact BK218.out) hb); have n3_ := Aside0.mk (blk_below (g := gb219) (o := .cells #[.slice none 0 0, .slice none 0 0] 27 (0, 0)) (by (with_reducible repeat (first | refine blk_drewN ?_ _ | refine blk_drew ?_ | refine blk_alloc ?_ _)); exact BK219.out) hb); have n4_ := Aside0.mk (below_step (by repeat (first | (with_reducible first | exact HB.out | apply below_alloc | apply pw_below_drewN | apply below_drew1 | refine below_set ?_ GE217.out | refine below_set ?_ GE218.out | refine below_set ?_ GE219.out) | exact HB.out)) hb); clear BK217; clear BK218; clear BK219; clear HB; have HO222 := n0_; have BK217 := n1_; have BK218 := n2_; have BK219 := n3_; have HB := n4_; clear n0_ n1_ n2_ n3_ n4_; (try clear hb); (try clear hb2); (try clear hk); (try clear hi); (try clear ho0); obtain ⟨Ao11, co11, eo11⟩ := Kd.R_slice HO222.out; subst eo11; have hnb12 := NB219_218.out; have hnc12 := NB218_219.out; have hcz13_0 : w10.cell? ⟨gb219, 0, none⟩ = some (.slice none 0 0) := (blk_cell BK219.out 0).trans rfl; have hcz13_1 : w10.cell? ⟨gb219, 1, none⟩ = some (.slice none 0 0) := (blk_cell BK219.out 1).trans rfl; have hfz13_0 := blk_frozen BK219.out 0; have hfz13_1 := blk_frozen BK219.out 1; have hcz14_0 : w10.cell? ⟨gb217, 0, none⟩ = some (.slice A0_0 l0_0.length c0_0) := (blk_cell BK217.out 0).trans rfl; have hcz14_1 : w10.cell? ⟨gb217, 1, none⟩ = some (.slice A0_1 l0_1.length c0_1) := (blk_cell BK217.out 1).trans rfl; have hfz14_0 := blk_frozen BK217.out 0; have hfz14_1 := blk_frozen BK217.out 1) | ((with_reducible refine gate_callee (f := 55) rfl ?_); refine goesL_ (some 10) rfl rfl Try.func55 (by kernel_rfl) rfl #[.slice A0_1 l0_1.length c0_1] rfl (by (try simp only [List.map_toArray, List.map_cons, List.map_nil]); first | done | rfl | (simp only [List.length_drop, List.length_take]; rfl)) ?_; (with_reducible refine (laws_toIntSS.calls k _ _ l0_1 t223 _ ?side1 ?side2 A3.out).mono ?_); (case side1 => exact Kd.C_below HR0_1.out (by repeat (first | (with_reducible first | exact HB.out | apply below_alloc | apply pw_below_drewN | apply below_drew1 | refine below_set ?_ GE217.out | refine below_set ?_ GE218.out | refine below_set ?_ GE219.out) | exact HB.out))); (case side2 => exact HC0_1.out); rintro e w15 ⟨v224, rfl, ho0, hb⟩; refine ⟨_, rfl, ?_⟩; have n0_ := Aside0.mk (Kd.R_below (by (with_reducible repeat (first | apply Kd.R_alloc | apply Kd.R_drewN | apply Kd.R_drew)); exact (Kd.R_mono (Kd.R_far (p := ⟨gb219, 0, none⟩) (Kd.R_types HO222.out BK219.out (by decide)) (fun _ hk => hk.2) (.slice Ao11 t220.length co11)) (fun _ h_ => h_.1))) hb); have n1_ := Aside0.mk (Kd.S_lower ho0 (below_size (by repeat (first | (with_reducible first | exact HB.out | apply below_alloc | apply pw_below_drewN | apply below_drew1 | refine below_set ?_ GE217.out | refine below_set ?_ GE218.out | refine below_set ?_ GE219.out) | exact HB.out)))); have n2_ := Aside0.mk (blk_below (g := gb217) (o := .cells #[.slice A0_0 l0_0.length c0_0, .slice A0_1 l0_1.length c0_1] 25 (0, 0)) (by (with_reducible repeat (first | refine blk_drewN ?_ _ | refine blk_drew ?_ | refine blk_alloc ?_ _)); refine blk_far ?_ NB217_219.out _; (with_reducible repeat (first | refine blk_drewN ?_ _ | refine blk_drew ?_ | refine blk_alloc ?_ _)); exact BK217.out) hb); have n3_ := Aside0.mk (blk_below (g := gb218) (o := .cells #[.slice none 0 0, .slice none 0 0] 27 (0, 0)) (by (with_reducible repeat (first | refine blk_drewN ?_ _ | refine blk_drew ?_ | refine blk_alloc ?_ _)); refine blk_far ?_ NB218_219.out _; (with_reducible repeat (first | refine blk_drewN ?_ _ | refine blk_drew ?_ | refine blk_alloc ?_ _)); exact BK218.out) hb); have n4_ := Aside0.mk (blk_below (g := gb219) (o := .cells #[.slice Ao11 t220.length co11, .slice none 0 0] 27 (0, 0)) (by (with_reducible repeat (first | refine blk_drewN ?_ _ | refine blk_drew ?_ | refine blk_alloc ?_ _)); refine blk_put (cs := #[.slice none 0 0, .slice none 0 0]) ?_ 0 _ rfl; (with_reducible repeat (first | refine blk_drewN ?_ _ | refine blk_drew ?_ | refine blk_alloc ?_ _)); exact BK219.out) hb); have n5_ := Aside0.mk (below_step (by repeat (first | (with_reducible first | exact HB.out | apply below_alloc | apply pw_below_drewN | apply below_drew1 | refine below_set ?_ GE217.out | refine below_set ?_ GE218.out | refine below_set ?_ GE219.out) | exact HB.out)) hb); clear HO222; clear BK217; clear BK218; clear BK219; clear HB; have HO222 := n0_; have HO225 := n1_; have BK217 := n2_; have BK218 := n3_; have BK219 := n4_; have HB := n5_; clear n0_ n1_ n2_ n3_ n4_ n5_; (try clear hb); (try clear hb2); (try clear hk); (try clear hi); (try clear ho0); obtain ⟨Ao16, co16, eo16⟩ := Kd.S_slice HO225.out; subst eo16; have hcz17_0 : w15.cell? ⟨gb219, 0, none⟩ = some (.slice Ao11 t220.length co11) := (blk_cell BK219.out 0).trans rfl; have hcz17_1 : w15.cell? ⟨gb219, 1, none⟩ = some (.slice none 0 0) := (blk_cell BK219.out 1).trans rfl; have hfz17_0 := blk_frozen BK219.out 0; have hfz17_1 := blk_frozen BK219.out 1; have hcz18_0 : w15.cell? ⟨gb218, 0, none⟩ = some (.slice none 0 0) := (blk_cell BK218.out 0).trans rfl; have hcz18_1 : w15.cell? ⟨gb218, 1, none⟩ = some (.slice none 0 0) := (blk_cell BK218.out 1).trans rfl; have hfz18_0 := blk_frozen BK218.out 0; have hfz18_1 := blk_frozen BK218.out 1))
  refine bodyPost_ret (results_cell_row rfl _ _ gb218 27 #[.slice Ao11 t220.length co11, .slice Ao16 t223.length co16] (0, 0) _ rfl (by (with_reducible repeat (first | refine blk_drewN ?_ _ | refine blk_drew ?_ | refine blk_alloc ?_ _)); refine blk_put (cs := #[.slice Ao11 t220.length co11, .slice none 0 0]) ?_ 1 _ rfl; (with_reducible repeat (first | refine blk_drewN ?_ _ | refine blk_drew ?_ | refine blk_alloc ?_ _)); refine blk_put (cs := #[.slice none 0 0, .slice none 0 0]) ?_ 0 _ rfl; (with_reducible repeat (first | refine blk_drewN ?_ _ | refine blk_drew ?_ | refine blk_alloc ?_ _)); refine blk_far ?_ NB218_219.out _; (with_reducible repeat (first | refine blk_drewN ?_ _ | refine blk_drew ?_ | refine blk_alloc ?_ _)); exact BK218.out) Try.underlying27 rfl (by kernel_rfl)) rfl ?_
  exact ⟨_, _, by first | rfl | (simp [errW_none, errW_some] <;> rfl) | (simp [*, errW_none, errW_some] <;> rfl), by (with_reducible repeat (first | apply Kd.R_alloc | apply Kd.R_drewN | apply Kd.R_drew)); exact Kd.R_mono (Kd.R_far (p := ⟨gb218, 1, none⟩) (Kd.R_far (p := ⟨gb218, 0, none⟩) (Kd.R_far (p := ⟨gb219, 1, none⟩) (Kd.R_types (Kd.R_types HO222.out BK219.out (by decide)) BK218.out (by decide)) (fun _ hk => hk.1.2) (.slice Ao16 t223.length co16)) (fun _ hk => hk.2) (.slice Ao11 t220.length co11)) (fun _ hk => hk.2) (.slice Ao16 t223.length co16)) (fun _ hk => trivial), by (with_reducible repeat (first | apply Kd.S_alloc | apply Kd.S_drewN | apply Kd.S_drew)); exact Kd.S_mono (Kd.S_far (p := ⟨gb218, 1, none⟩) (Kd.S_far (p := ⟨gb218, 0, none⟩) (Kd.S_far (p := ⟨gb219, 1, none⟩) (Kd.S_types (Kd.S_types HO225.out BK219.out (by decide)) BK218.out (by decide)) (fun _ hk => hk.1.2) (.slice Ao16 t223.length co16)) (fun _ hk => hk.2) (.slice Ao11 t220.length co11)) (fun _ hk => hk.2) (.slice Ao16 t223.length co16)) (fun _ hk => trivial), by repeat (first | (with_reducible first | exact HB.out | apply below_alloc | apply pw_below_drewN | apply below_drew1 | refine below_set ?_ GE217.out | refine below_set ?_ GE218.out | refine below_set ?_ GE219.out) | exact HB.out)⟩
def impl_within.f (a0 : Int) (a1 : Int) (a2 : Int) : Option (Bool) := if a0 ≥ a1 then (some (decide (a0 ≤ a2))) else (some false)
set_option maxHeartbeats 8000000 in
set_option maxRecDepth 100000 in
theorem impl_within.calls (a0 : Int) (a1 : Int) (a2 : Int) (r : Bool) (w : World) (h : impl_within.f a0 a1 a2 = some r) :
    Calls Try.prog 101 #[.int .i64 a0, .int .i64 a1, .int .i64 a2] w fun e w' => e = .returned (.bool r) ∧ Drawn0 w w' := by
  have H : (if a0 ≥ a1 then (some (decide (a0 ≤ a2))) else (some false)) = some r := h
  clear h
  by_cases c4 : a0 ≥ a1
  · rw [if_pos c4] at H
    have c4b0 : decide (a1 ≤ a0) = true := decide_eq_true c4
    clear c4
    obtain rfl := Option.some.inj H
    simp only [Option.some.injEq, Prod.mk.injEq] at H
    obtain ⟨rfl⟩ := H
    go_enter Try.func101, Try.ntmps101
    go_wp2
    go_ret
    exact ⟨by first | rfl | (simp; done) | (simp [*]; done), by repeat (first | exact Drawn0.refl _ | apply Drawn0.step)⟩
  · rw [if_neg c4] at H
    have c4b0 : decide (a1 ≤ a0) = false := decide_eq_false c4
    clear c4
    obtain rfl := Option.some.inj H
    simp only [Option.some.injEq, Prod.mk.injEq] at H
    obtain ⟨rfl⟩ := H
    go_enter Try.func101, Try.ntmps101
    go_wp2
    go_ret
    exact ⟨by first | rfl | (simp; done) | (simp [*]; done), by repeat (first | exact Drawn0.refl _ | apply Drawn0.step)⟩
end Go.Proofs.Ytogamkblkoobkaa.P
end
section
namespace Go.Proofs.Ytogamkblkoobkaa.Wk
open Go.RowKit Go.Shelf Go.Proofs.Ytogamkblkoobkaa.P Go.Proofs.YtogamkblkoobkaaW.PrintWords Go.Proofs.YtogamkblkoobkaaW.PrintLast Go.Proofs.YtogamkblkoobkaaW.PrintMore
set_option linter.unusedVariables false
set_option linter.unusedSimpArgs false
def Hit (p : Nat → Bool) (n : Nat) (r : Int) : Prop := decide (0 ≤ r) = (List.range n).any p
def Told (P : Int → Prop) (w : World) (e : Ending) (w' : World) : Prop := ∃ r : Int, e = .returned (.int .i64 r) ∧ P r ∧ Below w.heap.size w w'
theorem hit_at {p : Nat → Bool} {n k : Nat} (h : k < n) (hp : p k = true) : Hit p n (k : Int) := by
  unfold Hit
  rw [decide_eq_true (by omega), eq_comm, List.any_eq_true]
  exact ⟨k, List.mem_range.mpr h, hp⟩
theorem hit_none {p : Nat → Bool} {n : Nat} (h : ∀ j, j < n → p j = false) : Hit p n (-1) := by
  unfold Hit
  rw [decide_eq_false (by omega), eq_comm, List.any_eq_false]
  intro x hx
  rw [h x (List.mem_range.mp hx)]
  simp
set_option maxHeartbeats 2000000 in
theorem indexRows {vals : Nat → Value} {p : Nat → Bool} (A : Option Addr) (n c g : Nat) (lb : Array Value) (eg : ∀ args w, (callFunc g args).run Try.prog w = .ok (.enter g args) w) (w : World) (hn : n ≤ 9223372036854775807)
    (hc : 0 < n → ∃ ad : Addr, A = some ad ∧ ∀ j, j < n → w.cell? (ad.add j) = some (vals j))
    (hp : ∀ j, j < n → ∀ W, Below w.heap.size w W → Calls Try.prog g (#[vals j] ++ lb) W fun e W' => e = .returned (.bool (p j)) ∧ Below W.heap.size W W') :
    Calls Try.prog 127 #[.slice A n c, .func (.func g) #[] lb] w (Told (Hit p n) w) := by
  rcases Nat.eq_zero_or_pos n with h0 | h0
  · subst h0
    clear hc hp
    go_enter Try.func127, Try.ntmps127
    go_wp2
    go_loopg [5, 8] 0 (fun _ _ s8 wr => s8 = .int .i64 0 ∧ wr = w)
    case atStart => exact ⟨rfl, rfl⟩
    case round =>
      obtain ⟨rfl, rfl⟩ := hrel
      go_wp2
      go_ret
      exact ⟨-1, rfl, hit_none (fun j hj => by omega), Below.refl _ _⟩
  · obtain ⟨ad, rfl, hcc⟩ := hc h0
    clear hc
    have HC := Aside0.mk hcc
    clear hcc
    have HP := Aside0.mk hp
    clear hp
    go_enter Try.func127, Try.ntmps127
    go_wp2
    go_loopg [5, 8] n (fun gg _ s8 wr => ∃ kk : Nat, s8 = .int .i64 kk ∧ Aside0 (kk ≤ n) ∧ Aside0 (n - kk ≤ gg) ∧ Aside0 (Below w.heap.size w wr) ∧ Aside0 (∀ j, j < kk → p j = false))
    case atStart => exact ⟨0, rfl, ⟨Nat.zero_le _⟩, ⟨by omega⟩, ⟨Below.refl _ _⟩, ⟨fun j hj => absurd hj (Nat.not_lt_zero _)⟩⟩
    case round =>
      obtain ⟨kk, rfl, HK, HG, HB, HQ⟩ := hrel
      by_cases hlt : kk < n
      · have hltz : (kk : Int) < (n : Int) := by omega
        have hcell : wr.cell? (ad.add kk) = some (vals kk) := pw_cell_below HB.out (HC.out kk hlt)
        have hcall := Aside0.mk (HP.out kk hlt)
        generalize hy : vals kk = y at hcell hcall
        clear hy
        cases hq : p kk with
        | true =>
          rw [hq] at hcall
          have HQ1 := Aside0.mk hq
          clear hq
          go_wp2_with (go_at_fn g; refine (hcall.out _ (by exact HB.out)).mono ?_; rintro e w' ⟨rfl, hb⟩; have HB2 := Aside0.mk hb; clear hb)
          go_ret
          exact ⟨kk, rfl, hit_at hlt HQ1.out, below_then HB.out HB.out.size HB2.out⟩
        | false =>
          rw [hq] at hcall
          have HQ1 := Aside0.mk hq
          clear hq
          go_wp2_with (go_at_fn g; refine (hcall.out _ (by exact HB.out)).mono ?_; rintro e w' ⟨rfl, hb⟩; have HB2 := Aside0.mk hb; clear hb)
          go_roundg (n - (kk + 1))
          case measure => have := HG.out; omega
          case rel =>
            refine ⟨kk + 1, by go_num, ⟨by omega⟩, ⟨by omega⟩, ⟨below_then HB.out HB.out.size HB2.out⟩, ⟨fun j hj => ?_⟩⟩
            by_cases e : j = kk
            · subst e; exact HQ1.out
            · exact HQ.out j (by omega)
      · have hltz : ¬ (kk : Int) < (n : Int) := by omega
        have e : kk = n := by have := HK.out; omega
        subst e
        go_wp2
        go_ret
        exact ⟨-1, rfl, hit_none HQ.out, HB.out⟩
set_option maxHeartbeats 2000000 in
theorem containsRows {vals : Nat → Value} {p : Nat → Bool} (A : Option Addr) (n c g : Nat) (lb : Array Value) (eg : ∀ args w, (callFunc g args).run Try.prog w = .ok (.enter g args) w) (w : World) (hn : n ≤ 9223372036854775807)
    (hc : 0 < n → ∃ ad : Addr, A = some ad ∧ ∀ j, j < n → w.cell? (ad.add j) = some (vals j))
    (hp : ∀ j, j < n → ∀ W, Below w.heap.size w W → Calls Try.prog g (#[vals j] ++ lb) W fun e W' => e = .returned (.bool (p j)) ∧ Below W.heap.size W W') :
    Calls Try.prog 102 #[.slice A n c, .func (.func g) #[] lb] w fun e w' => e = .returned (.bool ((List.range n).any p)) ∧ Below w.heap.size w w' := by
  have h := indexRows A n c g lb eg w hn hc hp
  clear hc hp eg
  have HC := Aside0.mk h
  clear h
  go_enter Try.func102, Try.ntmps102
  go_wp2_with (go_at_call 127; refine HC.out.mono ?_; rintro e w' ⟨r, rfl, hr, hb⟩; have HR := Aside0.mk hr; clear hr; have HB := Aside0.mk hb; clear hb)
  go_ret
  have e := HR.out
  unfold Hit at e
  rw [← e]
  exact ⟨rfl, HB.out⟩
set_option maxHeartbeats 2000000 in
theorem indexNums {vals : Nat → Value} {p : Nat → Bool} (A : Option Addr) (n c g : Nat) (lb : Array Value) (eg : ∀ args w, (callFunc g args).run Try.prog w = .ok (.enter g args) w) (w : World) (hn : n ≤ 9223372036854775807)
    (hc : 0 < n → ∃ ad : Addr, A = some ad ∧ ∀ j, j < n → w.cell? (ad.add j) = some (vals j))
    (hp : ∀ j, j < n → ∀ W, Below w.heap.size w W → Calls Try.prog g (#[vals j] ++ lb) W fun e W' => e = .returned (.bool (p j)) ∧ Below W.heap.size W W') :
    Calls Try.prog 128 #[.slice A n c, .func (.func g) #[] lb] w (Told (Hit p n) w) := by
  rcases Nat.eq_zero_or_pos n with h0 | h0
  · subst h0
    clear hc hp
    go_enter Try.func128, Try.ntmps128
    go_wp2
    go_loopg [5, 8] 0 (fun _ _ s8 wr => s8 = .int .i64 0 ∧ wr = w)
    case atStart => exact ⟨rfl, rfl⟩
    case round =>
      obtain ⟨rfl, rfl⟩ := hrel
      go_wp2
      go_ret
      exact ⟨-1, rfl, hit_none (fun j hj => by omega), Below.refl _ _⟩
  · obtain ⟨ad, rfl, hcc⟩ := hc h0
    clear hc
    have HC := Aside0.mk hcc
    clear hcc
    have HP := Aside0.mk hp
    clear hp
    go_enter Try.func128, Try.ntmps128
    go_wp2
    go_loopg [5, 8] n (fun gg _ s8 wr => ∃ kk : Nat, s8 = .int .i64 kk ∧ Aside0 (kk ≤ n) ∧ Aside0 (n - kk ≤ gg) ∧ Aside0 (Below w.heap.size w wr) ∧ Aside0 (∀ j, j < kk → p j = false))
    case atStart => exact ⟨0, rfl, ⟨Nat.zero_le _⟩, ⟨by omega⟩, ⟨Below.refl _ _⟩, ⟨fun j hj => absurd hj (Nat.not_lt_zero _)⟩⟩
    case round =>
      obtain ⟨kk, rfl, HK, HG, HB, HQ⟩ := hrel
      by_cases hlt : kk < n
      · have hltz : (kk : Int) < (n : Int) := by omega
        have hcell : wr.cell? (ad.add kk) = some (vals kk) := pw_cell_below HB.out (HC.out kk hlt)
        have hcall := Aside0.mk (HP.out kk hlt)
        generalize hy : vals kk = y at hcell hcall
        clear hy
        cases hq : p kk with
        | true =>
          rw [hq] at hcall
          have HQ1 := Aside0.mk hq
          clear hq
          go_wp2_with (go_at_fn g; refine (hcall.out _ (by exact HB.out)).mono ?_; rintro e w' ⟨rfl, hb⟩; have HB2 := Aside0.mk hb; clear hb)
          go_ret
          exact ⟨kk, rfl, hit_at hlt HQ1.out, below_then HB.out HB.out.size HB2.out⟩
        | false =>
          rw [hq] at hcall
          have HQ1 := Aside0.mk hq
          clear hq
          go_wp2_with (go_at_fn g; refine (hcall.out _ (by exact HB.out)).mono ?_; rintro e w' ⟨rfl, hb⟩; have HB2 := Aside0.mk hb; clear hb)
          go_roundg (n - (kk + 1))
          case measure => have := HG.out; omega
          case rel =>
            refine ⟨kk + 1, by go_num, ⟨by omega⟩, ⟨by omega⟩, ⟨below_then HB.out HB.out.size HB2.out⟩, ⟨fun j hj => ?_⟩⟩
            by_cases e : j = kk
            · subst e; exact HQ1.out
            · exact HQ.out j (by omega)
      · have hltz : ¬ (kk : Int) < (n : Int) := by omega
        have e : kk = n := by have := HK.out; omega
        subst e
        go_wp2
        go_ret
        exact ⟨-1, rfl, hit_none HQ.out, HB.out⟩
set_option maxHeartbeats 2000000 in
theorem containsNums {vals : Nat → Value} {p : Nat → Bool} (A : Option Addr) (n c g : Nat) (lb : Array Value) (eg : ∀ args w, (callFunc g args).run Try.prog w = .ok (.enter g args) w) (w : World) (hn : n ≤ 9223372036854775807)
    (hc : 0 < n → ∃ ad : Addr, A = some ad ∧ ∀ j, j < n → w.cell? (ad.add j) = some (vals j))
    (hp : ∀ j, j < n → ∀ W, Below w.heap.size w W → Calls Try.prog g (#[vals j] ++ lb) W fun e W' => e = .returned (.bool (p j)) ∧ Below W.heap.size W W') :
    Calls Try.prog 104 #[.slice A n c, .func (.func g) #[] lb] w fun e w' => e = .returned (.bool ((List.range n).any p)) ∧ Below w.heap.size w w' := by
  have h := indexNums A n c g lb eg w hn hc hp
  clear hc hp eg
  have HC := Aside0.mk h
  clear h
  go_enter Try.func104, Try.ntmps104
  go_wp2_with (go_at_call 128; refine HC.out.mono ?_; rintro e w' ⟨r, rfl, hr, hb⟩; have HR := Aside0.mk hr; clear hr; have HB := Aside0.mk hb; clear hb)
  go_ret
  have e := HR.out
  unfold Hit at e
  rw [← e]
  exact ⟨rfl, HB.out⟩
def badState (n q : Int) : Bool := !decide (0 ≤ q) || !decide (q ≤ n - 1)
def badRow (n : Int) (row : List Int) : Bool := decide (row.length ≠ 3) || row.any (badState n)
def validD (acc : List Bool) (nxt : List (List Int)) : Bool := decide (1 ≤ acc.length) && decide (acc.length ≤ 40) && decide (nxt.length = acc.length) && !(nxt.any (badRow acc.length))
set_option maxHeartbeats 2000000 in
theorem inner (q : Int) (n : Int) (B : Nat) (hn0 : 1 ≤ n) (hn : n ≤ 40) (w : World) (hc : w.cell? ⟨B, 0, none⟩ = some (.int .i64 n)) :
    Calls Try.prog 105 #[.int .i64 q, .pointer (some ⟨B, 0, none⟩)] w fun e w' => e = .returned (.bool (badState n q)) ∧ Below w.heap.size w w' := by
  have H1 := fun W => impl_within.calls q 0 (n - 1) (decide (0 ≤ q) && decide (q ≤ n - 1)) W (by unfold impl_within.f; by_cases h : q ≥ 0 <;> simp [h])
  have HC := Aside0.mk H1
  clear H1
  go_enter Try.func105, Try.ntmps105
  go_wp2_with (go_at_call 101; refine (HC.out _).mono ?_; rintro e w' ⟨rfl, ⟨m, rfl⟩⟩)
  go_ret
  exact ⟨rfl, (Drawn0.below ⟨⟨_, rfl⟩⟩)⟩
theorem cellsInt {k : IntKind} {w : World} {A : Option Addr} {n : Nat} {xs : List Int} (h : Kd.C (Kd.int k) w A n xs) : 0 < n → ∃ ad : Addr, A = some ad ∧ ∀ j, j < n → w.cell? (ad.add j) = some (.int k (xs.getD j 0)) := by
  intro h0
  obtain ⟨ad, e, hc⟩ := h.2.2 h0
  refine ⟨ad, e, fun j hj => ?_⟩
  have hl : j < xs.length := by rw [h.1]; exact hj
  obtain ⟨c, hs, hr, hcell⟩ := hc j xs[j] (List.getElem?_eq_getElem hl)
  have hr' : c = [.int k xs[j]] := hr
  subst hr'
  have := hcell 0 _ rfl
  rw [show (Kd.int k).sz = 1 from rfl, Nat.mul_one, Nat.add_zero] at this
  rw [this, List.getD_eq_getElem?_getD, List.getElem?_eq_getElem hl]
  rfl
theorem cellsRows {e : Nat} {w : World} {A : Option Addr} {n : Nat} {xs : List (List Int)} (h : Kd.C (Kd.slice e (Kd.int .i64)) w A n xs) : 0 < n → ∃ ad : Addr, A = some ad ∧ ∀ j, j < n → ∃ A0 c0, w.cell? (ad.add j) = some (.slice A0 (xs.getD j []).length c0) ∧ Kd.C (Kd.int .i64) w A0 (xs.getD j []).length (xs.getD j []) := by
  intro h0
  obtain ⟨ad, ea, hc⟩ := h.2.2 h0
  refine ⟨ad, ea, fun j hj => ?_⟩
  have hl : j < xs.length := by rw [h.1]; exact hj
  obtain ⟨c, hs, hr, hcell⟩ := hc j xs[j] (List.getElem?_eq_getElem hl)
  obtain ⟨A0, c0, rfl, h1, h2⟩ := hr
  have := hcell 0 _ rfl
  rw [show (Kd.slice e (Kd.int .i64)).sz = 1 from rfl, Nat.mul_one, Nat.add_zero] at this
  rw [List.getD_eq_getElem?_getD, List.getElem?_eq_getElem hl]
  exact ⟨A0, c0, this, h2⟩
theorem any_range {α : Type} (z : α) (xs : List α) (f : α → Bool) : (List.range xs.length).any (fun j => f (xs.getD j z)) = xs.any f := by
  rw [Bool.eq_iff_iff, List.any_eq_true, List.any_eq_true]
  constructor
  · rintro ⟨j, hj, h⟩
    have hl := List.mem_range.mp hj
    rw [List.getD_eq_getElem?_getD, List.getElem?_eq_getElem hl] at h
    exact ⟨xs[j], List.getElem_mem _, h⟩
  · rintro ⟨x, hx, h⟩
    obtain ⟨j, hj, rfl⟩ := List.mem_iff_getElem.mp hx
    refine ⟨j, List.mem_range.mpr hj, ?_⟩
    rw [List.getD_eq_getElem?_getD, List.getElem?_eq_getElem hj]
    exact h
set_option maxHeartbeats 2000000 in
theorem outer (row : List Int) (A : Option Addr) (c : Nat) (n : Int) (B : Nat) (hn0 : 1 ≤ n) (hn : n ≤ 40) (w : World) (hB : B < w.heap.size) (hc : w.cell? ⟨B, 0, none⟩ = some (.int .i64 n)) (hr : Kd.C (Kd.int .i64) w A row.length row) :
    Calls Try.prog 103 #[.slice A row.length c, .pointer (some ⟨B, 0, none⟩)] w fun e w' => e = .returned (.bool (badRow n row)) ∧ Below w.heap.size w w' := by
  have hlen := hr.2.1
  by_cases h3 : row.length = 3
  · have hp : ∀ j, j < row.length → ∀ W, Below w.heap.size w W → Calls Try.prog 105 (#[.int .i64 (row.getD j 0)] ++ #[.pointer (some ⟨B, 0, none⟩)]) W fun e W' => e = .returned (.bool (badState n (row.getD j 0))) ∧ Below W.heap.size W W' :=
      fun j hj W hb => inner _ n B hn0 hn W ((hb.cell (p := ⟨B, 0, none⟩) hB).trans hc)
    have hcon := fun W (hb : Below w.heap.size w W) => containsNums (vals := fun j => .int .i64 (row.getD j 0)) (p := fun j => badState n (row.getD j 0)) A row.length c 105 #[.pointer (some ⟨B, 0, none⟩)]
      (enters_of Try.func105 (by kernel_rfl) rfl) W hlen (cellsInt (Kd.C_below hr hb)) (fun j hj W' hb' => hp j hj W' (below_then hb hb.size hb'))
    have HC := Aside0.mk hcon
    have e3 : badRow n row = (List.range row.length).any (fun j => badState n (row.getD j 0)) := by
      rw [any_range 0 row (badState n)]
      simp [badRow, h3]
    have E3 := Aside0.mk e3
    clear hcon hp hr hc e3
    have t3 : ((row.length : Int) != 3) = false := by rw [bne_eq_false_iff_eq]; omega
    clear h3 hlen
    go_enter Try.func103, Try.ntmps103
    go_wp2_with (go_at_call 104; refine (HC.out _ (by exact Below.refl _ _)).mono ?_; rintro e w' ⟨rfl, hb⟩; have HB := Aside0.mk hb; clear hb)
    go_ret
    rw [E3.out]
    exact ⟨rfl, HB.out⟩
  · have e3 : badRow n row = true := by simp [badRow, h3]
    have E3 := Aside0.mk e3
    have t3 : ((row.length : Int) != 3) = true := by rw [bne_iff_ne]; omega
    clear h3 e3 hr
    go_enter Try.func103, Try.ntmps103
    go_wp2
    go_ret
    rw [E3.out]
    exact ⟨rfl, Below.refl _ _⟩
theorem rowsContain (A1 : Option Addr) (c1 : Nat) (l1 : List (List Int)) (n : Int) (hn0 : 1 ≤ n) (hn : n ≤ 40) (w : World) (hr1 : Kd.C (Kd.slice 3 (Kd.int .i64)) w A1 l1.length l1) (B : Nat) (W : World) (hb : Below w.heap.size w W) (hB : B < W.heap.size) (hc : W.cell? ⟨B, 0, none⟩ = some (.int .i64 n)) :
    Calls Try.prog 102 #[.slice A1 l1.length c1, .func (.func 103) #[] #[.pointer (some ⟨B, 0, none⟩)]] W fun e w' => e = .returned (.bool (l1.any (badRow n))) ∧ Below W.heap.size W w' := by
  have hl := hr1.2.1
  have hW := Kd.C_below hr1 hb
  rw [← any_range [] l1 (badRow n)]
  rcases Nat.eq_zero_or_pos l1.length with h0 | h0
  · refine containsRows (vals := fun _ => .bool false) (p := fun j => badRow n (l1.getD j [])) A1 l1.length c1 103 _ (enters_of Try.func103 (by kernel_rfl) rfl) W hl (fun h => by omega) (fun j hj => by omega)
  · obtain ⟨ad, rfl, hcell⟩ := cellsRows hW h0
    refine containsRows (vals := fun j => (W.cell? (ad.add j)).getD (.bool false)) (p := fun j => badRow n (l1.getD j [])) _ l1.length c1 103 _ (enters_of Try.func103 (by kernel_rfl) rfl) W hl (fun _ => ⟨ad, rfl, fun j hj => ?_⟩) (fun j hj W' hb' => ?_)
    · obtain ⟨Aj, cj, h1, _⟩ := hcell j hj
      rw [h1]
      rfl
    · obtain ⟨Aj, cj, h1, h2⟩ := hcell j hj
      simp only [h1, Option.getD_some]
      exact outer (l1.getD j []) Aj cj n B hn0 hn W' (Nat.lt_of_lt_of_le hB hb'.size) ((hb'.cell (p := ⟨B, 0, none⟩) hB).trans hc) (Kd.C_below h2 hb')
set_option maxHeartbeats 2000000 in
theorem validCalls (A0 : Option Addr) (c0 : Nat) (l0 : List Bool) (A1 : Option Addr) (c1 : Nat) (l1 : List (List Int)) (w : World) (hr0 : Kd.C Kd.bool w A0 l0.length l0) (hr1 : Kd.C (Kd.slice 3 (Kd.int .i64)) w A1 l1.length l1) :
    Calls Try.prog 39 #[.agg #[.slice A0 l0.length c0, .slice A1 l1.length c1]] w fun e w' => e = .returned (.bool (validD l0 l1)) ∧ Below w.heap.size w w' := by
  have hu := Try.underlying27
  have hl0 := hr0.2.1
  have hl1 := hr1.2.1
  have hwi := fun W => impl_within.calls (l0.length : Int) 1 40 (decide (1 ≤ l0.length) && decide (l0.length ≤ 40)) W (by
    unfold impl_within.f
    by_cases h : 1 ≤ l0.length
    · rw [if_pos (show (l0.length : Int) ≥ 1 by omega), decide_eq_true h, Bool.true_and]
      exact congrArg some (decide_eq_decide.mpr (by omega))
    · rw [if_neg (show ¬ (l0.length : Int) ≥ 1 by omega), decide_eq_false h, Bool.false_and])
  have hV := validD.eq_def l0 l1
  by_cases h1 : (decide (1 ≤ l0.length) && decide (l0.length ≤ 40)) = true
  · rw [h1] at hwi
    by_cases h2 : l1.length = l0.length
    · have hcon := rowsContain A1 c1 l1 (l0.length : Int) (by simp at h1; omega) (by simp at h1; omega) w hr1
      have t2 : ((l1.length : Int) != (l0.length : Int)) = false := by rw [bne_eq_false_iff_eq]; omega
      rw [h1, decide_eq_true h2, Bool.true_and, Bool.true_and] at hV
      have HW := Aside0.mk hwi
      have HC := Aside0.mk hcon
      have HV := Aside0.mk hV
      clear hwi hcon h1 h2 hr0 hr1 hl0 hl1 hV
      go_enter Try.func39, Try.ntmps39
      go_wp2_with (first | (go_at_call 101; refine (HW.out _).mono ?_; rintro e w' ⟨rfl, ⟨m, rfl⟩⟩) | (go_at_call 102; refine (HC.out (w.heap.size + 1) _ ?q1 ?q2 ?q3).mono ?_; (case q1 => exact pw_below_drewN (below_alloc (below_alloc (Below.refl _ _) _) _) _); (case q2 => simp); (case q3 => simp); rintro e w' ⟨rfl, hb⟩; have HB := Aside0.mk hb; clear hb))
      go_ret
      rw [HV.out]
      exact ⟨rfl, below_then (pw_below_drewN (below_alloc (below_alloc (Below.refl _ _) _) _) _) (by simp; omega) HB.out⟩
    · have t2 : ((l1.length : Int) != (l0.length : Int)) = true := by rw [bne_iff_ne]; omega
      rw [h1, decide_eq_false h2, Bool.true_and, Bool.false_and] at hV
      have HW := Aside0.mk hwi
      have HV := Aside0.mk hV
      clear hwi h1 h2 hr0 hr1 hl0 hl1 hV
      go_enter Try.func39, Try.ntmps39
      go_wp2_with (go_at_call 101; refine (HW.out _).mono ?_; rintro e w' ⟨rfl, ⟨m, rfl⟩⟩)
      go_ret
      rw [HV.out]
      exact ⟨rfl, pw_below_drewN (below_alloc (below_alloc (Below.refl _ _) _) _) _⟩
  · have h1' : (decide (1 ≤ l0.length) && decide (l0.length ≤ 40)) = false := by simpa using h1
    rw [h1'] at hwi
    rw [h1', Bool.false_and, Bool.false_and] at hV
    have HW := Aside0.mk hwi
    have HV := Aside0.mk hV
    clear hwi h1 h1' hr0 hr1 hl0 hl1 hV
    go_enter Try.func39, Try.ntmps39
    go_wp2_with (go_at_call 101; refine (HW.out _).mono ?_; rintro e w' ⟨rfl, ⟨m, rfl⟩⟩)
    go_ret
    rw [HV.out]
    exact ⟨rfl, pw_below_drewN (below_alloc (below_alloc (Below.refl _ _) _) _) _⟩
end Go.Proofs.Ytogamkblkoobkaa.Wk
end
section
namespace Go.Proofs.Ytogamkblkoobkaa.Rk
open Go.RowKit Go.Deep Go.ChangeShapes Go.WideShapes Go.Proofs.YtogamkblkoobkaaW.PrintWords Go.Proofs.YtogamkblkoobkaaW.PrintLast Go.Proofs.YtogamkblkoobkaaW.PrintMore
set_option linter.unusedVariables false
set_option linter.unusedSimpArgs false
variable {H : Type} {enc : TypeId × Value → H} {P : Program} {w : World} {base : Nat} {spare : Nat → Bool} {held : Bool} {α : Type}
def Opens (enc : TypeId × Value → H) (P : Program) (w : World) (base : Nat) (spare : Nat → Bool) (held : Bool) (K : Kd α) (G : α → Prop) (t : TypeId) : Prop :=
  ∀ (fuel : Nat) (cs : List Value) (x : DataW H × List MemPlace), DataW.trod enc P w base spare held fuel t cs = some x → ∃ a, K.K w a cs ∧ G a
def wfI (k : IntKind) (n : Int) : Prop := (Lit.int k n).wf = true
def rowsOf (G : α → Prop) (xs : List α) : Prop := xs.length ≤ 9223372036854775807 ∧ ∀ x ∈ xs, G x
theorem opens_int {k : IntKind} {t : TypeId} (ht : P.underlying t = some (.int k)) : Opens enc P w base spare held (Kd.int k) (wfI k) t := by
  intro fuel cs x h
  obtain ⟨n, rfl, _, h2⟩ := DataW.trod_int ht h
  exact ⟨n, rfl, h2⟩
theorem opens_bool {t : TypeId} (ht : P.underlying t = some .bool) : Opens enc P w base spare held Kd.bool (fun _ => True) t := by
  intro fuel cs x h
  obtain ⟨b, rfl, _⟩ := DataW.trod_bool ht h
  exact ⟨b, rfl, trivial⟩
theorem opens_slice [Inhabited α] {K : Kd α} {G : α → Prop} {t e : TypeId} (q : Nat) (ht : P.underlying t = some (.slice e)) (hc : P.cellsOf e = 1) (hs : K.sz = 1) (h : Opens enc P w base spare held K G e) : Opens enc P w base spare held (Kd.slice q K) (rowsOf G) t := by
  intro fuel cs x hx
  rcases open_slice1 ht hc hx with ⟨rfl, _⟩ | ⟨a, len, cap, m, n, V, D, Pl, rfl, _, hl, hm, hmm, _, hx⟩
  · exact ⟨[], ⟨none, 0, rfl, Nat.le_refl _, rfl, by simp, fun h0 => absurd h0 (Nat.lt_irrefl _)⟩, by simp, fun x hx => by cases hx⟩
  · have hle : len ≤ m := by rw [hmm]; split <;> omega
    obtain ⟨f, hf⟩ := choose_lt (n := len) (p := fun i y => K.K w y [V i] ∧ G y) (fun i hi => h _ _ _ (hx i (by omega)).2)
    have hlen : ((List.range len).map f).length = len := by simp
    have hbig : len ≤ 9223372036854775807 := by unfold maxLen at hm; omega
    refine ⟨(List.range len).map f, ⟨some a, cap, by rw [hlen], by rw [hlen]; exact hl, hlen.symm ▸ rfl, ?_, fun _ => ⟨a, rfl, fun j p hj => ?_⟩⟩, by rw [hlen]; exact hbig, fun x hx => ?_⟩
    · rw [hlen]; exact hbig
    · have hjl : j < len := by
        have := (List.getElem?_eq_some_iff.1 hj).1
        rwa [hlen] at this
      have hp : f j = p := by
        rw [List.getElem?_map, List.getElem?_range hjl] at hj
        simpa using hj
      subst hp
      refine ⟨[V j], hs.symm, (hf j hjl).1, fun i u hu => ?_⟩
      cases i with
      | zero =>
        have : V j = u := by simpa using hu
        subst this
        rw [hs, Nat.mul_one, Nat.add_zero]
        exact (hx j (by omega)).1
      | succ i => simp at hu
    · obtain ⟨i, hi, rfl⟩ := List.mem_map.mp hx
      exact (hf i (List.mem_range.mp hi)).2
theorem slice_of {K : Kd α} {q : Nat} {v : Value} {xs : List α} (h : (Kd.slice q K).K w xs [v]) : ∃ A c, v = .slice A xs.length c ∧ xs.length ≤ c ∧ K.C w A xs.length xs := by
  obtain ⟨A, c, e, h1, h2⟩ := h
  exact ⟨A, c, by simpa using e, h1, h2⟩
end Go.Proofs.Ytogamkblkoobkaa.Rk
end
section
namespace Go.Proofs.Ytogamkblkoobkaa.P
open Go.RowKit Go.Proofs.YtogamkblkoobkaaW.PrintWords Go.Proofs.YtogamkblkoobkaaW.PrintLast Go.Proofs.YtogamkblkoobkaaW.PrintMore
attribute [local go_sem] max2_int min2_int max_two min_two max_three min_three max_four min_four
set_option linter.unusedVariables false
set_option linter.unusedSimpArgs false
def laws_szBoolS.f (l0 : List Bool) (a1 : Int) : Option (Int) := if (wrap64 (a1 - (l0.length : Int))) < 0 then (some (-1)) else (some (wrap64 (a1 - (l0.length : Int))))
set_option maxHeartbeats 8000000 in
set_option maxRecDepth 100000 in
theorem laws_szBoolS.calls (A0 : Option Addr) (c0 : Nat) (l0 : List Bool) (a1 : Int) (r : Int) (w : World) (hr0 : Kd.C Kd.bool w A0 l0.length l0) (hc0 : l0.length ≤ c0) (h : laws_szBoolS.f l0 a1 = some r) :
    Calls Try.prog 52 #[.slice A0 l0.length c0, .int .i64 a1] w fun e w' => e = .returned (.int .i64 r) ∧ Drawn0 w w' := by
  have HR0 := Aside0.mk hr0
  have HC0 := Aside0.mk hc0
  clear hr0 hc0
  have H : (if (wrap64 (a1 - (l0.length : Int))) < 0 then (some (-1)) else (some (wrap64 (a1 - (l0.length : Int))))) = some r := h
  clear h
  by_cases c3 : (wrap64 (a1 - (l0.length : Int))) < 0
  · rw [if_pos c3] at H
    have c3b0 : decide ((wrap64 (a1 - (l0.length : Int))) < 0) = true := decide_eq_true c3
    clear c3
    obtain rfl := Option.some.inj H
    simp only [Option.some.injEq, Prod.mk.injEq] at H
    obtain ⟨rfl⟩ := H
    go_enter Try.func52, Try.ntmps52
    go_wp2
    go_ret
    exact ⟨by first | rfl | (simp; done) | (simp [*]; done), by repeat (first | exact Drawn0.refl _ | apply Drawn0.step)⟩
  · rw [if_neg c3] at H
    have c3b0 : decide ((wrap64 (a1 - (l0.length : Int))) < 0) = false := decide_eq_false c3
    clear c3
    obtain rfl := Option.some.inj H
    simp only [Option.some.injEq, Prod.mk.injEq] at H
    obtain ⟨rfl⟩ := H
    go_enter Try.func52, Try.ntmps52
    go_wp2
    go_ret
    exact ⟨by first | rfl | (simp; done) | (simp [*]; done), by repeat (first | exact Drawn0.refl _ | apply Drawn0.step)⟩
def laws_szIntS.f (l0 : List Int) (a1 : Int) : Option (Int) := if (wrap64 (a1 - (l0.length : Int))) < 0 then (some (-1)) else (some (wrap64 (a1 - (l0.length : Int))))
set_option maxHeartbeats 8000000 in
set_option maxRecDepth 100000 in
theorem laws_szIntS.calls (A0 : Option Addr) (c0 : Nat) (l0 : List Int) (a1 : Int) (r : Int) (w : World) (hr0 : Kd.C (Kd.int .i64) w A0 l0.length l0) (hc0 : l0.length ≤ c0) (h : laws_szIntS.f l0 a1 = some r) :
    Calls Try.prog 116 #[.slice A0 l0.length c0, .int .i64 a1] w fun e w' => e = .returned (.int .i64 r) ∧ Drawn0 w w' := by
  have HR0 := Aside0.mk hr0
  have HC0 := Aside0.mk hc0
  clear hr0 hc0
  have H : (if (wrap64 (a1 - (l0.length : Int))) < 0 then (some (-1)) else (some (wrap64 (a1 - (l0.length : Int))))) = some r := h
  clear h
  by_cases c3 : (wrap64 (a1 - (l0.length : Int))) < 0
  · rw [if_pos c3] at H
    have c3b0 : decide ((wrap64 (a1 - (l0.length : Int))) < 0) = true := decide_eq_true c3
    clear c3
    obtain rfl := Option.some.inj H
    simp only [Option.some.injEq, Prod.mk.injEq] at H
    obtain ⟨rfl⟩ := H
    go_enter Try.func116, Try.ntmps116
    go_wp2
    go_ret
    exact ⟨by first | rfl | (simp; done) | (simp [*]; done), by repeat (first | exact Drawn0.refl _ | apply Drawn0.step)⟩
  · rw [if_neg c3] at H
    have c3b0 : decide ((wrap64 (a1 - (l0.length : Int))) < 0) = false := decide_eq_false c3
    clear c3
    obtain rfl := Option.some.inj H
    simp only [Option.some.injEq, Prod.mk.injEq] at H
    obtain ⟨rfl⟩ := H
    go_enter Try.func116, Try.ntmps116
    go_wp2
    go_ret
    exact ⟨by first | rfl | (simp; done) | (simp [*]; done), by repeat (first | exact Drawn0.refl _ | apply Drawn0.step)⟩
def laws_szIntSS.l0 : Nat → List (List Int) → Int → Int → Option (Int)
  | 0, _, _, _ => none
  | k + 1, x0, x1, x5 => if x5 < (x0.length : Int) then (if 0 ≤ x5 then ((laws_szIntS.f (rd_L1 x0 x5) x1).bind fun t109 => (if t109 < 0 then (some (-1)) else (laws_szIntSS.l0 k x0 t109 (wrap64 (x5 + 1))))) else (none)) else (some x1)
def laws_szIntSS.f (k : Nat) (l0 : List (List Int)) (a1 : Int) : Option (Int) := if (wrap64 (a1 - (l0.length : Int))) < 0 then (some (-1)) else (laws_szIntSS.l0 k l0 (wrap64 (a1 - (l0.length : Int))) 0)
theorem laws_szIntSS.mono_l : ∀ k, (∀ y0 y1 y2, LeO (laws_szIntSS.l0 k y0 y1 y2) (laws_szIntSS.l0 (k + 1) y0 y1 y2))
  | 0 => fun _ _ _ r h => by simp [laws_szIntSS.l0] at h
  | k + 1 => by
    have ih0 := laws_szIntSS.mono_l k
    · intro y0 y1 y2
      unfold laws_szIntSS.l0
      repeat' first
      | (with_reducible exact ih0 _ _ _)
      | (with_reducible exact LeO.refl _)
      | (with_reducible exact LeO.none _)
      | (with_reducible refine LeO.ite ?_ ?_)
      | (with_reducible refine LeO.bind ?_ (fun _ => ?_))
      | exact ih0 _ _ _
      | exact LeO.none _
      | refine LeO.ite ?_ ?_
      | refine LeO.bind ?_ (fun _ => ?_)
theorem laws_szIntSS.mono : ∀ a0 a1 k, LeO (laws_szIntSS.f k a0 a1) (laws_szIntSS.f (k + 1) a0 a1) := by
  intro a0 a1 k
  have ih0 := laws_szIntSS.mono_l k
  unfold laws_szIntSS.f
  repeat' first
      | (with_reducible exact ih0 _ _ _)
      | (with_reducible exact LeO.refl _)
      | (with_reducible exact LeO.none _)
      | (with_reducible refine LeO.ite ?_ ?_)
      | (with_reducible refine LeO.bind ?_ (fun _ => ?_))
      | exact ih0 _ _ _
      | exact LeO.none _
      | refine LeO.ite ?_ ?_
      | refine LeO.bind ?_ (fun _ => ?_)
set_option maxHeartbeats 8000000 in
set_option maxRecDepth 100000 in
theorem laws_szIntSS.calls (k : Nat) (A0 : Option Addr) (c0 : Nat) (l0 : List (List Int)) (a1 : Int) (r : Int) (w : World) (hr0 : Kd.C (Kd.slice 3 (Kd.int .i64)) w A0 l0.length l0) (hc0 : l0.length ≤ c0) (h : laws_szIntSS.f k l0 a1 = some r) :
    Calls Try.prog 53 #[.slice A0 l0.length c0, .int .i64 a1] w fun e w' => e = .returned (.int .i64 r) ∧ Drawn0 w w' := by
  have HR0 := Aside0.mk hr0
  have HC0 := Aside0.mk hc0
  clear hr0 hc0
  have H : (if (wrap64 (a1 - (l0.length : Int))) < 0 then (some (-1)) else (laws_szIntSS.l0 k l0 (wrap64 (a1 - (l0.length : Int))) 0)) = some r := h
  clear h
  by_cases c3 : (wrap64 (a1 - (l0.length : Int))) < 0
  · rw [if_pos c3] at H
    have c3b0 : decide ((wrap64 (a1 - (l0.length : Int))) < 0) = true := decide_eq_true c3
    clear c3
    obtain rfl := Option.some.inj H
    simp only [Option.some.injEq, Prod.mk.injEq] at H
    obtain ⟨rfl⟩ := H
    go_enter Try.func53, Try.ntmps53
    go_wp2
    go_ret
    exact ⟨by first | rfl | (simp; done) | (simp [*]; done), by repeat (first | exact Drawn0.refl _ | apply Drawn0.step)⟩
  · rw [if_neg c3] at H
    have c3b0 : decide ((wrap64 (a1 - (l0.length : Int))) < 0) = false := decide_eq_false c3
    clear c3
    have H' := Aside0.mk H
    clear H
    go_enter Try.func53, Try.ntmps53
    go_wp2
    go_loopg [1, 5] k (fun kq v1 v5 w' => ∃ (x1_1 : Int) (x5_1 : Int), v1 = .int .i64 x1_1 ∧ v5 = .int .i64 x5_1 ∧ Aside0 (laws_szIntSS.l0 kq l0 x1_1 x5_1 = some r) ∧ Aside0 (kq ≤ k) ∧ Drawn0 w w')
    case atStart => exact ⟨(wrap64 (a1 - (l0.length : Int))), (0), (by first | rfl | (simp; done) | (simp [*]; done)), (by first | rfl | (simp; done) | (simp [*]; done)), H', ⟨Nat.le_refl _⟩, by repeat (first | exact Drawn0.refl _ | apply Drawn0.step)⟩
    case round =>
      clear H'
      try clear p2
      try clear c3
      try clear c3b0
      obtain ⟨x1_1, x5_1, rfl, rfl, HA, HK1, ⟨m1, rfl⟩⟩ := hrel
      cases gk with
      | zero => exact absurd HA.out (by simp [laws_szIntSS.l0])
      | succ k1 =>
        have H := HA.out
        clear HA
        simp only [laws_szIntSS.l0] at H
        by_cases c4 : x5_1 < (l0.length : Int)
        · rw [if_pos c4] at H
          have c4b0 : decide (x5_1 < (l0.length : Int)) = true := decide_eq_true c4
          clear c4
          by_cases c5 : 0 ≤ x5_1
          · rw [if_pos c5] at H
            have c5b0 : decide (0 ≤ x5_1) = true := decide_eq_true c5
            clear c5
            replace H := Option.bind_eq_some_iff.mp H
            obtain ⟨t109, A60, H⟩ := H
            replace H : (if t109 < 0 then (some (-1)) else (laws_szIntSS.l0 k1 l0 t109 (wrap64 (x5_1 + 1)))) = some r := H
            have A6 := Aside0.mk A60
            clear A60
            by_cases c7 : t109 < 0
            · rw [if_pos c7] at H
              have c7b0 : decide (t109 < 0) = true := decide_eq_true c7
              clear c7
              obtain rfl := Option.some.inj H
              simp only [Option.some.injEq, Prod.mk.injEq] at H
              obtain ⟨rfl⟩ := H
              have p108 : 0 ≤ (x5_1 : Int) := of_decide_eq_true (by first | (with_reducible assumption) | assumption)
              have q108 : x5_1 < (l0.length : Int) := of_decide_eq_true (by first | (with_reducible assumption) | assumption)
              obtain ⟨ad108, A108_0, c108_0, e108, hx108_0, hl108_0, hi108_0⟩ := at_L1 HR0.out x5_1 p108 q108
              cases e108
              have HR108_0 := Aside0.mk hi108_0
              have HC108_0 := Aside0.mk hl108_0
              clear hi108_0 hl108_0
              replace p108 := eq_true p108
              replace q108 := eq_true q108
              go_wp2_with (first | ((with_reducible refine gate_callee (f := 116) rfl ?_); refine goesL_ (some 23) rfl rfl Try.func116 (by kernel_rfl) rfl #[.slice A108_0 (rd_L1 l0 x5_1).length c108_0, .int .i64 x1_1] rfl (by (try simp only [List.map_toArray, List.map_cons, List.map_nil]); first | done | rfl | (simp only [List.length_drop, List.length_take]; rfl)) ?_; (with_reducible refine (laws_szIntS.calls _ _ (rd_L1 l0 x5_1) x1_1 t109 _ ?side1 ?side2 A6.out).mono ?_); (case side1 => repeat (first | exact HR108_0.out | (with_reducible refine Kd.C_alloc ?_ _) | (with_reducible refine Kd.C_drewN ?_ _) | (with_reducible refine Kd.C_drew ?_))); (case side2 => exact HC108_0.out); rintro e w' ⟨rfl, ⟨nd, rfl⟩⟩; refine ⟨_, rfl, ?_⟩))
              go_ret
              exact ⟨by first | rfl | (simp; done) | (simp [*]; done), by repeat (first | exact Drawn0.refl _ | apply Drawn0.step)⟩
            · rw [if_neg c7] at H
              have c7b0 : decide (t109 < 0) = false := decide_eq_false c7
              clear c7
              have H' := Aside0.mk H
              clear H
              have p108 : 0 ≤ (x5_1 : Int) := of_decide_eq_true (by first | (with_reducible assumption) | assumption)
              have q108 : x5_1 < (l0.length : Int) := of_decide_eq_true (by first | (with_reducible assumption) | assumption)
              obtain ⟨ad108, A108_0, c108_0, e108, hx108_0, hl108_0, hi108_0⟩ := at_L1 HR0.out x5_1 p108 q108
              cases e108
              have HR108_0 := Aside0.mk hi108_0
              have HC108_0 := Aside0.mk hl108_0
              clear hi108_0 hl108_0
              replace p108 := eq_true p108
              replace q108 := eq_true q108
              go_wp2_with (first | ((with_reducible refine gate_callee (f := 116) rfl ?_); refine goesL_ (some 23) rfl rfl Try.func116 (by kernel_rfl) rfl #[.slice A108_0 (rd_L1 l0 x5_1).length c108_0, .int .i64 x1_1] rfl (by (try simp only [List.map_toArray, List.map_cons, List.map_nil]); first | done | rfl | (simp only [List.length_drop, List.length_take]; rfl)) ?_; (with_reducible refine (laws_szIntS.calls _ _ (rd_L1 l0 x5_1) x1_1 t109 _ ?side1 ?side2 A6.out).mono ?_); (case side1 => repeat (first | exact HR108_0.out | (with_reducible refine Kd.C_alloc ?_ _) | (with_reducible refine Kd.C_drewN ?_ _) | (with_reducible refine Kd.C_drew ?_))); (case side2 => exact HC108_0.out); rintro e w' ⟨rfl, ⟨nd, rfl⟩⟩; refine ⟨_, rfl, ?_⟩))
              go_roundg k1
              case measure => have := HK1.out; omega
              case rel => exact ⟨(t109), (wrap64 (x5_1 + 1)), (by first | rfl | (simp; done) | (simp [*]; done)), (by first | rfl | (simp; done) | (simp [*]; done)), H', ⟨by have := HK1.out; omega⟩, by repeat (first | exact Drawn0.refl _ | apply Drawn0.step)⟩
          · rw [if_neg c5] at H
            exact absurd H (by simp)
        · rw [if_neg c4] at H
          have c4b0 : decide (x5_1 < (l0.length : Int)) = false := decide_eq_false c4
          clear c4
          obtain rfl := Option.some.inj H
          simp only [Option.some.injEq, Prod.mk.injEq] at H
          obtain ⟨rfl⟩ := H
          go_wp2
          go_ret
          exact ⟨by first | rfl | (simp; done) | (simp [*]; done), by repeat (first | exact Drawn0.refl _ | apply Drawn0.step)⟩
def laws_szDfa.f (k : Nat) (l0_0 : List Bool) (l0_1 : List (List Int)) (a1 : Int) : Option (Int) := (laws_szBoolS.f l0_0 a1).bind fun t111 => (if t111 < 0 then (some (-1)) else ((laws_szIntSS.f k l0_1 t111).bind fun t112 => (if t112 < 0 then (some (-1)) else (some t112))))
theorem laws_szDfa.mono : ∀ a0 a1 a2 k, LeO (laws_szDfa.f k a0 a1 a2) (laws_szDfa.f (k + 1) a0 a1 a2) := by
  intro a0 a1 a2 k
  unfold laws_szDfa.f
  repeat' first
      | (with_reducible exact laws_szIntSS.mono _ _ _)
      | (with_reducible exact LeO.refl _)
      | (with_reducible exact LeO.none _)
      | (with_reducible refine LeO.ite ?_ ?_)
      | (with_reducible refine LeO.bind ?_ (fun _ => ?_))
      | exact laws_szIntSS.mono _ _ _
      | exact LeO.none _
      | refine LeO.ite ?_ ?_
      | refine LeO.bind ?_ (fun _ => ?_)
set_option maxHeartbeats 8000000 in
set_option maxRecDepth 100000 in
theorem laws_szDfa.calls (k : Nat) (A0_0 : Option Addr) (c0_0 : Nat) (l0_0 : List Bool) (A0_1 : Option Addr) (c0_1 : Nat) (l0_1 : List (List Int)) (a1 : Int) (r : Int) (w : World) (hr0_0 : Kd.C Kd.bool w A0_0 l0_0.length l0_0) (hc0_0 : l0_0.length ≤ c0_0) (hr0_1 : Kd.C (Kd.slice 3 (Kd.int .i64)) w A0_1 l0_1.length l0_1) (hc0_1 : l0_1.length ≤ c0_1) (h : laws_szDfa.f k l0_0 l0_1 a1 = some r) :
    Calls Try.prog 12 #[.agg #[.slice A0_0 l0_0.length c0_0, .slice A0_1 l0_1.length c0_1], .int .i64 a1] w fun e w' => e = .returned (.int .i64 r) ∧ Below w.heap.size w w' := by
  have hu25 := Try.underlying25
  have HR0_0 := Aside0.mk hr0_0
  have HC0_0 := Aside0.mk hc0_0
  clear hr0_0 hc0_0
  have HR0_1 := Aside0.mk hr0_1
  have HC0_1 := Aside0.mk hc0_1
  clear hr0_1 hc0_1
  have HB := Aside0.mk (Below.refl w.heap.size w)
  have H : ((laws_szBoolS.f l0_0 a1).bind fun t111 => (if t111 < 0 then (some (-1)) else ((laws_szIntSS.f k l0_1 t111).bind fun t112 => (if t112 < 0 then (some (-1)) else (some t112))))) = some r := h
  clear h
  replace H := Option.bind_eq_some_iff.mp H
  obtain ⟨t111, A30, H⟩ := H
  replace H : (if t111 < 0 then (some (-1)) else ((laws_szIntSS.f k l0_1 t111).bind fun t112 => (if t112 < 0 then (some (-1)) else (some t112)))) = some r := H
  have A3 := Aside0.mk A30
  clear A30
  by_cases c4 : t111 < 0
  · rw [if_pos c4] at H
    have c4b0 : decide (t111 < 0) = true := decide_eq_true c4
    clear c4
    obtain rfl := Option.some.inj H
    simp only [Option.some.injEq, Prod.mk.injEq] at H
    obtain ⟨rfl⟩ := H
    go_enter Try.func12, Try.ntmps12
    go_wp2_with (first | ((with_reducible refine gate_dst (N := 2) rfl ?_); refine box_event ?hg (N := 2) ?hd (cs := #[.slice A0_0 l0_0.length c0_0, .slice A0_1 l0_1.length c0_1]) (t := 25) ?hr ?_; (case hd => rfl); (case hg => rfl); (case hr => first | (go_simp; done) | (go_simp; rfl)); intro gb110 hg w5 hbox hb; have n0_ := Aside0.mk (below_step (by repeat (first | (with_reducible first | exact HB.out | apply below_alloc | apply pw_below_drewN | apply below_drew1) | exact HB.out)) hb); have n1_ := Aside0.mk (hbox); have n2_ := Aside0.mk ((by rw [hg]; exact (below_size (by repeat (first | (with_reducible first | exact HB.out | apply below_alloc | apply pw_below_drewN | apply below_drew1) | exact HB.out))) : w.heap.size ≤ gb110)); have n3_ := Aside0.mk ((by rw [hg]; exact (below_size (by repeat (first | (with_reducible first | exact HB.out | apply below_alloc | apply pw_below_drewN | apply below_drew1) | exact HB.out))) : w.heap.size ≤ gb110)); clear HB; have HB := n0_; have BK110 := n1_; have GW110 := n2_; have GE110 := n3_; clear n0_ n1_ n2_ n3_; clear hb hbox hg; have hcz6_0 : w5.cell? ⟨gb110, 0, none⟩ = some (.slice A0_0 l0_0.length c0_0) := (blk_cell BK110.out 0).trans rfl; have hcz6_1 : w5.cell? ⟨gb110, 1, none⟩ = some (.slice A0_1 l0_1.length c0_1) := (blk_cell BK110.out 1).trans rfl; have hfz6_0 := blk_frozen BK110.out 0; have hfz6_1 := blk_frozen BK110.out 1) | ((with_reducible refine gate_callee (f := 52) rfl ?_); refine goesL_ (some 8) rfl rfl Try.func52 (by kernel_rfl) rfl #[.slice A0_0 l0_0.length c0_0, .int .i64 a1] rfl (by (try simp only [List.map_toArray, List.map_cons, List.map_nil]); first | done | rfl | (simp only [List.length_drop, List.length_take]; rfl)) ?_; (with_reducible refine (laws_szBoolS.calls _ _ l0_0 a1 t111 _ ?side1 ?side2 A3.out).mono ?_); (case side1 => repeat (first | exact (Kd.C_below HR0_0.out HB.out) | (with_reducible refine Kd.C_alloc ?_ _) | (with_reducible refine Kd.C_drewN ?_ _) | (with_reducible refine Kd.C_drew ?_))); (case side2 => exact HC0_0.out); rintro e w' ⟨rfl, ⟨nd, rfl⟩⟩; refine ⟨_, rfl, ?_⟩))
    go_ret
    exact ⟨by first | rfl | (simp [errW_none, errW_some] <;> rfl) | (simp [*, errW_none, errW_some] <;> rfl), by repeat (first | (with_reducible first | exact HB.out | apply below_alloc | apply pw_below_drewN | apply below_drew1 | refine below_set ?_ GE110.out) | exact HB.out)⟩
  · rw [if_neg c4] at H
    have c4b0 : decide (t111 < 0) = false := decide_eq_false c4
    clear c4
    replace H := Option.bind_eq_some_iff.mp H
    obtain ⟨t112, A70, H⟩ := H
    replace H : (if t112 < 0 then (some (-1)) else (some t112)) = some r := H
    have A7 := Aside0.mk A70
    clear A70
    by_cases c8 : t112 < 0
    · rw [if_pos c8] at H
      have c8b0 : decide (t112 < 0) = true := decide_eq_true c8
      clear c8
      obtain rfl := Option.some.inj H
      simp only [Option.some.injEq, Prod.mk.injEq] at H
      obtain ⟨rfl⟩ := H
      go_enter Try.func12, Try.ntmps12
      go_wp2_with (first | ((with_reducible refine gate_dst (N := 2) rfl ?_); refine box_event ?hg (N := 2) ?hd (cs := #[.slice A0_0 l0_0.length c0_0, .slice A0_1 l0_1.length c0_1]) (t := 25) ?hr ?_; (case hd => rfl); (case hg => rfl); (case hr => first | (go_simp; done) | (go_simp; rfl)); intro gb110 hg w9 hbox hb; have n0_ := Aside0.mk (below_step (by repeat (first | (with_reducible first | exact HB.out | apply below_alloc | apply pw_below_drewN | apply below_drew1) | exact HB.out)) hb); have n1_ := Aside0.mk (hbox); have n2_ := Aside0.mk ((by rw [hg]; exact (below_size (by repeat (first | (with_reducible first | exact HB.out | apply below_alloc | apply pw_below_drewN | apply below_drew1) | exact HB.out))) : w.heap.size ≤ gb110)); have n3_ := Aside0.mk ((by rw [hg]; exact (below_size (by repeat (first | (with_reducible first | exact HB.out | apply below_alloc | apply pw_below_drewN | apply below_drew1) | exact HB.out))) : w.heap.size ≤ gb110)); clear HB; have HB := n0_; have BK110 := n1_; have GW110 := n2_; have GE110 := n3_; clear n0_ n1_ n2_ n3_; clear hb hbox hg; have hcz10_0 : w9.cell? ⟨gb110, 0, none⟩ = some (.slice A0_0 l0_0.length c0_0) := (blk_cell BK110.out 0).trans rfl; have hcz10_1 : w9.cell? ⟨gb110, 1, none⟩ = some (.slice A0_1 l0_1.length c0_1) := (blk_cell BK110.out 1).trans rfl; have hfz10_0 := blk_frozen BK110.out 0; have hfz10_1 := blk_frozen BK110.out 1) | ((with_reducible refine gate_callee (f := 52) rfl ?_); refine goesL_ (some 8) rfl rfl Try.func52 (by kernel_rfl) rfl #[.slice A0_0 l0_0.length c0_0, .int .i64 a1] rfl (by (try simp only [List.map_toArray, List.map_cons, List.map_nil]); first | done | rfl | (simp only [List.length_drop, List.length_take]; rfl)) ?_; (with_reducible refine (laws_szBoolS.calls _ _ l0_0 a1 t111 _ ?side1 ?side2 A3.out).mono ?_); (case side1 => repeat (first | exact (Kd.C_below HR0_0.out HB.out) | (with_reducible refine Kd.C_alloc ?_ _) | (with_reducible refine Kd.C_drewN ?_ _) | (with_reducible refine Kd.C_drew ?_))); (case side2 => exact HC0_0.out); rintro e w' ⟨rfl, ⟨nd, rfl⟩⟩; refine ⟨_, rfl, ?_⟩) | ((with_reducible refine gate_callee (f := 53) rfl ?_); refine goesL_ (some 14) rfl rfl Try.func53 (by kernel_rfl) rfl #[.slice A0_1 l0_1.length c0_1, .int .i64 t111] rfl (by (try simp only [List.map_toArray, List.map_cons, List.map_nil]); first | done | rfl | (simp only [List.length_drop, List.length_take]; rfl)) ?_; (with_reducible refine (laws_szIntSS.calls k _ _ l0_1 t111 t112 _ ?side1 ?side2 A7.out).mono ?_); (case side1 => repeat (first | exact (Kd.C_below HR0_1.out (by repeat (first | (with_reducible first | exact HB.out | apply below_alloc | apply pw_below_drewN | apply below_drew1 | refine below_set ?_ GE110.out) | exact HB.out))) | (with_reducible refine Kd.C_alloc ?_ _) | (with_reducible refine Kd.C_drewN ?_ _) | (with_reducible refine Kd.C_drew ?_))); (case side2 => exact HC0_1.out); rintro e w' ⟨rfl, ⟨nd, rfl⟩⟩; refine ⟨_, rfl, ?_⟩))
      go_ret
      exact ⟨by first | rfl | (simp [errW_none, errW_some] <;> rfl) | (simp [*, errW_none, errW_some] <;> rfl), by repeat (first | (with_reducible first | exact HB.out | apply below_alloc | apply pw_below_drewN | apply below_drew1 | refine below_set ?_ GE110.out) | exact HB.out)⟩
    · rw [if_neg c8] at H
      have c8b0 : decide (t112 < 0) = false := decide_eq_false c8
      clear c8
      obtain rfl := Option.some.inj H
      simp only [Option.some.injEq, Prod.mk.injEq] at H
      obtain ⟨rfl⟩ := H
      go_enter Try.func12, Try.ntmps12
      go_wp2_with (first | ((with_reducible refine gate_dst (N := 2) rfl ?_); refine box_event ?hg (N := 2) ?hd (cs := #[.slice A0_0 l0_0.length c0_0, .slice A0_1 l0_1.length c0_1]) (t := 25) ?hr ?_; (case hd => rfl); (case hg => rfl); (case hr => first | (go_simp; done) | (go_simp; rfl)); intro gb110 hg w11 hbox hb; have n0_ := Aside0.mk (below_step (by repeat (first | (with_reducible first | exact HB.out | apply below_alloc | apply pw_below_drewN | apply below_drew1) | exact HB.out)) hb); have n1_ := Aside0.mk (hbox); have n2_ := Aside0.mk ((by rw [hg]; exact (below_size (by repeat (first | (with_reducible first | exact HB.out | apply below_alloc | apply pw_below_drewN | apply below_drew1) | exact HB.out))) : w.heap.size ≤ gb110)); have n3_ := Aside0.mk ((by rw [hg]; exact (below_size (by repeat (first | (with_reducible first | exact HB.out | apply below_alloc | apply pw_below_drewN | apply below_drew1) | exact HB.out))) : w.heap.size ≤ gb110)); clear HB; have HB := n0_; have BK110 := n1_; have GW110 := n2_; have GE110 := n3_; clear n0_ n1_ n2_ n3_; clear hb hbox hg; have hcz12_0 : w11.cell? ⟨gb110, 0, none⟩ = some (.slice A0_0 l0_0.length c0_0) := (blk_cell BK110.out 0).trans rfl; have hcz12_1 : w11.cell? ⟨gb110, 1, none⟩ = some (.slice A0_1 l0_1.length c0_1) := (blk_cell BK110.out 1).trans rfl; have hfz12_0 := blk_frozen BK110.out 0; have hfz12_1 := blk_frozen BK110.out 1) | ((with_reducible refine gate_callee (f := 52) rfl ?_); refine goesL_ (some 8) rfl rfl Try.func52 (by kernel_rfl) rfl #[.slice A0_0 l0_0.length c0_0, .int .i64 a1] rfl (by (try simp only [List.map_toArray, List.map_cons, List.map_nil]); first | done | rfl | (simp only [List.length_drop, List.length_take]; rfl)) ?_; (with_reducible refine (laws_szBoolS.calls _ _ l0_0 a1 t111 _ ?side1 ?side2 A3.out).mono ?_); (case side1 => repeat (first | exact (Kd.C_below HR0_0.out HB.out) | (with_reducible refine Kd.C_alloc ?_ _) | (with_reducible refine Kd.C_drewN ?_ _) | (with_reducible refine Kd.C_drew ?_))); (case side2 => exact HC0_0.out); rintro e w' ⟨rfl, ⟨nd, rfl⟩⟩; refine ⟨_, rfl, ?_⟩) | ((with_reducible refine gate_callee (f := 53) rfl ?_); refine goesL_ (some 14) rfl rfl Try.func53 (by kernel_rfl) rfl #[.slice A0_1 l0_1.length c0_1, .int .i64 t111] rfl (by (try simp only [List.map_toArray, List.map_cons, List.map_nil]); first | done | rfl | (simp only [List.length_drop, List.length_take]; rfl)) ?_; (with_reducible refine (laws_szIntSS.calls k _ _ l0_1 t111 t112 _ ?side1 ?side2 A7.out).mono ?_); (case side1 => repeat (first | exact (Kd.C_below HR0_1.out (by repeat (first | (with_reducible first | exact HB.out | apply below_alloc | apply pw_below_drewN | apply below_drew1 | refine below_set ?_ GE110.out) | exact HB.out))) | (with_reducible refine Kd.C_alloc ?_ _) | (with_reducible refine Kd.C_drewN ?_ _) | (with_reducible refine Kd.C_drew ?_))); (case side2 => exact HC0_1.out); rintro e w' ⟨rfl, ⟨nd, rfl⟩⟩; refine ⟨_, rfl, ?_⟩))
      go_ret
      exact ⟨by first | rfl | (simp [errW_none, errW_some] <;> rfl) | (simp [*, errW_none, errW_some] <;> rfl), by repeat (first | (with_reducible first | exact HB.out | apply below_alloc | apply pw_below_drewN | apply below_drew1 | refine below_set ?_ GE110.out) | exact HB.out)⟩
def spec_l1In.f (a0 : Int) (a1 : Int) (a2 : Int) : Option (Bool) := if a0 ≥ a1 then (some (decide (a0 ≤ a2))) else (some false)
set_option maxHeartbeats 8000000 in
set_option maxRecDepth 100000 in
theorem spec_l1In.calls (a0 : Int) (a1 : Int) (a2 : Int) (r : Bool) (w : World) (h : spec_l1In.f a0 a1 a2 = some r) :
    Calls Try.prog 95 #[.int .i64 a0, .int .i64 a1, .int .i64 a2] w fun e w' => e = .returned (.bool r) ∧ Drawn0 w w' := by
  have H : (if a0 ≥ a1 then (some (decide (a0 ≤ a2))) else (some false)) = some r := h
  clear h
  by_cases c4 : a0 ≥ a1
  · rw [if_pos c4] at H
    have c4b0 : decide (a1 ≤ a0) = true := decide_eq_true c4
    clear c4
    obtain rfl := Option.some.inj H
    simp only [Option.some.injEq, Prod.mk.injEq] at H
    obtain ⟨rfl⟩ := H
    go_enter Try.func95, Try.ntmps95
    go_wp2
    go_ret
    exact ⟨by first | rfl | (simp; done) | (simp [*]; done), by repeat (first | exact Drawn0.refl _ | apply Drawn0.step)⟩
  · rw [if_neg c4] at H
    have c4b0 : decide (a1 ≤ a0) = false := decide_eq_false c4
    clear c4
    obtain rfl := Option.some.inj H
    simp only [Option.some.injEq, Prod.mk.injEq] at H
    obtain ⟨rfl⟩ := H
    go_enter Try.func95, Try.ntmps95
    go_wp2
    go_ret
    exact ⟨by first | rfl | (simp; done) | (simp [*]; done), by repeat (first | exact Drawn0.refl _ | apply Drawn0.step)⟩
end Go.Proofs.Ytogamkblkoobkaa.P
end
section
namespace Go.Proofs.Ytogamkblkoobkaa.P
open Go.RowKit Go.Proofs.YtogamkblkoobkaaW.PrintWords Go.Proofs.YtogamkblkoobkaaW.PrintLast Go.Proofs.YtogamkblkoobkaaW.PrintMore
attribute [local go_sem] max2_int min2_int max_two min_two max_three min_three max_four min_four
set_option linter.unusedVariables false
set_option linter.unusedSimpArgs false
mutual
def spec_IsValidDfa.j0 : Nat → Int → Bool → List Bool → List (List Int) → Option (Bool)
  | 0, _, _, _, _ => none
  | k + 1, x3, x18, x114000, x114001 => if x18 = true then (some false) else (spec_IsValidDfa.l0 k x3 0 x114000 x114001)
def spec_IsValidDfa.l0 : Nat → Int → Int → List Bool → List (List Int) → Option (Bool)
  | 0, _, _, _, _ => none
  | k + 1, x3, x4, x114000, x114001 => if x4 < x3 then (if 0 ≤ x4 then (if x4 < (x114001.length : Int) then (if ((rd_L1 x114001 x4).length : Int) = 3 then (spec_IsValidDfa.l1 k x3 x4 0 x114000 x114001) else (some false)) else (none)) else (none)) else (some true)
def spec_IsValidDfa.l1 : Nat → Int → Int → Int → List Bool → List (List Int) → Option (Bool)
  | 0, _, _, _, _, _ => none
  | k + 1, x3, x4, x5, x114000, x114001 => if 0 ≤ x4 then (if x4 < (x114001.length : Int) then (if x5 < ((rd_L1 x114001 x4).length : Int) then (if 0 ≤ x5 then ((spec_l1In.f (rd (rd_L1 x114001 x4) x5) 0 (wrap64 (x3 - 1))).bind fun t119 => (if t119 = true then (spec_IsValidDfa.l1 k x3 x4 (wrap64 (x5 + 1)) x114000 x114001) else (some false))) else (none)) else (spec_IsValidDfa.l0 k x3 (wrap64 (x4 + 1)) x114000 x114001)) else (none)) else (none)
end
def spec_IsValidDfa.f (k : Nat) (l0_0 : List Bool) (l0_1 : List (List Int)) : Option (Bool) := (spec_l1In.f (l0_0.length : Int) 1 40).bind fun t114 => (if t114 = true then (spec_IsValidDfa.j0 k (l0_0.length : Int) ((l0_1.length : Int) != (l0_0.length : Int)) l0_0 l0_1) else (spec_IsValidDfa.j0 k (l0_0.length : Int) true l0_0 l0_1))
theorem spec_IsValidDfa.mono_l : ∀ k, (∀ y0 y1 y2 y3, LeO (spec_IsValidDfa.j0 k y0 y1 y2 y3) (spec_IsValidDfa.j0 (k + 1) y0 y1 y2 y3)) ∧ (∀ y0 y1 y2 y3, LeO (spec_IsValidDfa.l0 k y0 y1 y2 y3) (spec_IsValidDfa.l0 (k + 1) y0 y1 y2 y3)) ∧ (∀ y0 y1 y2 y3 y4, LeO (spec_IsValidDfa.l1 k y0 y1 y2 y3 y4) (spec_IsValidDfa.l1 (k + 1) y0 y1 y2 y3 y4))
 | 0 => ⟨fun _ _ _ _ r h => by simp [spec_IsValidDfa.j0] at h, fun _ _ _ _ r h => by simp [spec_IsValidDfa.l0] at h, fun _ _ _ _ _ r h => by simp [spec_IsValidDfa.l1] at h⟩
 | k + 1 => by
  obtain ⟨ih0, ih1, ih2⟩ := spec_IsValidDfa.mono_l k
  refine ⟨?_, ?_, ?_⟩
  ·intro y0 y1 y2 y3
   unfold spec_IsValidDfa.j0
   repeat' first
   | (with_reducible exact ih0 _ _ _ _)
   | (with_reducible exact ih1 _ _ _ _)
   | (with_reducible exact ih2 _ _ _ _ _)
   | (with_reducible exact LeO.refl _)
   | (with_reducible exact LeO.none _)
   | (with_reducible refine LeO.ite ?_ ?_)
   | (with_reducible refine LeO.bind ?_ (fun _ => ?_))
   | exact ih0 _ _ _ _
   | exact ih1 _ _ _ _
   | exact ih2 _ _ _ _ _
   | exact LeO.none _
   | refine LeO.ite ?_ ?_
   | refine LeO.bind ?_ (fun _ => ?_)
  ·intro y0 y1 y2 y3
   unfold spec_IsValidDfa.l0
   repeat' first
   | (with_reducible exact ih0 _ _ _ _)
   | (with_reducible exact ih1 _ _ _ _)
   | (with_reducible exact ih2 _ _ _ _ _)
   | (with_reducible exact LeO.refl _)
   | (with_reducible exact LeO.none _)
   | (with_reducible refine LeO.ite ?_ ?_)
   | (with_reducible refine LeO.bind ?_ (fun _ => ?_))
   | exact ih0 _ _ _ _
   | exact ih1 _ _ _ _
   | exact ih2 _ _ _ _ _
   | exact LeO.none _
   | refine LeO.ite ?_ ?_
   | refine LeO.bind ?_ (fun _ => ?_)
  ·intro y0 y1 y2 y3 y4
   unfold spec_IsValidDfa.l1
   repeat' first
   | (with_reducible exact ih0 _ _ _ _)
   | (with_reducible exact ih1 _ _ _ _)
   | (with_reducible exact ih2 _ _ _ _ _)
   | (with_reducible exact LeO.refl _)
   | (with_reducible exact LeO.none _)
   | (with_reducible refine LeO.ite ?_ ?_)
   | (with_reducible refine LeO.bind ?_ (fun _ => ?_))
   | exact ih0 _ _ _ _
   | exact ih1 _ _ _ _
   | exact ih2 _ _ _ _ _
   | exact LeO.none _
   | refine LeO.ite ?_ ?_
   | refine LeO.bind ?_ (fun _ => ?_)
theorem spec_IsValidDfa.mono : ∀ a0 a1 k, LeO (spec_IsValidDfa.f k a0 a1) (spec_IsValidDfa.f (k + 1) a0 a1) := by
 intro a0 a1 k
 obtain ⟨ih0, ih1, ih2⟩ := spec_IsValidDfa.mono_l k
 unfold spec_IsValidDfa.f
 repeat' first
   | (with_reducible exact ih0 _ _ _ _)
   | (with_reducible exact ih1 _ _ _ _)
   | (with_reducible exact ih2 _ _ _ _ _)
   | (with_reducible exact LeO.refl _)
   | (with_reducible exact LeO.none _)
   | (with_reducible refine LeO.ite ?_ ?_)
   | (with_reducible refine LeO.bind ?_ (fun _ => ?_))
   | exact ih0 _ _ _ _
   | exact ih1 _ _ _ _
   | exact ih2 _ _ _ _ _
   | exact LeO.none _
   | refine LeO.ite ?_ ?_
   | refine LeO.bind ?_ (fun _ => ?_)
set_option maxHeartbeats 8000000 in
set_option maxRecDepth 100000 in
theorem spec_IsValidDfa.calls (k : Nat) (A0_0 : Option Addr) (c0_0 : Nat) (l0_0 : List Bool) (A0_1 : Option Addr) (c0_1 : Nat) (l0_1 : List (List Int)) (r : Bool) (w : World) (hr0_0 : Kd.C Kd.bool w A0_0 l0_0.length l0_0) (hc0_0 : l0_0.length ≤ c0_0) (hr0_1 : Kd.C (Kd.slice 3 (Kd.int .i64)) w A0_1 l0_1.length l0_1) (hc0_1 : l0_1.length ≤ c0_1) (h : spec_IsValidDfa.f k l0_0 l0_1 = some r) :
  Calls Try.prog 35 #[.agg #[.slice A0_0 l0_0.length c0_0, .slice A0_1 l0_1.length c0_1]] w fun e w' => e = .returned (.bool r) ∧ Below w.heap.size w w' := by
 have hu27 := Try.underlying27
 have HR0_0 := Aside0.mk hr0_0
 have HC0_0 := Aside0.mk hc0_0
 clear hr0_0 hc0_0
 have HR0_1 := Aside0.mk hr0_1
 have HC0_1 := Aside0.mk hc0_1
 clear hr0_1 hc0_1
 have HB := Aside0.mk (Below.refl w.heap.size w)
 have H : ((spec_l1In.f (l0_0.length : Int) 1 40).bind fun t114 => (if t114 = true then (spec_IsValidDfa.j0 k (l0_0.length : Int) ((l0_1.length : Int) != (l0_0.length : Int)) l0_0 l0_1) else (spec_IsValidDfa.j0 k (l0_0.length : Int) true l0_0 l0_1))) = some r := h
 clear h
 have HC2 := Aside0.mk H
 clear H
 go_enter Try.func35, Try.ntmps35
 go_upto_region 2 with (first | ((with_reducible refine gate_dst (N := 1) rfl ?_); (try (refine gate_guard (by rfl) ?_; dsimp only)); refine box_event ?hg (N := 1) ?hd (cs := #[.slice A0_0 l0_0.length c0_0, .slice A0_1 l0_1.length c0_1]) (t := 27) ?hr ?_; (case hd => rfl); (case hg => rfl); (case hr => first | (go_simp; done) | (go_simp; rfl)); intro gb113 hg w3 hbox hb; have n0_ := Aside0.mk (below_step (by repeat (first | (with_reducible first | exact HB.out | apply below_alloc | apply pw_below_drewN | apply below_drew1) | exact HB.out)) hb); have n1_ := Aside0.mk (hbox); have n2_ := Aside0.mk ((by rw [hg]; exact (below_size (by repeat (first | (with_reducible first | exact HB.out | apply below_alloc | apply pw_below_drewN | apply below_drew1) | exact HB.out))) : w.heap.size ≤ gb113)); have n3_ := Aside0.mk ((by rw [hg]; exact (below_size (by repeat (first | (with_reducible first | exact HB.out | apply below_alloc | apply pw_below_drewN | apply below_drew1) | exact HB.out))) : w.heap.size ≤ gb113)); clear HB; have HB := n0_; have BK113 := n1_; have GW113 := n2_; have GE113 := n3_; clear n0_ n1_ n2_ n3_; clear hb hbox hg; have hcz4_0 : w3.cell? ⟨gb113, 0, none⟩ = some (.slice A0_0 l0_0.length c0_0) := (blk_cell BK113.out 0).trans rfl; have hcz4_1 : w3.cell? ⟨gb113, 1, none⟩ = some (.slice A0_1 l0_1.length c0_1) := (blk_cell BK113.out 1).trans rfl; have hfz4_0 := blk_frozen BK113.out 0; have hfz4_1 := blk_frozen BK113.out 1))
 (try simp only [Act.put, List.setIfInBounds_toArray, List.set_cons_zero, List.set_cons_succ])
 go_cut [18] (fun v18 wc => ∃ (kq : Nat) (x18_1 : Bool), v18 = .bool x18_1 ∧ Aside0 (spec_IsValidDfa.j0 kq (l0_0.length : Int) x18_1 l0_0 l0_1 = some r) ∧ Aside0 (kq ≤ k) ∧ Aside0 (wc.heap[gb113]? = some (.cells #[(.slice A0_0 l0_0.length c0_0), (.slice A0_1 l0_1.length c0_1)] 27 (0, 0))) ∧ Aside0 (Below w.heap.size w wc))
 case first =>
  have H := HC2.out
  clear HC2
  replace H := Option.bind_eq_some_iff.mp H
  obtain ⟨t114, A50, H⟩ := H
  replace H : (if t114 = true then (spec_IsValidDfa.j0 k (l0_0.length : Int) ((l0_1.length : Int) != (l0_0.length : Int)) l0_0 l0_1) else (spec_IsValidDfa.j0 k (l0_0.length : Int) true l0_0 l0_1)) = some r := H
  have A5 := Aside0.mk A50
  clear A50
  by_cases c6 : t114 = true
  ·subst c6
   have H1 : (spec_IsValidDfa.j0 k (l0_0.length : Int) ((l0_1.length : Int) != (l0_0.length : Int)) l0_0 l0_1) = some r := by rw [if_pos rfl] at H; exact H
   clear H
   have H := H1
   clear H1
   have H' := Aside0.mk H
   clear H
   go_wp2_with (first | ((with_reducible refine gate_callee (f := 95) rfl ?_); refine goesL_ (some 10) rfl rfl Try.func95 (by kernel_rfl) rfl #[.int .i64 (l0_0.length : Int), .int .i64 1, .int .i64 40] rfl (by (try simp only [List.map_toArray, List.map_cons, List.map_nil]); first | done | rfl | (simp only [List.length_drop, List.length_take]; rfl)) ?_; (with_reducible refine (spec_l1In.calls (l0_0.length : Int) 1 40 true _ A5.out).mono ?_); rintro e w' ⟨rfl, ⟨nd, rfl⟩⟩; refine ⟨_, rfl, ?_⟩; have hcz7_0 : w3.cell? ⟨gb113, 0, none⟩ = some (.slice A0_0 l0_0.length c0_0) := (blk_cell BK113.out 0).trans rfl; have hcz7_1 : w3.cell? ⟨gb113, 1, none⟩ = some (.slice A0_1 l0_1.length c0_1) := (blk_cell BK113.out 1).trans rfl; have hfz7_0 := blk_frozen BK113.out 0; have hfz7_1 := blk_frozen BK113.out 1))
   go_meet
   case rel => exact ⟨_, (((l0_1.length : Int) != (l0_0.length : Int))), (by first | rfl | (simp; done) | (simp [*]; done)), H', ⟨by first | omega | exact Nat.le_refl _⟩, ⟨by (with_reducible repeat (first | refine blk_drewN ?_ _ | refine blk_drew ?_ | refine blk_alloc ?_ _)); exact BK113.out⟩, ⟨by repeat (first | (with_reducible first | exact HB.out | apply below_alloc | apply pw_below_drewN | apply below_drew1 | refine below_set ?_ GE113.out) | exact HB.out)⟩⟩
  ·replace c6 := Bool.eq_false_iff.mpr c6
   subst c6
   have H1 : (spec_IsValidDfa.j0 k (l0_0.length : Int) true l0_0 l0_1) = some r := by rw [if_neg (show ¬ (false = true) by decide)] at H; exact H
   clear H
   have H := H1
   clear H1
   have H' := Aside0.mk H
   clear H
   go_wp2_with (first | ((with_reducible refine gate_callee (f := 95) rfl ?_); refine goesL_ (some 10) rfl rfl Try.func95 (by kernel_rfl) rfl #[.int .i64 (l0_0.length : Int), .int .i64 1, .int .i64 40] rfl (by (try simp only [List.map_toArray, List.map_cons, List.map_nil]); first | done | rfl | (simp only [List.length_drop, List.length_take]; rfl)) ?_; (with_reducible refine (spec_l1In.calls (l0_0.length : Int) 1 40 false _ A5.out).mono ?_); rintro e w' ⟨rfl, ⟨nd, rfl⟩⟩; refine ⟨_, rfl, ?_⟩))
   go_meet
   case rel => exact ⟨_, (true), (by first | rfl | (simp; done) | (simp [*]; done)), H', ⟨by first | omega | exact Nat.le_refl _⟩, ⟨by (with_reducible repeat (first | refine blk_drewN ?_ _ | refine blk_drew ?_ | refine blk_alloc ?_ _)); exact BK113.out⟩, ⟨by repeat (first | (with_reducible first | exact HB.out | apply below_alloc | apply pw_below_drewN | apply below_drew1 | refine below_set ?_ GE113.out) | exact HB.out)⟩⟩
 case rest =>
  clear HC2
  try clear p2
  try clear c3
  try clear c6
  try clear hcz4_0
  try clear hcz4_1
  try clear hcz7_0
  try clear hcz7_1
  try clear hfz4_0
  try clear hfz4_1
  try clear hfz7_0
  try clear hfz7_1
  obtain ⟨kq, x18_1, rfl, HA, HJ1, BK113, HB⟩ := hcut
  cases kq with
  | zero => exact absurd HA.out (by simp [spec_IsValidDfa.j0])
  | succ kj1 =>
   have H := HA.out
   clear HA
   simp only [spec_IsValidDfa.j0] at H
   by_cases c8 : x18_1 = true
   ·subst c8
    have H1 : (some false) = some r := by rw [if_pos rfl] at H; exact H
    clear H
    have H := H1
    clear H1
    obtain rfl := Option.some.inj H
    simp only [Option.some.injEq, Prod.mk.injEq] at H
    obtain ⟨rfl⟩ := H
    go_wp2
    go_ret
    exact ⟨by first | rfl | (simp [errW_none, errW_some] <;> rfl) | (simp [*, errW_none, errW_some] <;> rfl), by repeat (first | (with_reducible first | exact HB.out | apply below_alloc | apply pw_below_drewN | apply below_drew1 | refine below_set ?_ GE113.out) | exact HB.out)⟩
   ·replace c8 := Bool.eq_false_iff.mpr c8
    subst c8
    have H1 : (spec_IsValidDfa.l0 kj1 (l0_0.length : Int) 0 l0_0 l0_1) = some r := by rw [if_neg (show ¬ (false = true) by decide)] at H; exact H
    clear H
    have H := H1
    clear H1
    have H' := Aside0.mk H
    clear H
    go_wp2
    go_loopg [4] kj1 (fun kq v4 w' => ∃ (x4_2 : Int), v4 = .int .i64 x4_2 ∧ Aside0 (spec_IsValidDfa.l0 kq (l0_0.length : Int) x4_2 l0_0 l0_1 = some r) ∧ Aside0 (kq ≤ kj1) ∧ Aside0 (w'.heap[gb113]? = some (.cells #[(.slice A0_0 l0_0.length c0_0), (.slice A0_1 l0_1.length c0_1)] 27 (0, 0))) ∧ Aside0 (Below w.heap.size w w'))
    case atStart => exact ⟨(0), (by first | rfl | (simp; done) | (simp [*]; done)), H', ⟨Nat.le_refl _⟩, ⟨by (with_reducible repeat (first | refine blk_drewN ?_ _ | refine blk_drew ?_ | refine blk_alloc ?_ _)); exact BK113.out⟩, ⟨by repeat (first | (with_reducible first | exact HB.out | apply below_alloc | apply pw_below_drewN | apply below_drew1 | refine below_set ?_ GE113.out) | exact HB.out)⟩⟩
    case round =>
     clear H'
     try clear p2
     try clear c3
     try clear c6
     try clear c8
     try clear hcz4_0
     try clear hcz4_1
     try clear hcz7_0
     try clear hcz7_1
     try clear hfz4_0
     try clear hfz4_1
     try clear hfz7_0
     try clear hfz7_1
     try clear p2
     obtain ⟨x4_2, rfl, HA, HK2, BK113, HB⟩ := hrel
     cases gk with
     | zero => exact absurd HA.out (by simp [spec_IsValidDfa.l0])
     | succ k2 =>
      have H := HA.out
      clear HA
      simp only [spec_IsValidDfa.l0] at H
      by_cases c9 : x4_2 < (l0_0.length : Int)
      ·rw [if_pos c9] at H
       have c9b0 : decide (x4_2 < (l0_0.length : Int)) = true := decide_eq_true c9
       clear c9
       by_cases c10 : 0 ≤ x4_2
       ·rw [if_pos c10] at H
        have c10b0 : decide (0 ≤ x4_2) = true := decide_eq_true c10
        clear c10
        by_cases c11 : x4_2 < (l0_1.length : Int)
        ·rw [if_pos c11] at H
         have c11b0 : decide (x4_2 < (l0_1.length : Int)) = true := decide_eq_true c11
         clear c11
         by_cases c12 : ((rd_L1 l0_1 x4_2).length : Int) = 3
         ·rw [if_pos c12] at H
          have c12b0 : (((rd_L1 l0_1 x4_2).length : Int) == 3) = true := beq_iff_eq.mpr c12
          have c12b1 : (((rd_L1 l0_1 x4_2).length : Int) != 3) = false := bne_eq_false_iff_eq.mpr c12
          clear c12
          have H' := Aside0.mk H
          clear H
          have hcz13_0 : wr.cell? ⟨gb113, 0, none⟩ = some (.slice A0_0 l0_0.length c0_0) := (blk_cell BK113.out 0).trans rfl
          have hcz13_1 : wr.cell? ⟨gb113, 1, none⟩ = some (.slice A0_1 l0_1.length c0_1) := (blk_cell BK113.out 1).trans rfl
          have hfz13_0 := blk_frozen BK113.out 0
          have hfz13_1 := blk_frozen BK113.out 1
          have p115 : 0 ≤ (x4_2 : Int) := of_decide_eq_true (by first | (with_reducible assumption) | assumption)
          have q115 : x4_2 < (l0_1.length : Int) := of_decide_eq_true (by first | (with_reducible assumption) | assumption)
          obtain ⟨ad115, A115_0, c115_0, e115, hx115_0, hl115_0, hi115_0⟩ := at_L1 HR0_1.out x4_2 p115 q115
          cases e115
          replace hx115_0 := (HB.out.cell (World.block_lt_of_cell? w _ hx115_0)).trans hx115_0
          have HR115_0 := Aside0.mk hi115_0
          have HC115_0 := Aside0.mk hl115_0
          clear hi115_0 hl115_0
          replace p115 := eq_true p115
          replace q115 := eq_true q115
          go_wp2
          go_loopg [5] k2 (fun kq v5 w' => ∃ (x5_3 : Int), v5 = .int .i64 x5_3 ∧ Aside0 (spec_IsValidDfa.l1 kq (l0_0.length : Int) x4_2 x5_3 l0_0 l0_1 = some r) ∧ Aside0 (kq ≤ k2) ∧ Aside0 (w'.heap[gb113]? = some (.cells #[(.slice A0_0 l0_0.length c0_0), (.slice (some ad115) l0_1.length c0_1)] 27 (0, 0))) ∧ Aside0 (Below w.heap.size w w'))
          case atStart => exact ⟨(0), (by first | rfl | (simp; done) | (simp [*]; done)), H', ⟨Nat.le_refl _⟩, ⟨by (with_reducible repeat (first | refine blk_drewN ?_ _ | refine blk_drew ?_ | refine blk_alloc ?_ _)); exact BK113.out⟩, ⟨by repeat (first | (with_reducible first | exact HB.out | apply below_alloc | apply pw_below_drewN | apply below_drew1 | refine below_set ?_ GE113.out) | exact HB.out)⟩⟩
          case round =>
           clear H'
           try clear c1
           try clear p1
           try clear q1
           try clear hx1
           try clear p2
           try clear c3
           try clear c6
           try clear c8
           try clear c9
           try clear c9b0
           try clear c10
           try clear c10b0
           try clear c11
           try clear c11b0
           try clear p11
           try clear q11
           try clear hx11
           try clear c12
           try clear c12b0
           try clear c12b1
           try clear hcz13_0
           try clear hcz13_1
           try clear hcz4_0
           try clear hcz4_1
           try clear hcz7_0
           try clear hcz7_1
           try clear hfz13_0
           try clear hfz13_1
           try clear hfz4_0
           try clear hfz4_1
           try clear hfz7_0
           try clear hfz7_1
           try clear hx115_0
           try clear p115
           try clear p2
           try clear q115
           obtain ⟨x5_3, rfl, HA, HK3, BK113, HB⟩ := hrel
           cases gk with
           | zero => exact absurd HA.out (by simp [spec_IsValidDfa.l1])
           | succ k3 =>
            have H := HA.out
            clear HA
            simp only [spec_IsValidDfa.l1] at H
            by_cases c14 : 0 ≤ x4_2
            ·rw [if_pos c14] at H
             have c14b0 : decide (0 ≤ x4_2) = true := decide_eq_true c14
             clear c14
             by_cases c15 : x4_2 < (l0_1.length : Int)
             ·rw [if_pos c15] at H
              have c15b0 : decide (x4_2 < (l0_1.length : Int)) = true := decide_eq_true c15
              clear c15
              by_cases c16 : x5_3 < ((rd_L1 l0_1 x4_2).length : Int)
              ·rw [if_pos c16] at H
               have c16b0 : decide (x5_3 < ((rd_L1 l0_1 x4_2).length : Int)) = true := decide_eq_true c16
               clear c16
               by_cases c17 : 0 ≤ x5_3
               ·rw [if_pos c17] at H
                have c17b0 : decide (0 ≤ x5_3) = true := decide_eq_true c17
                clear c17
                replace H := Option.bind_eq_some_iff.mp H
                obtain ⟨t119, A180, H⟩ := H
                replace H : (if t119 = true then (spec_IsValidDfa.l1 k3 (l0_0.length : Int) x4_2 (wrap64 (x5_3 + 1)) l0_0 l0_1) else (some false)) = some r := H
                have A18 := Aside0.mk A180
                clear A180
                by_cases c19 : t119 = true
                ·subst c19
                 have H1 : (spec_IsValidDfa.l1 k3 (l0_0.length : Int) x4_2 (wrap64 (x5_3 + 1)) l0_0 l0_1) = some r := by rw [if_pos rfl] at H; exact H
                 clear H
                 have H := H1
                 clear H1
                 have H' := Aside0.mk H
                 clear H
                 have hcz20_0 : wr.cell? ⟨gb113, 0, none⟩ = some (.slice A0_0 l0_0.length c0_0) := (blk_cell BK113.out 0).trans rfl
                 have hcz20_1 : wr.cell? ⟨gb113, 1, none⟩ = some (.slice (some ad115) l0_1.length c0_1) := (blk_cell BK113.out 1).trans rfl
                 have hfz20_0 := blk_frozen BK113.out 0
                 have hfz20_1 := blk_frozen BK113.out 1
                 have p116 : 0 ≤ (x4_2 : Int) := of_decide_eq_true (by first | (with_reducible assumption) | assumption)
                 have q116 : x4_2 < (l0_1.length : Int) := of_decide_eq_true (by first | (with_reducible assumption) | assumption)
                 obtain ⟨ad116, A116_0, c116_0, e116, hx116_0, hl116_0, hi116_0⟩ := at_L1 HR0_1.out x4_2 p116 q116
                 obtain rfl : ad115 = ad116 := (by injection e116)
                 replace hx116_0 := (HB.out.cell (World.block_lt_of_cell? w _ hx116_0)).trans hx116_0
                 have HR116_0 := Aside0.mk hi116_0
                 have HC116_0 := Aside0.mk hl116_0
                 clear hi116_0 hl116_0
                 replace p116 := eq_true p116
                 replace q116 := eq_true q116
                 have p117 : 0 ≤ (x4_2 : Int) := of_decide_eq_true (by first | (with_reducible assumption) | assumption)
                 have q117 : x4_2 < (l0_1.length : Int) := of_decide_eq_true (by first | (with_reducible assumption) | assumption)
                 obtain ⟨ad117, A117_0, c117_0, e117, hx117_0, hl117_0, hi117_0⟩ := at_L1 HR0_1.out x4_2 p117 q117
                 obtain rfl : ad115 = ad117 := (by injection e117)
                 replace hx117_0 := (HB.out.cell (World.block_lt_of_cell? w _ hx117_0)).trans hx117_0
                 have HR117_0 := Aside0.mk hi117_0
                 have HC117_0 := Aside0.mk hl117_0
                 clear hi117_0 hl117_0
                 replace p117 := eq_true p117
                 replace q117 := eq_true q117
                 have ea_ := Option.some.inj (hx116_0.symm.trans hx117_0)
                 injection ea_ with ea_ en_ ec_
                 subst ea_
                 subst ec_
                 clear en_
                 have p118 : 0 ≤ (x5_3 : Int) := of_decide_eq_true (by first | (with_reducible assumption) | assumption)
                 have q118 : x5_3 < ((rd_L1 l0_1 x4_2).length : Int) := of_decide_eq_true (by first | (with_reducible assumption) | assumption)
                 obtain ⟨ad118, e118, hx118_0⟩ := Kd.at_int HR117_0.out x5_3 p118 q118
                 cases e118
                 replace hx118_0 := (HB.out.cell (World.block_lt_of_cell? w _ hx118_0)).trans hx118_0
                 replace p118 := eq_true p118
                 replace q118 := eq_true q118
                 go_wp2_with (first | ((with_reducible refine gate_callee (f := 95) rfl ?_); refine goesL_ (some 51) rfl rfl Try.func95 (by kernel_rfl) rfl #[.int .i64 (rd (rd_L1 l0_1 x4_2) x5_3), .int .i64 0, .int .i64 (wrap64 ((l0_0.length : Int) - 1))] rfl (by (try simp only [List.map_toArray, List.map_cons, List.map_nil]); first | done | rfl | (simp only [List.length_drop, List.length_take]; rfl)) ?_; (with_reducible refine (spec_l1In.calls (rd (rd_L1 l0_1 x4_2) x5_3) 0 (wrap64 ((l0_0.length : Int) - 1)) true _ A18.out).mono ?_); rintro e w' ⟨rfl, ⟨nd, rfl⟩⟩; refine ⟨_, rfl, ?_⟩))
                 go_roundg k3
                 case measure => have := HJ1.out; have := HK2.out; have := HK3.out; omega
                 case rel => exact ⟨(wrap64 (x5_3 + 1)), (by first | rfl | (simp; done) | (simp [*]; done)), H', ⟨by have := HJ1.out; have := HK2.out; have := HK3.out; omega⟩, ⟨by (with_reducible repeat (first | refine blk_drewN ?_ _ | refine blk_drew ?_ | refine blk_alloc ?_ _)); exact BK113.out⟩, ⟨by repeat (first | (with_reducible first | exact HB.out | apply below_alloc | apply pw_below_drewN | apply below_drew1 | refine below_set ?_ GE113.out) | exact HB.out)⟩⟩
                ·replace c19 := Bool.eq_false_iff.mpr c19
                 subst c19
                 have H1 : (some false) = some r := by rw [if_neg (show ¬ (false = true) by decide)] at H; exact H
                 clear H
                 have H := H1
                 clear H1
                 obtain rfl := Option.some.inj H
                 simp only [Option.some.injEq, Prod.mk.injEq] at H
                 obtain ⟨rfl⟩ := H
                 have hcz21_0 : wr.cell? ⟨gb113, 0, none⟩ = some (.slice A0_0 l0_0.length c0_0) := (blk_cell BK113.out 0).trans rfl
                 have hcz21_1 : wr.cell? ⟨gb113, 1, none⟩ = some (.slice (some ad115) l0_1.length c0_1) := (blk_cell BK113.out 1).trans rfl
                 have hfz21_0 := blk_frozen BK113.out 0
                 have hfz21_1 := blk_frozen BK113.out 1
                 have p116 : 0 ≤ (x4_2 : Int) := of_decide_eq_true (by first | (with_reducible assumption) | assumption)
                 have q116 : x4_2 < (l0_1.length : Int) := of_decide_eq_true (by first | (with_reducible assumption) | assumption)
                 obtain ⟨ad116, A116_0, c116_0, e116, hx116_0, hl116_0, hi116_0⟩ := at_L1 HR0_1.out x4_2 p116 q116
                 obtain rfl : ad115 = ad116 := (by injection e116)
                 replace hx116_0 := (HB.out.cell (World.block_lt_of_cell? w _ hx116_0)).trans hx116_0
                 have HR116_0 := Aside0.mk hi116_0
                 have HC116_0 := Aside0.mk hl116_0
                 clear hi116_0 hl116_0
                 replace p116 := eq_true p116
                 replace q116 := eq_true q116
                 have p117 : 0 ≤ (x4_2 : Int) := of_decide_eq_true (by first | (with_reducible assumption) | assumption)
                 have q117 : x4_2 < (l0_1.length : Int) := of_decide_eq_true (by first | (with_reducible assumption) | assumption)
                 obtain ⟨ad117, A117_0, c117_0, e117, hx117_0, hl117_0, hi117_0⟩ := at_L1 HR0_1.out x4_2 p117 q117
                 obtain rfl : ad115 = ad117 := (by injection e117)
                 replace hx117_0 := (HB.out.cell (World.block_lt_of_cell? w _ hx117_0)).trans hx117_0
                 have HR117_0 := Aside0.mk hi117_0
                 have HC117_0 := Aside0.mk hl117_0
                 clear hi117_0 hl117_0
                 replace p117 := eq_true p117
                 replace q117 := eq_true q117
                 have ea_ := Option.some.inj (hx116_0.symm.trans hx117_0)
                 injection ea_ with ea_ en_ ec_
                 subst ea_
                 subst ec_
                 clear en_
                 have p118 : 0 ≤ (x5_3 : Int) := of_decide_eq_true (by first | (with_reducible assumption) | assumption)
                 have q118 : x5_3 < ((rd_L1 l0_1 x4_2).length : Int) := of_decide_eq_true (by first | (with_reducible assumption) | assumption)
                 obtain ⟨ad118, e118, hx118_0⟩ := Kd.at_int HR117_0.out x5_3 p118 q118
                 cases e118
                 replace hx118_0 := (HB.out.cell (World.block_lt_of_cell? w _ hx118_0)).trans hx118_0
                 replace p118 := eq_true p118
                 replace q118 := eq_true q118
                 go_wp2_with (first | ((with_reducible refine gate_callee (f := 95) rfl ?_); refine goesL_ (some 51) rfl rfl Try.func95 (by kernel_rfl) rfl #[.int .i64 (rd (rd_L1 l0_1 x4_2) x5_3), .int .i64 0, .int .i64 (wrap64 ((l0_0.length : Int) - 1))] rfl (by (try simp only [List.map_toArray, List.map_cons, List.map_nil]); first | done | rfl | (simp only [List.length_drop, List.length_take]; rfl)) ?_; (with_reducible refine (spec_l1In.calls (rd (rd_L1 l0_1 x4_2) x5_3) 0 (wrap64 ((l0_0.length : Int) - 1)) false _ A18.out).mono ?_); rintro e w' ⟨rfl, ⟨nd, rfl⟩⟩; refine ⟨_, rfl, ?_⟩))
                 go_ret
                 exact ⟨by first | rfl | (simp [errW_none, errW_some] <;> rfl) | (simp [*, errW_none, errW_some] <;> rfl), by repeat (first | (with_reducible first | exact HB.out | apply below_alloc | apply pw_below_drewN | apply below_drew1 | refine below_set ?_ GE113.out) | exact HB.out)⟩
               ·rw [if_neg c17] at H
                exact absurd H (by simp)
              ·rw [if_neg c16] at H
               have c16b0 : decide (x5_3 < ((rd_L1 l0_1 x4_2).length : Int)) = false := decide_eq_false c16
               clear c16
               have H' := Aside0.mk H
               clear H
               have hcz22_0 : wr.cell? ⟨gb113, 0, none⟩ = some (.slice A0_0 l0_0.length c0_0) := (blk_cell BK113.out 0).trans rfl
               have hcz22_1 : wr.cell? ⟨gb113, 1, none⟩ = some (.slice (some ad115) l0_1.length c0_1) := (blk_cell BK113.out 1).trans rfl
               have hfz22_0 := blk_frozen BK113.out 0
               have hfz22_1 := blk_frozen BK113.out 1
               have p116 : 0 ≤ (x4_2 : Int) := of_decide_eq_true (by first | (with_reducible assumption) | assumption)
               have q116 : x4_2 < (l0_1.length : Int) := of_decide_eq_true (by first | (with_reducible assumption) | assumption)
               obtain ⟨ad116, A116_0, c116_0, e116, hx116_0, hl116_0, hi116_0⟩ := at_L1 HR0_1.out x4_2 p116 q116
               obtain rfl : ad115 = ad116 := (by injection e116)
               replace hx116_0 := (HB.out.cell (World.block_lt_of_cell? w _ hx116_0)).trans hx116_0
               have HR116_0 := Aside0.mk hi116_0
               have HC116_0 := Aside0.mk hl116_0
               clear hi116_0 hl116_0
               replace p116 := eq_true p116
               replace q116 := eq_true q116
               go_wp2
               go_roundg k3
               case measure => have := HJ1.out; have := HK2.out; have := HK3.out; omega
               case rel => exact ⟨(wrap64 (x4_2 + 1)), (by first | rfl | (simp; done) | (simp [*]; done)), H', ⟨by have := HJ1.out; have := HK2.out; have := HK3.out; omega⟩, ⟨by (with_reducible repeat (first | refine blk_drewN ?_ _ | refine blk_drew ?_ | refine blk_alloc ?_ _)); exact BK113.out⟩, ⟨by repeat (first | (with_reducible first | exact HB.out | apply below_alloc | apply pw_below_drewN | apply below_drew1 | refine below_set ?_ GE113.out) | exact HB.out)⟩⟩
             ·rw [if_neg c15] at H
              exact absurd H (by simp)
            ·rw [if_neg c14] at H
             exact absurd H (by simp)
         ·rw [if_neg c12] at H
          have c12b0 : (((rd_L1 l0_1 x4_2).length : Int) == 3) = false := beq_eq_false_iff_ne.mpr c12
          have c12b1 : (((rd_L1 l0_1 x4_2).length : Int) != 3) = true := bne_iff_ne.mpr c12
          obtain rfl := Option.some.inj H
          simp only [Option.some.injEq, Prod.mk.injEq] at H
          obtain ⟨rfl⟩ := H
          have hcz23_0 : wr.cell? ⟨gb113, 0, none⟩ = some (.slice A0_0 l0_0.length c0_0) := (blk_cell BK113.out 0).trans rfl
          have hcz23_1 : wr.cell? ⟨gb113, 1, none⟩ = some (.slice A0_1 l0_1.length c0_1) := (blk_cell BK113.out 1).trans rfl
          have hfz23_0 := blk_frozen BK113.out 0
          have hfz23_1 := blk_frozen BK113.out 1
          have p115 : 0 ≤ (x4_2 : Int) := of_decide_eq_true (by first | (with_reducible assumption) | assumption)
          have q115 : x4_2 < (l0_1.length : Int) := of_decide_eq_true (by first | (with_reducible assumption) | assumption)
          obtain ⟨ad115, A115_0, c115_0, e115, hx115_0, hl115_0, hi115_0⟩ := at_L1 HR0_1.out x4_2 p115 q115
          cases e115
          replace hx115_0 := (HB.out.cell (World.block_lt_of_cell? w _ hx115_0)).trans hx115_0
          have HR115_0 := Aside0.mk hi115_0
          have HC115_0 := Aside0.mk hl115_0
          clear hi115_0 hl115_0
          replace p115 := eq_true p115
          replace q115 := eq_true q115
          go_wp2
          go_ret
          exact ⟨by first | rfl | (simp [errW_none, errW_some] <;> rfl) | (simp [*, errW_none, errW_some] <;> rfl), by repeat (first | (with_reducible first | exact HB.out | apply below_alloc | apply pw_below_drewN | apply below_drew1 | refine below_set ?_ GE113.out) | exact HB.out)⟩
        ·rw [if_neg c11] at H
         exact absurd H (by simp)
       ·rw [if_neg c10] at H
        exact absurd H (by simp)
      ·rw [if_neg c9] at H
       have c9b0 : decide (x4_2 < (l0_0.length : Int)) = false := decide_eq_false c9
       clear c9
       obtain rfl := Option.some.inj H
       simp only [Option.some.injEq, Prod.mk.injEq] at H
       obtain ⟨rfl⟩ := H
       go_wp2
       go_ret
       exact ⟨by first | rfl | (simp [errW_none, errW_some] <;> rfl) | (simp [*, errW_none, errW_some] <;> rfl), by repeat (first | (with_reducible first | exact HB.out | apply below_alloc | apply pw_below_drewN | apply below_drew1 | refine below_set ?_ GE113.out) | exact HB.out)⟩
end Go.Proofs.Ytogamkblkoobkaa.P
end
section
namespace Go.Proofs.Ytogamkblkoobkaa.Pl
open Go.RowKit Go.Proofs.Ytogamkblkoobkaa.P Go.Proofs.YtogamkblkoobkaaW.PrintWords Go.Proofs.YtogamkblkoobkaaW.PrintLast Go.Proofs.YtogamkblkoobkaaW.PrintMore Wk
set_option linter.unusedVariables false
set_option linter.unusedSimpArgs false
theorem rows_get (xs : List (List Int)) (i : Nat) (h : i < xs.length) : rd_L1 xs i = xs[i] := by
  simp [rd_L1, List.getD_eq_getElem?_getD, h]
theorem szRows_l0 (xs : List (List Int)) (hx : ∀ r ∈ xs, r.length ≤ 9223372036854775807) (hl : xs.length ≤ 1048576) : ∀ (d i : Nat) (left : Int), i + d = xs.length → 0 ≤ left → left ≤ 1048576 →
    ∃ r : Int, Ev (fun k => laws_szIntSS.l0 k xs left i) r ∧ -1 ≤ r ∧ r ≤ left ∧ (0 ≤ r → ∀ x ∈ xs.drop i, (x.length : Int) ≤ 1048576) := by
  intro d
  induction d with
  | zero =>
    intro i left h h0 h1
    refine ⟨left, next ?_, by omega, by omega, fun _ => by rw [List.drop_eq_nil_of_le (by omega)]; intro x hx; cases hx⟩
    simp only [laws_szIntSS.l0, if_neg (show ¬ (i : Int) < (xs.length : Int) by omega)]
    exact Ev.now _
  | succ d ih =>
    intro i left h h0 h1
    have hi : i < xs.length := by omega
    have hb := hx xs[i] (List.getElem_mem _)
    have hw : wrap64 (left - (xs[i].length : Int)) = left - (xs[i].length : Int) := w64 (by omega) (by omega)
    by_cases hneg : left - (xs[i].length : Int) < 0
    · refine ⟨-1, next ?_, by omega, by omega, fun h => by omega⟩
      simp only [laws_szIntSS.l0, if_pos (show (i : Int) < (xs.length : Int) by omega), if_pos (show (0 : Int) ≤ i by omega), laws_szIntS.f, rows_get xs i hi, hw, if_pos hneg, Option.bind_some, if_pos (show (-1 : Int) < 0 by omega)]
      exact Ev.now _
    · obtain ⟨r, hr, h2, h3, h4⟩ := ih (i + 1) (left - (xs[i].length : Int)) (by omega) (by omega) (by omega)
      refine ⟨r, next ?_, h2, by omega, fun hr0 x hx => ?_⟩
      · simp only [laws_szIntSS.l0, if_pos (show (i : Int) < (xs.length : Int) by omega), if_pos (show (0 : Int) ≤ i by omega), laws_szIntS.f, rows_get xs i hi, hw, if_neg hneg, Option.bind_some, up1 (show i < 9223372036854775807 by omega)]
        exact hr
      · rw [List.drop_eq_getElem_cons hi] at hx
        rcases List.mem_cons.mp hx with rfl | hx
        · omega
        · exact h4 hr0 x hx
theorem szDfa (a : List Bool) (n : List (List Int)) (ha : a.length ≤ 9223372036854775807) (hn : n.length ≤ 9223372036854775807) (hx : ∀ r ∈ n, r.length ≤ 9223372036854775807) (left : Int) (h0 : 0 ≤ left) (h1 : left ≤ 1048576) :
    ∃ r : Int, Ev (fun k => laws_szDfa.f k a n left) r ∧ -1 ≤ r ∧ r ≤ left ∧ (0 ≤ r → a.length ≤ 1048576 ∧ n.length ≤ 1048576 ∧ ∀ x ∈ n, x.length ≤ 1048576) := by
  simp only [laws_szDfa.f, laws_szBoolS.f, laws_szIntSS.f]
  have hw : wrap64 (left - (a.length : Int)) = left - (a.length : Int) := w64 (by omega) (by omega)
  rw [hw]
  by_cases hneg : left - (a.length : Int) < 0
  · refine ⟨-1, ?_, by omega, by omega, fun h => by omega⟩
    simp only [if_pos hneg, Option.bind_some, if_pos (show (-1 : Int) < 0 by omega)]
    exact Ev.now _
  · have hw2 : wrap64 (left - (a.length : Int) - (n.length : Int)) = left - (a.length : Int) - (n.length : Int) := w64 (by omega) (by omega)
    simp only [if_neg hneg, Option.bind_some, hw2]
    by_cases hneg2 : left - (a.length : Int) - (n.length : Int) < 0
    · refine ⟨-1, ?_, by omega, by omega, fun h => by omega⟩
      simp only [if_pos hneg2, Option.bind_some, if_pos (show (-1 : Int) < 0 by omega)]
      exact Ev.now _
    · obtain ⟨r, hr, h2, h3, h4⟩ := szRows_l0 n hx (by omega) n.length 0 (left - (a.length : Int) - (n.length : Int)) (by omega) (by omega) (by omega)
      refine ⟨r, ?_, h2, by omega, fun hr0 => ⟨by omega, by omega, fun x hx => ?_⟩⟩
      · simp only [if_neg hneg2]
        refine Ev.bind hr ?_
        by_cases hr0 : r < 0
        · simp only [if_pos hr0]
          exact ev_some (by omega)
        · simp only [if_neg hr0]
          exact Ev.now _
      · have := h4 hr0 x hx
        omega
theorem toBools_l0 (xs : List Bool) (hl : xs.length ≤ 1048576) : ∀ (d i : Nat) (ys : List Bool), i + d = xs.length → ys.length = xs.length → (∀ j, j < i → ys[j]? = xs[j]?) → Ev (fun k => laws_toBoolS.l0 k xs ys i) xs := by
  intro d
  induction d with
  | zero =>
    intro i ys h hy hj
    refine next ?_
    simp only [laws_toBoolS.l0, if_neg (show ¬ (i : Int) < (xs.length : Int) by omega)]
    refine ev_some (List.ext_getElem? fun j => ?_)
    by_cases hlt : j < i
    · exact hj j hlt
    · rw [List.getElem?_eq_none (by omega), List.getElem?_eq_none (by omega)]
  | succ d ih =>
    intro i ys h hy hj
    have hi : i < xs.length := by omega
    refine next ?_
    simp only [laws_toBoolS.l0, if_pos (show (i : Int) < (xs.length : Int) by omega), if_pos (show (0 : Int) ≤ i by omega), if_pos (show (i : Int) < (ys.length : Int) by omega), rdOf_get _ xs i hi, up1 (show i < 9223372036854775807 by omega), Int.toNat_natCast]
    refine ih (i + 1) _ (by omega) (by simp [hy]) (fun j hlt => ?_)
    by_cases e : j = i
    · subst e
      rw [List.getElem?_set_self (by omega), List.getElem?_eq_getElem hi]
    · rw [List.getElem?_set_ne (by omega)]
      exact hj j (by omega)
theorem toBools (xs : List Bool) (hl : xs.length ≤ 1048576) : Ev (fun k => laws_toBoolS.f k xs) xs := by
  simp only [laws_toBoolS.f, if_pos (show (0 : Int) ≤ (xs.length : Int) by omega), Int.toNat_natCast, if_pos (show xs.length ≤ 281474976710656 by omega)]
  exact toBools_l0 xs hl xs.length 0 _ (by omega) (by simp) (fun j hj => by omega)
theorem toInts_l0 (xs : List Int) (hl : xs.length ≤ 1048576) : ∀ (d i : Nat) (ys : List Int), i + d = xs.length → ys.length = xs.length → (∀ j, j < i → ys[j]? = xs[j]?) → Ev (fun k => laws_toIntS.l0 k xs ys i) xs := by
  intro d
  induction d with
  | zero =>
    intro i ys h hy hj
    refine next ?_
    simp only [laws_toIntS.l0, if_neg (show ¬ (i : Int) < (xs.length : Int) by omega)]
    refine ev_some (List.ext_getElem? fun j => ?_)
    by_cases hlt : j < i
    · exact hj j hlt
    · rw [List.getElem?_eq_none (by omega), List.getElem?_eq_none (by omega)]
  | succ d ih =>
    intro i ys h hy hj
    have hi : i < xs.length := by omega
    refine next ?_
    simp only [laws_toIntS.l0, if_pos (show (i : Int) < (xs.length : Int) by omega), if_pos (show (0 : Int) ≤ i by omega), if_pos (show (i : Int) < (ys.length : Int) by omega), rd_get xs i hi, up1 (show i < 9223372036854775807 by omega), Int.toNat_natCast]
    refine ih (i + 1) _ (by omega) (by simp [hy]) (fun j hlt => ?_)
    by_cases e : j = i
    · subst e
      rw [List.getElem?_set_self (by omega), List.getElem?_eq_getElem hi]
    · rw [List.getElem?_set_ne (by omega)]
      exact hj j (by omega)
theorem toInts (xs : List Int) (hl : xs.length ≤ 1048576) : Ev (fun k => laws_toIntS.f k xs) xs := by
  simp only [laws_toIntS.f, if_pos (show (0 : Int) ≤ (xs.length : Int) by omega), Int.toNat_natCast, if_pos (show xs.length ≤ 35184372088832 by omega)]
  exact toInts_l0 xs hl xs.length 0 _ (by omega) (by simp) (fun j hj => by omega)
theorem toRows_l0 (xs : List (List Int)) (hl : xs.length ≤ 1048576) (hx : ∀ x ∈ xs, x.length ≤ 1048576) : ∀ (d i : Nat) (ys : List (List Int)), i + d = xs.length → ys.length = xs.length → (∀ j, j < i → ys[j]? = xs[j]?) → Ev (fun k => laws_toIntSS.l0 k xs ys i) xs := by
  intro d
  induction d with
  | zero =>
    intro i ys h hy hj
    refine next ?_
    simp only [laws_toIntSS.l0, if_neg (show ¬ (i : Int) < (xs.length : Int) by omega)]
    refine ev_some (List.ext_getElem? fun j => ?_)
    by_cases hlt : j < i
    · exact hj j hlt
    · rw [List.getElem?_eq_none (by omega), List.getElem?_eq_none (by omega)]
  | succ d ih =>
    intro i ys h hy hj
    have hi : i < xs.length := by omega
    refine next ?_
    simp only [laws_toIntSS.l0, if_pos (show (i : Int) < (xs.length : Int) by omega), if_pos (show (0 : Int) ≤ i by omega), rows_get xs i hi]
    refine Ev.bind (toInts xs[i] (hx _ (List.getElem_mem _))) ?_
    simp only [if_pos (show (i : Int) < (ys.length : Int) by omega), up1 (show i < 9223372036854775807 by omega), Int.toNat_natCast]
    refine ih (i + 1) _ (by omega) (by simp [hy]) (fun j hlt => ?_)
    by_cases e : j = i
    · subst e
      rw [List.getElem?_set_self (by omega), List.getElem?_eq_getElem hi]
    · rw [List.getElem?_set_ne (by omega)]
      exact hj j (by omega)
theorem toRows (xs : List (List Int)) (hl : xs.length ≤ 1048576) (hx : ∀ x ∈ xs, x.length ≤ 1048576) : Ev (fun k => laws_toIntSS.f k xs) xs := by
  simp only [laws_toIntSS.f, if_pos (show (0 : Int) ≤ (xs.length : Int) by omega), Int.toNat_natCast, if_pos (show xs.length ≤ 11728124029610 by omega)]
  exact toRows_l0 xs hl hx xs.length 0 _ (by omega) (by simp) (fun j hj => by omega)
theorem toDfa (a : List Bool) (n : List (List Int)) (ha : a.length ≤ 1048576) (hn : n.length ≤ 1048576) (hx : ∀ x ∈ n, x.length ≤ 1048576) : Ev (fun k => laws_toDfa.f k a n) (a, n) := by
  simp only [laws_toDfa.f]
  refine Ev.bind (toBools a ha) (Ev.bind (toRows n hn hx) ?_)
  exact Ev.now _
theorem sameInts_l0 (a b : List Int) (hl : a.length = b.length) (hn : a.length ≤ 1048576) : ∀ d i : Nat, i + d = a.length → Ev (fun k => laws_eqIntS.l0 k a b i) (decide (a.drop i = b.drop i)) := by
  intro d
  induction d with
  | zero =>
    intro i h
    refine next ?_
    simp only [laws_eqIntS.l0, if_neg (show ¬ (i : Int) < (a.length : Int) by omega)]
    exact ev_some (by rw [List.drop_eq_nil_of_le (by omega), List.drop_eq_nil_of_le (by omega)]; simp)
  | succ d ih =>
    intro i h
    refine next ?_
    have ha : i < a.length := by omega
    have hb : i < b.length := by omega
    have e : (a.drop i = b.drop i) ↔ (a[i] = b[i] ∧ a.drop (i + 1) = b.drop (i + 1)) := by
      rw [List.drop_eq_getElem_cons ha, List.drop_eq_getElem_cons hb]
      exact List.cons_eq_cons
    simp only [laws_eqIntS.l0, if_pos (show (i : Int) < (a.length : Int) by omega), if_pos (show (0 : Int) ≤ i by omega), if_pos (show (i : Int) < (b.length : Int) by omega), rd_get a i ha, rd_get b i hb]
    by_cases he : a[i] = b[i]
    · simp only [if_pos he, up1 (show i < 9223372036854775807 by omega)]
      exact ev_eq (ih (i + 1) (by omega)) (decide_eq_decide.mpr (by rw [e]; exact ⟨fun x => ⟨he, x⟩, fun x => x.2⟩))
    · simp only [if_neg he]
      exact ev_some (by rw [eq_comm, decide_eq_false_iff_not, e]; exact fun x => he x.1)
theorem sameInts (a b : List Int) (hn : a.length ≤ 1048576) : Ev (fun k => laws_eqIntS.f k a b) (decide (a = b)) := by
  simp only [laws_eqIntS.f]
  by_cases h : a.length = b.length
  · simp only [if_pos (show (a.length : Int) = (b.length : Int) by omega)]
    exact sameInts_l0 a b h hn a.length 0 (by omega)
  · simp only [if_neg (show ¬ (a.length : Int) = (b.length : Int) by omega)]
    exact ev_some (by simp; intro e; exact h (by rw [e]))
theorem sameBools_l0 (a b : List Bool) (hl : a.length = b.length) (hn : a.length ≤ 1048576) : ∀ d i : Nat, i + d = a.length → Ev (fun k => laws_eqBoolS.l0 k a b i) (decide (a.drop i = b.drop i)) := by
  intro d
  induction d with
  | zero =>
    intro i h
    refine next ?_
    simp only [laws_eqBoolS.l0, if_neg (show ¬ (i : Int) < (a.length : Int) by omega)]
    exact ev_some (by rw [List.drop_eq_nil_of_le (by omega), List.drop_eq_nil_of_le (by omega)]; simp)
  | succ d ih =>
    intro i h
    refine next ?_
    have ha : i < a.length := by omega
    have hb : i < b.length := by omega
    have e : (a.drop i = b.drop i) ↔ (a[i] = b[i] ∧ a.drop (i + 1) = b.drop (i + 1)) := by
      rw [List.drop_eq_getElem_cons ha, List.drop_eq_getElem_cons hb]
      exact List.cons_eq_cons
    simp only [laws_eqBoolS.l0, if_pos (show (i : Int) < (a.length : Int) by omega), if_pos (show (0 : Int) ≤ i by omega), if_pos (show (i : Int) < (b.length : Int) by omega), rdOf_get _ a i ha, rdOf_get _ b i hb]
    by_cases he : a[i] = b[i]
    · simp only [show (a[i] != b[i]) = false from bne_eq_false_iff_eq.mpr he, Bool.false_ne_true, if_false, up1 (show i < 9223372036854775807 by omega)]
      exact ev_eq (ih (i + 1) (by omega)) (decide_eq_decide.mpr (by rw [e]; exact ⟨fun x => ⟨he, x⟩, fun x => x.2⟩))
    · simp only [show (a[i] != b[i]) = true from bne_iff_ne.mpr he, if_true]
      exact ev_some (by rw [eq_comm, decide_eq_false_iff_not, e]; exact fun x => he x.1)
theorem sameBools (a b : List Bool) (hn : a.length ≤ 1048576) : Ev (fun k => laws_eqBoolS.f k a b) (decide (a = b)) := by
  simp only [laws_eqBoolS.f]
  by_cases h : a.length = b.length
  · simp only [if_pos (show (a.length : Int) = (b.length : Int) by omega)]
    exact sameBools_l0 a b h hn a.length 0 (by omega)
  · simp only [if_neg (show ¬ (a.length : Int) = (b.length : Int) by omega)]
    exact ev_some (by simp; intro e; exact h (by rw [e]))
theorem sameRows_l0 (a b : List (List Int)) (hl : a.length = b.length) (hn : a.length ≤ 1048576) (hx : ∀ x ∈ a, x.length ≤ 1048576) : ∀ d i : Nat, i + d = a.length → Ev (fun k => laws_eqIntSS.l0 k a b i) (decide (a.drop i = b.drop i)) := by
  intro d
  induction d with
  | zero =>
    intro i h
    refine next ?_
    simp only [laws_eqIntSS.l0, if_neg (show ¬ (i : Int) < (a.length : Int) by omega)]
    exact ev_some (by rw [List.drop_eq_nil_of_le (by omega), List.drop_eq_nil_of_le (by omega)]; simp)
  | succ d ih =>
    intro i h
    refine next ?_
    have ha : i < a.length := by omega
    have hb : i < b.length := by omega
    have e : (a.drop i = b.drop i) ↔ (a[i] = b[i] ∧ a.drop (i + 1) = b.drop (i + 1)) := by
      rw [List.drop_eq_getElem_cons ha, List.drop_eq_getElem_cons hb]
      exact List.cons_eq_cons
    simp only [laws_eqIntSS.l0, if_pos (show (i : Int) < (a.length : Int) by omega), if_pos (show (0 : Int) ≤ i by omega), if_pos (show (i : Int) < (b.length : Int) by omega), rows_get a i ha, rows_get b i hb]
    refine Ev.bind (sameInts a[i] b[i] (hx _ (List.getElem_mem _))) ?_
    by_cases he : a[i] = b[i]
    · simp only [decide_eq_true he, if_true, up1 (show i < 9223372036854775807 by omega)]
      exact ev_eq (ih (i + 1) (by omega)) (decide_eq_decide.mpr (by rw [e]; exact ⟨fun x => ⟨he, x⟩, fun x => x.2⟩))
    · simp only [decide_eq_false he, Bool.false_ne_true, if_false]
      exact ev_some (by rw [eq_comm, decide_eq_false_iff_not, e]; exact fun x => he x.1)
theorem sameRows (a b : List (List Int)) (hn : a.length ≤ 1048576) (hx : ∀ x ∈ a, x.length ≤ 1048576) : Ev (fun k => laws_eqIntSS.f k a b) (decide (a = b)) := by
  simp only [laws_eqIntSS.f]
  by_cases h : a.length = b.length
  · simp only [if_pos (show (a.length : Int) = (b.length : Int) by omega)]
    exact sameRows_l0 a b h hn hx a.length 0 (by omega)
  · simp only [if_neg (show ¬ (a.length : Int) = (b.length : Int) by omega)]
    exact ev_some (by simp; intro e; exact h (by rw [e]))
theorem sameDfa (a : List Bool) (n : List (List Int)) (a2 : List Bool) (n2 : List (List Int)) (ha : a.length ≤ 1048576) (hn : n.length ≤ 1048576) (hx : ∀ x ∈ n, x.length ≤ 1048576) : Ev (fun k => laws_eqDfa.f k a n a2 n2) (decide (a = a2) && decide (n = n2)) := by
  simp only [laws_eqDfa.f]
  refine Ev.bind (sameBools a a2 ha) ?_
  by_cases h1 : a = a2
  · simp only [decide_eq_true h1, if_true, Bool.true_and]
    refine Ev.bind (sameRows n n2 hn hx) ?_
    by_cases h2 : n = n2
    · simp only [decide_eq_true h2, if_true]
      exact Ev.now _
    · simp only [decide_eq_false h2, Bool.false_ne_true, if_false]
      exact Ev.now _
  · simp only [decide_eq_false h1, Bool.false_ne_true, if_false, Bool.false_and]
    exact Ev.now _
theorem spec_in (a lo hi : Int) : spec_l1In.f a lo hi = some (decide (lo ≤ a) && decide (a ≤ hi)) := by
  unfold spec_l1In.f
  by_cases h : a ≥ lo
  · rw [if_pos h, decide_eq_true (show lo ≤ a from h), Bool.true_and]
  · rw [if_neg h, decide_eq_false (show ¬ lo ≤ a from h), Bool.false_and]
theorem badState_eq (n q : Int) : badState n q = !(decide (0 ≤ q) && decide (q ≤ n - 1)) := by
  unfold badState
  cases decide (0 ≤ q) <;> cases decide (q ≤ n - 1) <;> rfl
theorem spec_valid_l1 (acc : List Bool) (nxt : List (List Int)) (q : Nat) (hq : q < nxt.length) (hnl : nxt.length ≤ 1048576) (h3 : nxt[q].length = 3) (hn1 : 1 ≤ acc.length) (hn : acc.length ≤ 40) (res : Bool) (h : Ev (fun k => spec_IsValidDfa.l0 k (acc.length : Int) ((q + 1 : Nat) : Int) acc nxt) res) :
    ∀ d i : Nat, i + d = 3 → Ev (fun k => spec_IsValidDfa.l1 k (acc.length : Int) q i acc nxt) (if (nxt[q].drop i).any (badState acc.length) = true then false else res) := by
  intro d
  induction d with
  | zero =>
    intro i hd
    refine next ?_
    simp only [spec_IsValidDfa.l1, if_pos (show (0 : Int) ≤ q by omega), if_pos (show (q : Int) < (nxt.length : Int) by omega), rows_get nxt q hq, if_neg (show ¬ (i : Int) < (nxt[q].length : Int) by omega)]
    rw [List.drop_eq_nil_of_le (by omega), List.any_nil, if_neg (by simp)]
    simp only [up1 (show q < 9223372036854775807 by omega)]
    exact h
  | succ d ih =>
    intro i hd
    refine next ?_
    have hi : i < nxt[q].length := by omega
    have hw : wrap64 ((acc.length : Int) - 1) = (acc.length : Int) - 1 := w64 (by omega) (by omega)
    simp only [spec_IsValidDfa.l1, if_pos (show (0 : Int) ≤ q by omega), if_pos (show (q : Int) < (nxt.length : Int) by omega), rows_get nxt q hq, if_pos (show (i : Int) < (nxt[q].length : Int) by omega), if_pos (show (0 : Int) ≤ i by omega), rd_get nxt[q] i hi, spec_in, Option.bind_some, hw, up1 (show i < 9223372036854775807 by omega)]
    rw [List.drop_eq_getElem_cons hi, List.any_cons]
    have hbe := badState_eq (acc.length : Int) nxt[q][i]
    by_cases hb : badState acc.length nxt[q][i] = true
    · have hb2 : (decide (0 ≤ nxt[q][i]) && decide (nxt[q][i] ≤ (acc.length : Int) - 1)) = false := by
        rw [hb] at hbe
        cases hc : (decide (0 ≤ nxt[q][i]) && decide (nxt[q][i] ≤ (acc.length : Int) - 1)) with
        | true => rw [hc] at hbe; cases hbe
        | false => rfl
      simp only [hb2, Bool.false_ne_true, if_false, hb, Bool.true_or, if_true]
      exact Ev.now _
    · have hb2 : (decide (0 ≤ nxt[q][i]) && decide (nxt[q][i] ≤ (acc.length : Int) - 1)) = true := by
        rw [eq_false_of_ne_true hb] at hbe
        cases hc : (decide (0 ≤ nxt[q][i]) && decide (nxt[q][i] ≤ (acc.length : Int) - 1)) with
        | true => rfl
        | false => rw [hc] at hbe; cases hbe
      simp only [hb2, if_true, eq_false_of_ne_true hb, Bool.false_or]
      exact ih (i + 1) (by omega)
theorem spec_valid_l0 (acc : List Bool) (nxt : List (List Int)) (hl : nxt.length = acc.length) (hn1 : 1 ≤ acc.length) (hn : acc.length ≤ 40) :
    ∀ d q : Nat, q + d = acc.length → Ev (fun k => spec_IsValidDfa.l0 k (acc.length : Int) q acc nxt) (!((nxt.drop q).any (badRow acc.length))) := by
  intro d
  induction d with
  | zero =>
    intro q hd
    refine next ?_
    simp only [spec_IsValidDfa.l0, if_neg (show ¬ (q : Int) < (acc.length : Int) by omega)]
    exact ev_some (by rw [List.drop_eq_nil_of_le (by omega)]; rfl)
  | succ d ih =>
    intro q hd
    have hq : q < nxt.length := by omega
    refine next ?_
    simp only [spec_IsValidDfa.l0, if_pos (show (q : Int) < (acc.length : Int) by omega), if_pos (show (0 : Int) ≤ q by omega), if_pos (show (q : Int) < (nxt.length : Int) by omega), rows_get nxt q hq]
    rw [List.drop_eq_getElem_cons hq, List.any_cons]
    by_cases h3 : nxt[q].length = 3
    · simp only [if_pos (show (nxt[q].length : Int) = 3 by omega)]
      refine ev_eq (spec_valid_l1 acc nxt q hq (by omega) h3 hn1 hn _ (ih (q + 1) (by omega)) 3 0 rfl) ?_
      rw [List.drop_zero]
      have e : badRow acc.length nxt[q] = nxt[q].any (badState acc.length) := by simp [badRow, h3]
      rw [e]
      cases nxt[q].any (badState acc.length) <;> simp
    · simp only [if_neg (show ¬ (nxt[q].length : Int) = 3 by omega)]
      exact ev_some (by simp [badRow, h3])
theorem spec_valid (acc : List Bool) (nxt : List (List Int)) (ha : acc.length ≤ 1048576) (hn : nxt.length ≤ 1048576) : Ev (fun k => spec_IsValidDfa.f k acc nxt) (validD acc nxt) := by
  have jt : ∀ b : Bool, Ev (fun k => spec_IsValidDfa.j0 k (acc.length : Int) true acc nxt) false := by
    intro b
    refine next ?_
    simp only [spec_IsValidDfa.j0, if_true]
    exact Ev.now _
  simp only [spec_IsValidDfa.f, spec_in, Option.bind_some, validD]
  by_cases h : 1 ≤ acc.length ∧ acc.length ≤ 40
  · have e1 : (decide ((1 : Int) ≤ (acc.length : Int)) && decide ((acc.length : Int) ≤ 40)) = true := by
      rw [decide_eq_true (show (1 : Int) ≤ (acc.length : Int) by omega), decide_eq_true (show (acc.length : Int) ≤ 40 by omega)]; rfl
    simp only [e1, if_true, decide_eq_true h.1, decide_eq_true h.2, Bool.true_and]
    by_cases hl : nxt.length = acc.length
    · have e2 : ((nxt.length : Int) != (acc.length : Int)) = false := by rw [bne_eq_false_iff_eq]; omega
      simp only [e2, decide_eq_true hl, Bool.true_and]
      refine next ?_
      simp only [spec_IsValidDfa.j0, Bool.false_ne_true, if_false]
      exact spec_valid_l0 acc nxt hl h.1 h.2 acc.length 0 (by omega)
    · have e2 : ((nxt.length : Int) != (acc.length : Int)) = true := by rw [bne_iff_ne]; omega
      simp only [e2, decide_eq_false hl, Bool.false_and]
      exact jt true
  · have e1 : (decide ((1 : Int) ≤ (acc.length : Int)) && decide ((acc.length : Int) ≤ 40)) = false := by
      by_cases h1 : 1 ≤ acc.length
      · rw [decide_eq_false (show ¬ (acc.length : Int) ≤ 40 by omega), Bool.and_false]
      · rw [decide_eq_false (show ¬ (1 : Int) ≤ (acc.length : Int) by omega), Bool.false_and]
    have e2 : (decide (1 ≤ acc.length) && decide (acc.length ≤ 40)) = false := by
      by_cases h1 : 1 ≤ acc.length
      · rw [decide_eq_false (show ¬ acc.length ≤ 40 by omega), Bool.and_false]
      · rw [decide_eq_false h1, Bool.false_and]
    simp only [e1, e2, Bool.false_ne_true, if_false, Bool.false_and]
    exact jt true
theorem lens {n : List (List Int)} (w : Rk.rowsOf (Rk.rowsOf (Rk.wfI .i64)) n) : ∀ r ∈ n, r.length ≤ 9223372036854775807 := fun r hr => (w.2 r hr).1
end Go.Proofs.Ytogamkblkoobkaa.Pl
end
section
namespace Go.Proofs.Ytogamkblkoobkaa.Bf
open Go.RowKit Go.Proofs.Ytogamkblkoobkaa.Pl Go.Proofs.Ytogamkblkoobkaa.Mp Go.Proofs.YtogamkblkoobkaaW.PrintWords Go.Proofs.YtogamkblkoobkaaW.PrintLast Go.Proofs.YtogamkblkoobkaaW.PrintMore
set_option linter.unusedVariables false
set_option linter.unusedSimpArgs false
set_option linter.unusedSectionVars false
section
variable {α : Type} [DecidableEq α]
def idx (s : List α) : α → Option Int := fun y => if y ∈ s then some (s.idxOf y : Int) else none
theorem idx_some {s : List α} {y : α} : (idx s y).isSome = decide (y ∈ s) := by unfold idx; split <;> simp_all
theorem idx_in {s : List α} {y : α} (h : y ∈ s) : (idx s y).isSome = true := by rw [idx_some]; exact decide_eq_true h
theorem idx_out {s : List α} {y : α} (h : y ∉ s) : (idx s y).isSome = false := by rw [idx_some]; exact decide_eq_false h
theorem idx_upd {s : List α} {y : α} (h : y ∉ s) : upd (idx s) y (s.length : Int) = idx (s ++ [y]) := by
  funext z
  unfold upd idx
  by_cases hz : z = y
  · subst hz
    rw [if_pos rfl, if_pos (by simp), List.idxOf_append, if_neg h]
    simp
  · rw [if_neg hz]
    by_cases hm : z ∈ s
    · rw [if_pos hm, if_pos (by simp [hm]), List.idxOf_append, if_pos hm]
    · rw [if_neg hm, if_neg (by simp [hm, hz])]
theorem idx_one (x : α) : upd (fun _ => none) x 0 = idx [x] := by
  funext z
  unfold upd idx
  by_cases hz : z = x
  · subst hz; simp
  · rw [if_neg hz, if_neg (by simp [hz])]
abbrev St (α : Type) := List α × List ByteArray
def put (y : α) (wd : ByteArray) (p : St α) : St α := if y ∈ p.1 then p else (p.1 ++ [y], p.2 ++ [wd])
end
section
variable {α : Type}
end
section
variable {α : Type} [DecidableEq α]
end
end Go.Proofs.Ytogamkblkoobkaa.Bf
end
section
namespace Go.Proofs.Ytogamkblkoobkaa.Wk
open Go.RowKit Go.Shelf Go.Proofs.Ytogamkblkoobkaa.P Go.Proofs.Ytogamkblkoobkaa.Pl Go.Proofs.Ytogamkblkoobkaa.Mp Go.Proofs.Ytogamkblkoobkaa.Bf Go.Proofs.YtogamkblkoobkaaW.PrintWords Go.Proofs.YtogamkblkoobkaaW.PrintLast Go.Proofs.YtogamkblkoobkaaW.PrintMore
set_option linter.unusedVariables false
set_option linter.unusedSimpArgs false
abbrev wfI (x : Int) : Prop := (Lit.int .i64 x).wf = true
theorem mapInt : MapTy Try.prog 118 3 3 .i64 (Value.int .i64) wfI := int_ty Try.prog Try.underlying118 Try.underlying3 Try.underlying3 (fun w => by kernel_rfl)
abbrev IsM (w : World) (b : Nat) (m : Int → Option Int) (c : Nat) : Prop := MapIs Try.prog 3 3 .i64 (Value.int .i64) wfI w b m c
end Go.Proofs.Ytogamkblkoobkaa.Wk
end
section
namespace Go.Proofs.Ytogamkblkoobkaa.Wk
open Go.RowKit Go.Shelf Go.Proofs.Ytogamkblkoobkaa.P Go.Proofs.Ytogamkblkoobkaa.Pl Go.Proofs.Ytogamkblkoobkaa.Mp Go.Proofs.Ytogamkblkoobkaa.Bf Go.Proofs.YtogamkblkoobkaaW.PrintWords Go.Proofs.YtogamkblkoobkaaW.PrintLast Go.Proofs.YtogamkblkoobkaaW.PrintMore
set_option linter.unusedVariables false
set_option linter.unusedSimpArgs false
abbrev Pr := Int × Int
def encP (x : Pr) : Value := .agg #[.int .i64 x.1, .int .i64 x.2]
abbrev wfP (x : Pr) : Prop := wfI x.1 ∧ wfI x.2
abbrev kdP : Kd Pr := Kd.pair (Kd.int .i64) (Kd.int .i64)
theorem laidOutP : laidOutB Try.prog = true := by kernel_rfl
theorem arrP : Go.WideMaps.ArrKey Try.prog 72 3 2 := ⟨Try.underlying72, by kernel_rfl, by kernel_rfl, by kernel_rfl⟩
theorem keyP (x : Pr) (h : wfP x) : ∃ l, keyOf Try.prog 72 (encP x) = some l := ⟨_, Go.WideMaps.keyOf_pair arrP Try.underlying3 ⟨Try.prog.types.size - 1, by have : 0 < Try.prog.types.size := of_decide_eq_true (by kernel_rfl); omega⟩ h.1 h.2⟩
theorem mapP : MapTy Try.prog 121 72 3 .i64 encP wfP where
  K := Go.Maps.Keyed.of_law (deep_law_laid laidOutP (m := 2) (by omega) (of_decide_eq_true (by kernel_rfl)) (by kernel_rfl) (by rw [Try.underlying72]))
  ht := Try.underlying121
  he := Try.underlying3
  hz := fun w => by kernel_rfl
  key := keyP
  inj := fun x y h => by
    unfold encP at h
    injection h with h
    have h1 := congrArg (fun z : Array Value => z[0]?) h
    have h2 := congrArg (fun z : Array Value => z[1]?) h
    simp at h1 h2
    exact Prod.ext h1 h2
theorem infoP : (Try.prog.info? 72).map (fun i => (i.zero, i.size, i.bytes)) = some (some (.agg #[.int .i64 0, .int .i64 0]), 2, 16) := by kernel_rfl
theorem cell_grown {w w' : World} {row : Option Nat} (hg : w.grownBy w' row) {a : Addr} (hlt : a.block < w.heap.size) (hne : some a.block ≠ row) {v : Value} (h : w.cell? a = some v) : w'.cell? a = some v := (World.cell?_of_block (hg.block _ hlt hne)).trans h
theorem at_pair {w : World} {A : Option Addr} {n : Nat} {xs : List Pr} (h : kdP.C w A n xs) (i : Nat) (hi : i < xs.length) (hn : n = xs.length) : ∃ ad, A = some ad ∧ w.cell? (ad.add (i * 2)) = some (.int .i64 xs[i].1) ∧ w.cell? ⟨(ad.add (i * 2)).block, (ad.add (i * 2)).off + 1, none⟩ = some (.int .i64 xs[i].2) := by
  obtain ⟨ad, c, hA, hl, hk, hc⟩ := Kd.C_get h (0, 0) (i : Int) (by omega) (by omega)
  rw [Int.toNat_natCast] at hk hc
  have e : xs.getD i (0, 0) = xs[i] := by rw [List.getD_eq_getElem?_getD, List.getElem?_eq_getElem hi]; rfl
  rw [e] at hk
  obtain ⟨c0, c1, rfl, h0, h1⟩ := hk
  have h0' : c0 = [.int .i64 xs[i].1] := h0
  have h1' : c1 = [.int .i64 xs[i].2] := h1
  subst h0'
  subst h1'
  have q0 := hc 0 _ rfl
  have q1 := hc 1 _ rfl
  refine ⟨ad, hA, q0, ?_⟩
  obtain ⟨b, o, sp⟩ := ad
  have hs : kdP.sz = 2 := rfl
  rw [hs] at q0 q1
  by_cases hi0 : i = 0
  · subst hi0
    have hsp : sp = none := by
      have := World.cell?_spot q0
      simpa [Addr.add] using this
    subst hsp
    simpa [Addr.add] using q1
  · have e1 : (⟨b, o, sp⟩ : Addr).add (i * 2) = ⟨b, o + i * 2, none⟩ := by simp [Addr.add] <;> omega
    have e2 : (⟨b, o, sp⟩ : Addr).add (i * 2 + 1) = ⟨b, o + i * 2 + 1, none⟩ := by simp [Addr.add] <;> omega
    rw [e1]
    rw [e2] at q1
    exact q1
abbrev IsMP (w : World) (b : Nat) (m : Pr → Option Int) (c : Nat) : Prop := MapIs Try.prog 72 3 .i64 encP wfP w b m c
end Go.Proofs.Ytogamkblkoobkaa.Wk
end
section
namespace Go.Proofs.Ytogamkblkoobkaa.Bf
open Go.Proofs.Ytogamkblkoobkaa.Pl
theorem nodup_le {α : Type} [DecidableEq α] : ∀ (s t : List α), s.Nodup → (∀ x ∈ s, x ∈ t) → s.length ≤ t.length
  | [], t, _, _ => Nat.zero_le _
  | a :: s, t, hn, hs => by
    rw [List.nodup_cons] at hn
    have hm := hs a List.mem_cons_self
    have h1 := nodup_le s (t.erase a) hn.2 (fun x hx => by
      have hne : x ≠ a := by rintro rfl; exact hn.1 hx
      exact (List.mem_erase_of_ne hne).mpr (hs x (List.mem_cons_of_mem _ hx)))
    rw [List.length_erase_of_mem hm] at h1
    have := List.length_pos_of_mem hm
    simp only [List.length_cons]
    omega
theorem card_range (n : Nat) (s : List Int) (hn : s.Nodup) (h : ∀ x ∈ s, 0 ≤ x ∧ x < n) : s.length ≤ n := by
  have := nodup_le s ((List.range n).map fun (i : Nat) => (i : Int)) hn (fun x hx => by
    have := h x hx
    exact List.mem_map.mpr ⟨x.toNat, List.mem_range.mpr (by omega), by omega⟩)
  simpa using this
end Go.Proofs.Ytogamkblkoobkaa.Bf
namespace Go.Proofs.Ytogamkblkoobkaa.Wk
open Go.RowKit Go.Shelf Go.Proofs.Ytogamkblkoobkaa.P Go.Proofs.Ytogamkblkoobkaa.Pl Go.Proofs.Ytogamkblkoobkaa.Mp Go.Proofs.Ytogamkblkoobkaa.Bf Go.Proofs.YtogamkblkoobkaaW.PrintWords Go.Proofs.YtogamkblkoobkaaW.PrintLast Go.Proofs.YtogamkblkoobkaaW.PrintMore
set_option linter.unusedVariables false
set_option linter.unusedSimpArgs false
def nxD (l1 : List (List Int)) (x : Int) (j : Nat) : Int := rd (l1.getD x.toNat []) j
theorem badState_eq2 (n q : Int) : badState n q = !(decide (0 ≤ q) && decide (q ≤ n - 1)) := by
  unfold badState
  cases decide (0 ≤ q) <;> cases decide (q ≤ n - 1) <;> rfl
theorem validD_facts {l0 : List Bool} {l1 : List (List Int)} (h : validD l0 l1 = true) : 1 ≤ l0.length ∧ l0.length ≤ 40 ∧ l1.length = l0.length ∧ ∀ r ∈ l1, r.length = 3 ∧ ∀ q ∈ r, 0 ≤ q ∧ q < l0.length := by
  simp only [validD, Bool.and_eq_true, decide_eq_true_eq, Bool.not_eq_true', List.any_eq_false] at h
  obtain ⟨⟨⟨h1, h2⟩, h3⟩, h4⟩ := h
  refine ⟨h1, h2, h3, fun r hr => ?_⟩
  have := h4 r hr
  simp only [badRow, Bool.or_eq_true, decide_eq_true_eq, not_or, List.any_eq_true, not_exists, not_and] at this
  refine ⟨by omega, fun x hx => ?_⟩
  have hb := this.2 x hx
  rw [badState_eq2] at hb
  simp at hb
  omega
end Go.Proofs.Ytogamkblkoobkaa.Wk
end
section
namespace Go.Proofs.Ytogamkblkoobkaa.Wk
open Go.RowKit Go.Shelf Go.Proofs.Ytogamkblkoobkaa.P Go.Proofs.Ytogamkblkoobkaa.Pl Go.Proofs.Ytogamkblkoobkaa.Mp Go.Proofs.Ytogamkblkoobkaa.Bf Go.Proofs.YtogamkblkoobkaaW.PrintWords Go.Proofs.YtogamkblkoobkaaW.PrintLast Go.Proofs.YtogamkblkoobkaaW.PrintMore
set_option linter.unusedVariables false
set_option linter.unusedSimpArgs false
section
variable {P : Program} {md : Region.Mode} {ops : Array Oper} {Q : Exit → Act → World → Prop}
theorem goesFn_ {oi : Oper} {N : Option Tmp} {a : Act} {w : World} {K : Act → World → Prop} (g : FuncId) (lb : Array Value) (t : Operand) {ar : Array Operand} {ts : Array TypeId} (args : Array Value) (eg : ∀ args w, (callFunc g args).run P w = .ok (.enter g args) w)
    (hw : Region.wanted oi (yielded ops a.tmps) = true) (hN : oi.dst = N) (hop : oi.op = .call { callee := .value t, args := ar, argTypes := ts }) (ht : a.eval t = .func (.func g) #[] lb) (hargs : ar.map a.eval = args)
    (h : Calls P g (args ++ lb) w fun e w' => ∃ v, e = .returned v ∧ K (a.put N v) w') : if Region.wanted oi (yielded ops a.tmps) = true then Oper.wp P oi a w K Q else K (a.put N undef) w := by
  refine call_ g (args ++ lb) hw hN ?_ h
  unfold execOp
  simp [hop, resolve, Deferred.ofValue, invoke, ht, hargs, eg]
end
def Tn1 : Bool × List (List Nat × List Nat) := (true, [([], []), ([0], [0]), ([], []), ([2], [2]), ([1, 3], [1, 3]), ([4], [4]), ([], []), ([5, 6], [5, 6]), ([7], [7]), ([], []), ([9], [9]), ([], []), ([11], [11]), ([10, 12], [10, 12]), ([13], [13]), ([], []), ([14, 15], [14, 15]), ([16], [16]), ([8, 17], [8, 17]), ([18, 0, 1, 2, 3, 4, 5, 6, 7, 8, 9, 10, 11, 12, 13, 14, 15, 16, 17, 18], [18])])
def Bn1 : List Nat := [0, 1, 0, 4, 15, 31, 0, 127, 255, 0, 512, 0, 2048, 7680, 15872, 0, 65024, 130560, 262143, 524287]
def nxP (l1 m1 : List (List Int)) (x : Pr) (j : Nat) : Pr := (nxD l1 x.1 j, nxD m1 x.2 j)
def gdP (good : Bool → Bool → Bool) (l0 m0 : List Bool) (x : Pr) : Bool := good (rdOf false l0 x.1) (rdOf false m0 x.2)
theorem card_pairs (n m : Nat) (s : List Pr) (hn : s.Nodup) (h : ∀ x ∈ s, (0 ≤ x.1 ∧ x.1 < n) ∧ 0 ≤ x.2 ∧ x.2 < m) : s.length ≤ n * m := by
  have h1 := nodup_le s ((List.range (n * m)).map fun (i : Nat) => (((i / m : Nat) : Int), ((i % m : Nat) : Int))) hn (fun x hx => by
    obtain ⟨⟨a1, a2⟩, b1, b2⟩ := h x hx
    obtain ⟨p, hp⟩ := Int.eq_ofNat_of_zero_le a1
    obtain ⟨q, hq⟩ := Int.eq_ofNat_of_zero_le b1
    have hq2 : q < m := by omega
    have hp2 : p < n := by omega
    refine List.mem_map.mpr ⟨p * m + q, List.mem_range.mpr ?_, ?_⟩
    · calc p * m + q < p * m + m := by omega
        _ = (p + 1) * m := by rw [Nat.succ_mul]
        _ ≤ n * m := Nat.mul_le_mul_right m hp2
    · have e1 : (p * m + q) / m = p := by rw [Nat.mul_comm, Nat.mul_add_div (by omega), Nat.div_eq_of_lt hq2, Nat.add_zero]
      have e2 : (p * m + q) % m = q := by rw [Nat.mul_comm, Nat.mul_add_mod, Nat.mod_eq_of_lt hq2]
      rw [e1, e2]
      exact Prod.ext hp.symm hq.symm)
  simpa using h1
end Go.Proofs.Ytogamkblkoobkaa.Wk
end
section
namespace Go.Proofs.Ytogamkblkoobkaa.Wk
open Go.RowKit Go.Proofs.Ytogamkblkoobkaa.P Go.Proofs.Ytogamkblkoobkaa.Mp Go.Proofs.Ytogamkblkoobkaa.Bf Go.Proofs.YtogamkblkoobkaaW.PrintWords Go.Proofs.YtogamkblkoobkaaW.PrintLast Go.Proofs.YtogamkblkoobkaaW.PrintMore
set_option linter.unusedVariables false
set_option linter.unusedSimpArgs false
abbrev Q4 := Int × Int × Int × Int
def enc4 (x : Q4) : Value := .agg #[.int .i64 x.1, .int .i64 x.2.1, .int .i64 x.2.2.1, .int .i64 x.2.2.2]
abbrev wf4 (x : Q4) : Prop := wfI x.1 ∧ wfI x.2.1 ∧ wfI x.2.2.1 ∧ wfI x.2.2.2
theorem laidOut4 : laidOutB Try.prog = true := by kernel_rfl
theorem arr4 : Go.WideMaps.ArrKey Try.prog 120 3 4 := ⟨Try.underlying120, by kernel_rfl, by kernel_rfl, by kernel_rfl⟩
theorem keyOf_four {P : Program} {k e : TypeId} {q : IntKind} (A : Go.WideMaps.ArrKey P k e 4) (he : P.underlying e = some (.int q)) (hsz : ∃ m, P.types.size = m + 1) {a b c d : Int} (wa : (Lit.int q a).wf = true) (wb : (Lit.int q b).wf = true) (wc : (Lit.int q c).wf = true) (wd : (Lit.int q d).wf = true) :
    keyOf P k (.agg #[.int q a, .int q b, .int q c, .int q d]) = some (.string (keyBytes [.int q a, .int q b, .int q c, .int q d])) := by
  have hkt := A.keyType hsz
  obtain ⟨m, hm⟩ := hsz
  unfold keyOf
  simp only [A.hu]
  rw [if_pos (by simp [hkt, Value.formed, A.hu, A.size]), hm]
  unfold Program.keyLits
  simp only [A.hu, Value.cells]
  rw [if_pos (by rw [A.size]; rfl), show List.range 4 = [0, 1, 2, 3] from rfl, List.mapM_cons, List.mapM_cons, List.mapM_cons, List.mapM_cons, List.mapM_nil]
  simp [A.one, Program.keyLits, he, wa, wb, wc, wd]
theorem key4 (x : Q4) (h : wf4 x) : ∃ l, keyOf Try.prog 120 (enc4 x) = some l := ⟨_, keyOf_four arr4 Try.underlying3 ⟨Try.prog.types.size - 1, by have : 0 < Try.prog.types.size := of_decide_eq_true (by kernel_rfl); omega⟩ h.1 h.2.1 h.2.2.1 h.2.2.2⟩
theorem map4 : MapTy Try.prog 119 120 3 .i64 enc4 wf4 where
  K := Go.Maps.Keyed.of_law (deep_law_laid laidOut4 (m := 2) (by omega) (of_decide_eq_true (by kernel_rfl)) (by kernel_rfl) (by rw [Try.underlying120]))
  ht := Try.underlying119
  he := Try.underlying3
  hz := fun w => by kernel_rfl
  key := key4
  inj := fun x y h => by
    unfold enc4 at h
    injection h with h
    have h1 := congrArg (fun z : Array Value => z[0]?) h
    have h2 := congrArg (fun z : Array Value => z[1]?) h
    have h3 := congrArg (fun z : Array Value => z[2]?) h
    have h4 := congrArg (fun z : Array Value => z[3]?) h
    simp at h1 h2 h3 h4
    obtain ⟨a, b, c, d⟩ := x
    obtain ⟨a', b', c', d'⟩ := y
    dsimp only at h1 h2 h3 h4
    rw [h1, h2, h3, h4]
abbrev IsM4 (w : World) (b : Nat) (m : Q4 → Option Int) (c : Nat) : Prop := MapIs Try.prog 120 3 .i64 enc4 wf4 w b m c
end Go.Proofs.Ytogamkblkoobkaa.Wk
end
section
namespace Go.Proofs.Ytogamkblkoobkaa.Lg
set_option linter.unusedVariables false
set_option linter.unusedSectionVars false
theorem nodup_len {α : Type} [DecidableEq α] : ∀ (s t : List α), s.Nodup → (∀ x ∈ s, x ∈ t) → s.length ≤ t.length
  | [], t, _, _ => Nat.zero_le _
  | a :: s, t, hn, hs => by
    rw [List.nodup_cons] at hn
    have hm := hs a List.mem_cons_self
    have h1 := nodup_len s (t.erase a) hn.2 (fun x hx => by
      have hne : x ≠ a := by rintro rfl; exact hn.1 hx
      exact (List.mem_erase_of_ne hne).mpr (hs x (List.mem_cons_of_mem _ hx)))
    rw [List.length_erase_of_mem hm] at h1
    have := List.length_pos_of_mem hm
    simp only [List.length_cons]
    omega
section
variable {α : Type} [DecidableEq α]
def add (L : List α) (y : α) : List α := if y ∈ L then L else L ++ [y]
def adds (L ys : List α) : List α := ys.foldl add L
inductive Runs (succ : α → List α) : List α → Nat → List α → Prop
  | stop {L : List α} {i : Nat} (h : L.length ≤ i) : Runs succ L i L
  | step {L R : List α} {i : Nat} (h : i < L.length) (hr : Runs succ (adds L (succ L[i])) (i + 1) R) : Runs succ L i R
theorem mem_add {L : List α} {y z : α} : z ∈ add L y ↔ z ∈ L ∨ z = y := by
  unfold add
  split
  · rename_i h
    constructor
    · exact Or.inl
    · rintro (q | rfl)
      · exact q
      · exact h
  · simp
theorem mem_adds {ys : List α} : ∀ {L : List α} {z : α}, z ∈ adds L ys ↔ z ∈ L ∨ z ∈ ys := by
  induction ys with
  | nil => intro L z; simp [adds]
  | cons y ys ih =>
    intro L z
    show z ∈ adds (add L y) ys ↔ _
    rw [ih, mem_add]
    simp only [List.mem_cons]
    constructor
    · rintro ((h | h) | h) <;> simp [h]
    · rintro (h | h | h) <;> simp [h]
theorem adds_nil (L : List α) : adds L [] = L := rfl
theorem adds_cons (L : List α) (y : α) (ys : List α) : adds L (y :: ys) = adds (add L y) ys := rfl
theorem adds_append (L ys zs : List α) : adds L (ys ++ zs) = adds (adds L ys) zs := by simp [adds, List.foldl_append]
theorem add_in {L : List α} {y : α} (h : y ∈ L) : add L y = L := by unfold add; rw [if_pos h]
theorem add_out {L : List α} {y : α} (h : y ∉ L) : add L y = L ++ [y] := by unfold add; rw [if_neg h]
theorem adds_in {ys : List α} : ∀ {L : List α}, (∀ y ∈ ys, y ∈ L) → adds L ys = L := by
  induction ys with
  | nil => intro L _; rfl
  | cons y ys ih =>
    intro L h
    rw [adds_cons, add_in (h y List.mem_cons_self)]
    exact ih fun z hz => h z (List.mem_cons_of_mem _ hz)
theorem add_pre (L : List α) (y : α) : L <+: add L y := by
  unfold add
  split
  · exact List.prefix_refl _
  · exact List.prefix_append _ _
theorem adds_pre (ys : List α) : ∀ L : List α, L <+: adds L ys := by
  induction ys with
  | nil => intro L; exact List.prefix_refl _
  | cons y ys ih => intro L; exact (add_pre L y).trans (ih _)
theorem nodup_add {L : List α} (h : L.Nodup) (y : α) : (add L y).Nodup := by
  unfold add
  split
  · exact h
  · rename_i hn
    rw [List.nodup_append]
    refine ⟨h, by simp, ?_⟩
    rintro a ha b hb rfl
    rw [List.mem_singleton] at hb
    subst hb
    exact hn ha
theorem nodup_adds (ys : List α) : ∀ {L : List α}, L.Nodup → (adds L ys).Nodup := by
  induction ys with
  | nil => intro L h; exact h
  | cons y ys ih => intro L h; exact ih (nodup_add h y)
theorem Runs.det {succ : α → List α} {L R R' : List α} {i : Nat} (h : Runs succ L i R) (h' : Runs succ L i R') : R = R' := by
  induction h with
  | stop h =>
    cases h' with
    | stop _ => rfl
    | step h2 _ => omega
  | step h _ ih =>
    cases h' with
    | stop h2 => omega
    | step _ hr => exact ih hr
theorem Runs.pre {succ : α → List α} {L R : List α} {i : Nat} (h : Runs succ L i R) : L <+: R := by
  induction h with
  | stop h => exact List.prefix_refl _
  | step h _ ih => exact (adds_pre _ _).trans ih
theorem Runs.nodup {succ : α → List α} {L R : List α} {i : Nat} (h : Runs succ L i R) : L.Nodup → R.Nodup := by
  induction h with
  | stop h => exact id
  | step h _ ih => exact fun hn => ih (nodup_adds _ hn)
theorem Runs.all {succ : α → List α} {L R : List α} {i : Nat} (h : Runs succ L i R) {p : α → Prop} (hp : ∀ x, p x → ∀ y ∈ succ x, p y) : (∀ x ∈ L, p x) → ∀ x ∈ R, p x := by
  induction h with
  | stop h => exact id
  | step h _ ih =>
    refine fun ha => ih fun x hx => ?_
    rcases mem_adds.mp hx with q | q
    · exact ha x q
    · exact hp _ (ha _ (List.getElem_mem h)) x q
theorem Runs.closed {succ : α → List α} {L R : List α} {i : Nat} (h : Runs succ L i R) (hc : ∀ j (hj : j < L.length), j < i → ∀ y ∈ succ L[j], y ∈ L) : ∀ x ∈ R, ∀ y ∈ succ x, y ∈ R := by
  induction h with
  | stop h =>
    intro x hx y hy
    obtain ⟨j, hj, rfl⟩ := List.mem_iff_getElem.mp hx
    exact hc j hj (by omega) y hy
  | @step L R i h _ ih =>
    refine ih fun j hj hji y hy => ?_
    have hpre := adds_pre (succ L[i]) L
    by_cases hjl : j < L.length
    · have e : (adds L (succ L[i]))[j] = L[j] := (hpre.getElem hjl).symm
      rw [e] at hy
      by_cases hj2 : j < i
      · exact hpre.subset (hc j hjl hj2 y hy)
      · obtain rfl : j = i := by omega
        exact mem_adds.mpr (Or.inr hy)
    · omega
theorem Runs.ends {succ : α → List α} {dom : α → Prop} {N : Nat} (hd : ∀ x, dom x → ∀ y ∈ succ x, dom y) (hcard : ∀ s : List α, s.Nodup → (∀ x ∈ s, dom x) → s.length ≤ N) : ∀ (d : Nat) (L : List α) (i : Nat), L.Nodup → (∀ x ∈ L, dom x) → i ≤ L.length → N ≤ d + i → ∃ R, Runs succ L i R
  | 0, L, i, hn, ha, hi, hd0 => ⟨L, .stop (by have := hcard L hn ha; omega)⟩
  | d + 1, L, i, hn, ha, hi, hd0 => by
    by_cases h : i < L.length
    · have ha2 : ∀ x ∈ adds L (succ L[i]), dom x := fun x hx => by
        rcases mem_adds.mp hx with q | q
        · exact ha x q
        · exact hd _ (ha _ (List.getElem_mem h)) x q
      obtain ⟨R, hR⟩ := Runs.ends hd hcard d (adds L (succ L[i])) (i + 1) (nodup_adds _ hn) ha2 (by have := (adds_pre (succ L[i]) L).length_le; omega) (by omega)
      exact ⟨R, .step h hR⟩
    · exact ⟨L, .stop (by omega)⟩
end
section
variable {α β : Type} [DecidableEq α] [DecidableEq β]
def dd (l : List β) : List β := adds [] l
theorem dd_snoc (l : List β) (y : β) : dd (l ++ [y]) = add (dd l) y := by unfold dd; rw [adds_append]; rfl
theorem mem_dd {l : List β} {y : β} : y ∈ dd l ↔ y ∈ l := by unfold dd; rw [mem_adds]; simp
theorem dd_append (l m : List β) : dd (l ++ m) = adds (dd l) m := adds_append _ _ _
theorem dd_nodup (l : List β) : (dd l).Nodup := nodup_adds _ (by simp)
theorem dd_id {l : List β} (h : l.Nodup) : dd l = l := by
  suffices H : ∀ (m k : List β), (k ++ m).Nodup → adds k m = k ++ m from H l [] (by simpa using h)
  intro m
  induction m with
  | nil => intro k _; simp [adds_nil]
  | cons y m ih =>
    intro k hk
    have hny : y ∉ k := by
      intro hm
      rw [List.nodup_append] at hk
      exact hk.2.2 y hm y List.mem_cons_self rfl
    rw [adds_cons, add_out hny, ih]
    · simp
    · simpa using hk
theorem dd_adds (f : α → β) (xs : List α) : ∀ L : List α, dd ((adds L xs).map f) = adds (dd (L.map f)) (xs.map f) := by
  induction xs with
  | nil => intro L; rfl
  | cons x xs ih =>
    intro L
    rw [adds_cons, ih, List.map_cons, adds_cons]
    congr 1
    by_cases h : x ∈ L
    · rw [add_in h, add_in (mem_dd.mpr (List.mem_map_of_mem h))]
    · rw [add_out h, List.map_append, List.map_singleton, dd_snoc]
theorem Runs.map {succ : α → List α} {succ' : β → List β} {f : α → β} {dom : α → Prop} (hd : ∀ x, dom x → ∀ y ∈ succ x, dom y) (hf : ∀ x, dom x → (succ x).map f = succ' (f x)) {L R : List α} {i : Nat} (h : Runs succ L i R)
    (hall : ∀ x ∈ L, dom x) (hi : i ≤ L.length) (hc : ∀ j (hj : j < L.length), j < i → ∀ y ∈ succ L[j], y ∈ L) : Runs succ' (dd (L.map f)) (dd ((L.take i).map f)).length (dd (R.map f)) := by
  induction h with
  | @stop L i h =>
    have e : L.take i = L := List.take_of_length_le h
    rw [e]
    exact .stop (Nat.le_refl _)
  | @step L R i h hr ih =>
    have hpre := adds_pre (succ L[i]) L
    have hdi := hall _ (List.getElem_mem h)
    have ha2 : ∀ x ∈ adds L (succ L[i]), dom x := fun x hx => by
      rcases mem_adds.mp hx with q | q
      · exact hall x q
      · exact hd _ hdi x q
    have hc2 : ∀ j (hj : j < (adds L (succ L[i])).length), j < i + 1 → ∀ y ∈ succ (adds L (succ L[i]))[j], y ∈ adds L (succ L[i]) := fun j hj hji y hy => by
      have hjl : j < L.length := by omega
      have e : (adds L (succ L[i]))[j] = L[j] := (hpre.getElem hjl).symm
      rw [e] at hy
      by_cases hj2 : j < i
      · exact hpre.subset (hc j hjl hj2 y hy)
      · obtain rfl : j = i := by omega
        exact mem_adds.mpr (Or.inr hy)
    have IH := ih ha2 (by have := hpre.length_le; omega) hc2
    rw [dd_adds, hf _ hdi] at IH
    have et : (adds L (succ L[i])).take (i + 1) = L.take i ++ [L[i]] := by
      obtain ⟨t, ht⟩ := hpre
      have h2 : (adds L (succ L[i])).take (i + 1) = L.take (i + 1) := by rw [← ht, List.take_append_of_le_length (by omega)]
      rw [h2, List.take_succ_eq_append_getElem h]
    rw [et, List.map_append, List.map_singleton, dd_snoc] at IH
    have hpm : dd ((L.take i).map f ++ [f L[i]]) <+: dd (L.map f) := by
      have e2 : L.map f = ((L.take i).map f ++ [f L[i]]) ++ (L.drop (i + 1)).map f := by
        rw [← List.map_singleton, ← List.map_append, ← List.map_append, ← List.take_succ_eq_append_getElem h, List.take_append_drop]
      have h3 := adds_pre ((L.drop (i + 1)).map f) (dd ((L.take i).map f ++ [f L[i]]))
      rw [← dd_append, ← e2] at h3
      exact h3
    rw [dd_snoc] at hpm
    by_cases hm : f L[i] ∈ dd ((L.take i).map f)
    · rw [add_in hm] at IH
      obtain ⟨x, hx, hxe⟩ := List.mem_map.mp (mem_dd.mp hm)
      obtain ⟨j, hj, rfl⟩ := List.mem_iff_getElem.mp hx
      have hj' : j < i := by simp only [List.length_take] at hj; omega
      have hjl : j < L.length := by omega
      have eL : (L.take i)[j] = L[j] := List.getElem_take
      have : adds (dd (L.map f)) (succ' (f L[i])) = dd (L.map f) := by
        refine adds_in fun y hy => ?_
        rw [← hxe, eL, ← hf _ (hall _ (List.getElem_mem hjl))] at hy
        obtain ⟨z, hz, rfl⟩ := List.mem_map.mp hy
        exact mem_dd.mpr (List.mem_map_of_mem (hc j hjl hj' z hz))
      rw [this] at IH
      exact IH
    · rw [add_out hm] at IH hpm
      have hlt : (dd ((L.take i).map f)).length < (dd (L.map f)).length := by
        have := hpm.length_le
        simp only [List.length_append, List.length_singleton] at this
        omega
      have eg : (dd (L.map f))[(dd ((L.take i).map f)).length] = f L[i] := by
        rw [← hpm.getElem (by simp)]
        simp
      refine .step hlt ?_
      rw [eg]
      rw [List.length_append, List.length_singleton] at IH
      exact IH
theorem Runs.map0 {succ : α → List α} {succ' : β → List β} {f : α → β} {dom : α → Prop} (hd : ∀ x, dom x → ∀ y ∈ succ x, dom y) (hf : ∀ x, dom x → (succ x).map f = succ' (f x)) {x0 : α} {R : List α} (h : Runs succ [x0] 0 R) (h0 : dom x0) : Runs succ' [f x0] 0 (dd (R.map f)) := by
  have := h.map hd hf (fun x hx => by rw [List.mem_singleton] at hx; subst hx; exact h0) (Nat.zero_le _) (fun j _ hj => by omega)
  simpa [dd, adds, add] using this
end
end Go.Proofs.Ytogamkblkoobkaa.Lg
end
