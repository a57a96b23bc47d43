/- Texts of the proof of FnExactWordDfa, put together. No condition. -/
import Derived.Test.YtogamkblkoobkaaQFnExactWordDfa2
import Derived.Shelf.Abstract
import Derived.Lib.Walk
import Derived.Test.YtogamkblkoobkaaQFnExactWordDfa3
import Derived.Deep.Slices
import Derived.Lib.SmallJoins
import Derived.Test.YtogamkblkoobkaaProg
section
namespace Go.Proofs.Ytogamkblkoobkaa.P
open Go.RowKit Go.Proofs.YtogamkblkoobkaaW.PrintWords Go.Proofs.YtogamkblkoobkaaW.PrintLast Go.Proofs.YtogamkblkoobkaaW.PrintMore
attribute [local go_sem] max2_int min2_int max_two min_two max_three min_three max_four min_four
set_option linter.unusedVariables false
set_option linter.unusedSimpArgs false
def laws_heldBoolS.l0 : Nat → List Bool → Int → Int → Option (Int)
  | 0, _, _, _ => none
  | k + 1, x0, x1, x5 => if x5 < (x0.length : Int) then (if 0 ≤ x5 then (if ((rdOf false x0 x5) != ((Int.tmod x1 3) == 0)) = true then (some (-1)) else (laws_heldBoolS.l0 k x0 (wrap64 (x1 + 1)) (wrap64 (x5 + 1)))) else (none)) else (some x1)
def laws_heldBoolS.f (k : Nat) (l0 : List Bool) (a1 : Int) : Option (Int) := laws_heldBoolS.l0 k l0 a1 0
theorem laws_heldBoolS.mono_l : ∀ k, (∀ y0 y1 y2, LeO (laws_heldBoolS.l0 k y0 y1 y2) (laws_heldBoolS.l0 (k + 1) y0 y1 y2))
  | 0 => fun _ _ _ r h => by simp [laws_heldBoolS.l0] at h
  | k + 1 => by
    have ih0 := laws_heldBoolS.mono_l k
    · intro y0 y1 y2
      unfold laws_heldBoolS.l0
      repeat' first
      | (with_reducible exact ih0 _ _ _)
      | (with_reducible exact LeO.refl _)
      | (with_reducible exact LeO.none _)
      | (with_reducible refine LeO.ite ?_ ?_)
      | (with_reducible refine LeO.bind ?_ (fun _ => ?_))
      | exact ih0 _ _ _
      | exact LeO.none _
      | refine LeO.ite ?_ ?_
      | refine LeO.bind ?_ (fun _ => ?_)
theorem laws_heldBoolS.mono : ∀ a0 a1 k, LeO (laws_heldBoolS.f k a0 a1) (laws_heldBoolS.f (k + 1) a0 a1) := by
  intro a0 a1 k
  have ih0 := laws_heldBoolS.mono_l k
  unfold laws_heldBoolS.f
  repeat' first
      | (with_reducible exact ih0 _ _ _)
      | (with_reducible exact LeO.refl _)
      | (with_reducible exact LeO.none _)
      | (with_reducible refine LeO.ite ?_ ?_)
      | (with_reducible refine LeO.bind ?_ (fun _ => ?_))
      | exact ih0 _ _ _
      | exact LeO.none _
      | refine LeO.ite ?_ ?_
      | refine LeO.bind ?_ (fun _ => ?_)
set_option maxHeartbeats 8000000 in
set_option maxRecDepth 100000 in
theorem laws_heldBoolS.calls (k : Nat) (A0 : Option Addr) (c0 : Nat) (l0 : List Bool) (a1 : Int) (r : Int) (w : World) (hr0 : Kd.C Kd.bool w A0 l0.length l0) (hc0 : l0.length ≤ c0) (h : laws_heldBoolS.f k l0 a1 = some r) :
    Calls Try.prog 61 #[.slice A0 l0.length c0, .int .i64 a1] w fun e w' => e = .returned (.int .i64 r) ∧ Drawn0 w w' := by
  have HR0 := Aside0.mk hr0
  have HC0 := Aside0.mk hc0
  clear hr0 hc0
  have H : (laws_heldBoolS.l0 k l0 a1 0) = some r := h
  clear h
  have H' := Aside0.mk H
  clear H
  go_enter Try.func61, Try.ntmps61
  go_wp2
  go_loopg [1, 5] k (fun kq v1 v5 w' => ∃ (x1_1 : Int) (x5_1 : Int), v1 = .int .i64 x1_1 ∧ v5 = .int .i64 x5_1 ∧ Aside0 (laws_heldBoolS.l0 kq l0 x1_1 x5_1 = some r) ∧ Aside0 (kq ≤ k) ∧ Drawn0 w w')
  case atStart => exact ⟨(a1), (0), (by first | rfl | (simp; done) | (simp [*]; done)), (by first | rfl | (simp; done) | (simp [*]; done)), H', ⟨Nat.le_refl _⟩, by repeat (first | exact Drawn0.refl _ | apply Drawn0.step)⟩
  case round =>
    clear H'
    try clear p2
    obtain ⟨x1_1, x5_1, rfl, rfl, HA, HK1, ⟨m1, rfl⟩⟩ := hrel
    cases gk with
    | zero => exact absurd HA.out (by simp [laws_heldBoolS.l0])
    | succ k1 =>
      have H := HA.out
      clear HA
      simp only [laws_heldBoolS.l0] at H
      by_cases c3 : x5_1 < (l0.length : Int)
      · rw [if_pos c3] at H
        have c3b0 : decide (x5_1 < (l0.length : Int)) = true := decide_eq_true c3
        clear c3
        by_cases c4 : 0 ≤ x5_1
        · rw [if_pos c4] at H
          have c4b0 : decide (0 ≤ x5_1) = true := decide_eq_true c4
          clear c4
          by_cases c5 : ((rdOf false l0 x5_1) != ((Int.tmod x1_1 3) == 0)) = true
          · rw [if_pos c5] at H
            have c5b0 : ((rdOf false l0 x5_1) != ((Int.tmod x1_1 3) == 0)) = true := c5
            (try (have c5b1 : decide ((rdOf false l0 x5_1) = ((Int.tmod x1_1 3) == 0)) = false := by simpa using c5))
            (try (have c5b2 : ((rdOf false l0 x5_1) == ((Int.tmod x1_1 3) == 0)) = false := by simpa using c5))
            (try (have c5b3 : ¬ ((rdOf false l0 x5_1) = ((Int.tmod x1_1 3) == 0)) := by simpa using c5))
            clear c5
            obtain rfl := Option.some.inj H
            simp only [Option.some.injEq, Prod.mk.injEq] at H
            obtain ⟨rfl⟩ := H
            have p252 : 0 ≤ (x5_1 : Int) := of_decide_eq_true (by first | (with_reducible assumption) | assumption)
            have q252 : x5_1 < (l0.length : Int) := of_decide_eq_true (by first | (with_reducible assumption) | assumption)
            obtain ⟨ad252, e252, hx252_0⟩ := Kd.at_bool HR0.out x5_1 p252 q252
            cases e252
            replace p252 := eq_true p252
            replace q252 := eq_true q252
            go_wp2
            go_ret
            exact ⟨by first | rfl | (simp; done) | (simp [*]; done), by repeat (first | exact Drawn0.refl _ | apply Drawn0.step)⟩
          · rw [if_neg c5] at H
            have c5b0 : ((rdOf false l0 x5_1) != ((Int.tmod x1_1 3) == 0)) = false := by simpa using c5
            (try (have c5b1 : decide ((rdOf false l0 x5_1) = ((Int.tmod x1_1 3) == 0)) = true := by simpa using c5))
            (try (have c5b2 : ((rdOf false l0 x5_1) == ((Int.tmod x1_1 3) == 0)) = true := by simpa using c5))
            clear c5
            have H' := Aside0.mk H
            clear H
            have p252 : 0 ≤ (x5_1 : Int) := of_decide_eq_true (by first | (with_reducible assumption) | assumption)
            have q252 : x5_1 < (l0.length : Int) := of_decide_eq_true (by first | (with_reducible assumption) | assumption)
            obtain ⟨ad252, e252, hx252_0⟩ := Kd.at_bool HR0.out x5_1 p252 q252
            cases e252
            replace p252 := eq_true p252
            replace q252 := eq_true q252
            go_wp2
            go_roundg k1
            case measure => have := HK1.out; omega
            case rel => exact ⟨(wrap64 (x1_1 + 1)), (wrap64 (x5_1 + 1)), (by first | rfl | (simp; done) | (simp [*]; done)), (by first | rfl | (simp; done) | (simp [*]; done)), H', ⟨by have := HK1.out; omega⟩, by repeat (first | exact Drawn0.refl _ | apply Drawn0.step)⟩
        · rw [if_neg c4] at H
          exact absurd H (by simp)
      · rw [if_neg c3] at H
        have c3b0 : decide (x5_1 < (l0.length : Int)) = false := decide_eq_false c3
        clear c3
        obtain rfl := Option.some.inj H
        simp only [Option.some.injEq, Prod.mk.injEq] at H
        obtain ⟨rfl⟩ := H
        go_wp2
        go_ret
        exact ⟨by first | rfl | (simp; done) | (simp [*]; done), by repeat (first | exact Drawn0.refl _ | apply Drawn0.step)⟩
def laws_heldIntS.l0 : Nat → List Int → Int → Int → Option (Int)
  | 0, _, _, _ => none
  | k + 1, x0, x1, x5 => if x5 < (x0.length : Int) then (if 0 ≤ x5 then (if (rd x0 x5) = x1 then (laws_heldIntS.l0 k x0 (wrap64 (x1 + 1)) (wrap64 (x5 + 1))) else (some (-1))) else (none)) else (some x1)
def laws_heldIntS.f (k : Nat) (l0 : List Int) (a1 : Int) : Option (Int) := laws_heldIntS.l0 k l0 a1 0
theorem laws_heldIntS.mono_l : ∀ k, (∀ y0 y1 y2, LeO (laws_heldIntS.l0 k y0 y1 y2) (laws_heldIntS.l0 (k + 1) y0 y1 y2))
  | 0 => fun _ _ _ r h => by simp [laws_heldIntS.l0] at h
  | k + 1 => by
    have ih0 := laws_heldIntS.mono_l k
    · intro y0 y1 y2
      unfold laws_heldIntS.l0
      repeat' first
      | (with_reducible exact ih0 _ _ _)
      | (with_reducible exact LeO.refl _)
      | (with_reducible exact LeO.none _)
      | (with_reducible refine LeO.ite ?_ ?_)
      | (with_reducible refine LeO.bind ?_ (fun _ => ?_))
      | exact ih0 _ _ _
      | exact LeO.none _
      | refine LeO.ite ?_ ?_
      | refine LeO.bind ?_ (fun _ => ?_)
theorem laws_heldIntS.mono : ∀ a0 a1 k, LeO (laws_heldIntS.f k a0 a1) (laws_heldIntS.f (k + 1) a0 a1) := by
  intro a0 a1 k
  have ih0 := laws_heldIntS.mono_l k
  unfold laws_heldIntS.f
  repeat' first
      | (with_reducible exact ih0 _ _ _)
      | (with_reducible exact LeO.refl _)
      | (with_reducible exact LeO.none _)
      | (with_reducible refine LeO.ite ?_ ?_)
      | (with_reducible refine LeO.bind ?_ (fun _ => ?_))
      | exact ih0 _ _ _
      | exact LeO.none _
      | refine LeO.ite ?_ ?_
      | refine LeO.bind ?_ (fun _ => ?_)
set_option maxHeartbeats 8000000 in
set_option maxRecDepth 100000 in
theorem laws_heldIntS.calls (k : Nat) (A0 : Option Addr) (c0 : Nat) (l0 : List Int) (a1 : Int) (r : Int) (w : World) (hr0 : Kd.C (Kd.int .i64) w A0 l0.length l0) (hc0 : l0.length ≤ c0) (h : laws_heldIntS.f k l0 a1 = some r) :
    Calls Try.prog 120 #[.slice A0 l0.length c0, .int .i64 a1] w fun e w' => e = .returned (.int .i64 r) ∧ Drawn0 w w' := by
  have HR0 := Aside0.mk hr0
  have HC0 := Aside0.mk hc0
  clear hr0 hc0
  have H : (laws_heldIntS.l0 k l0 a1 0) = some r := h
  clear h
  have H' := Aside0.mk H
  clear H
  go_enter Try.func120, Try.ntmps120
  go_wp2
  go_loopg [1, 5] k (fun kq v1 v5 w' => ∃ (x1_1 : Int) (x5_1 : Int), v1 = .int .i64 x1_1 ∧ v5 = .int .i64 x5_1 ∧ Aside0 (laws_heldIntS.l0 kq l0 x1_1 x5_1 = some r) ∧ Aside0 (kq ≤ k) ∧ Drawn0 w w')
  case atStart => exact ⟨(a1), (0), (by first | rfl | (simp; done) | (simp [*]; done)), (by first | rfl | (simp; done) | (simp [*]; done)), H', ⟨Nat.le_refl _⟩, by repeat (first | exact Drawn0.refl _ | apply Drawn0.step)⟩
  case round =>
    clear H'
    try clear c1
    try clear p2
    obtain ⟨x1_1, x5_1, rfl, rfl, HA, HK1, ⟨m1, rfl⟩⟩ := hrel
    cases gk with
    | zero => exact absurd HA.out (by simp [laws_heldIntS.l0])
    | succ k1 =>
      have H := HA.out
      clear HA
      simp only [laws_heldIntS.l0] at H
      by_cases c3 : x5_1 < (l0.length : Int)
      · rw [if_pos c3] at H
        have c3b0 : decide (x5_1 < (l0.length : Int)) = true := decide_eq_true c3
        clear c3
        by_cases c4 : 0 ≤ x5_1
        · rw [if_pos c4] at H
          have c4b0 : decide (0 ≤ x5_1) = true := decide_eq_true c4
          clear c4
          by_cases c5 : (rd l0 x5_1) = x1_1
          · rw [if_pos c5] at H
            have c5b0 : ((rd l0 x5_1) == x1_1) = true := beq_iff_eq.mpr c5
            have c5b1 : ((rd l0 x5_1) != x1_1) = false := bne_eq_false_iff_eq.mpr c5
            clear c5
            have H' := Aside0.mk H
            clear H
            have p253 : 0 ≤ (x5_1 : Int) := of_decide_eq_true (by first | (with_reducible assumption) | assumption)
            have q253 : x5_1 < (l0.length : Int) := of_decide_eq_true (by first | (with_reducible assumption) | assumption)
            obtain ⟨ad253, e253, hx253_0⟩ := Kd.at_int HR0.out x5_1 p253 q253
            cases e253
            replace p253 := eq_true p253
            replace q253 := eq_true q253
            go_wp2
            go_roundg k1
            case measure => have := HK1.out; omega
            case rel => exact ⟨(wrap64 (x1_1 + 1)), (wrap64 (x5_1 + 1)), (by first | rfl | (simp; done) | (simp [*]; done)), (by first | rfl | (simp; done) | (simp [*]; done)), H', ⟨by have := HK1.out; omega⟩, by repeat (first | exact Drawn0.refl _ | apply Drawn0.step)⟩
          · rw [if_neg c5] at H
            have c5b0 : ((rd l0 x5_1) == x1_1) = false := beq_eq_false_iff_ne.mpr c5
            have c5b1 : ((rd l0 x5_1) != x1_1) = true := bne_iff_ne.mpr c5
            obtain rfl := Option.some.inj H
            simp only [Option.some.injEq, Prod.mk.injEq] at H
            obtain ⟨rfl⟩ := H
            have p253 : 0 ≤ (x5_1 : Int) := of_decide_eq_true (by first | (with_reducible assumption) | assumption)
            have q253 : x5_1 < (l0.length : Int) := of_decide_eq_true (by first | (with_reducible assumption) | assumption)
            obtain ⟨ad253, e253, hx253_0⟩ := Kd.at_int HR0.out x5_1 p253 q253
            cases e253
            replace p253 := eq_true p253
            replace q253 := eq_true q253
            go_wp2
            go_ret
            exact ⟨by first | rfl | (simp; done) | (simp [*]; done), by repeat (first | exact Drawn0.refl _ | apply Drawn0.step)⟩
        · rw [if_neg c4] at H
          exact absurd H (by simp)
      · rw [if_neg c3] at H
        have c3b0 : decide (x5_1 < (l0.length : Int)) = false := decide_eq_false c3
        clear c3
        obtain rfl := Option.some.inj H
        simp only [Option.some.injEq, Prod.mk.injEq] at H
        obtain ⟨rfl⟩ := H
        go_wp2
        go_ret
        exact ⟨by first | rfl | (simp; done) | (simp [*]; done), by repeat (first | exact Drawn0.refl _ | apply Drawn0.step)⟩
def laws_heldIntSS.l0 : Nat → List (List Int) → Int → Int → Option (Int)
  | 0, _, _, _ => none
  | k + 1, x0, x1, x5 => if x5 < (x0.length : Int) then (if 0 ≤ x5 then ((laws_heldIntS.f k (rd_L2 x0 x5) x1).bind fun t255 => (if t255 < 0 then (some (-1)) else (laws_heldIntSS.l0 k x0 t255 (wrap64 (x5 + 1))))) else (none)) else (some x1)
def laws_heldIntSS.f (k : Nat) (l0 : List (List Int)) (a1 : Int) : Option (Int) := laws_heldIntSS.l0 k l0 a1 0
theorem laws_heldIntSS.mono_l : ∀ k, (∀ y0 y1 y2, LeO (laws_heldIntSS.l0 k y0 y1 y2) (laws_heldIntSS.l0 (k + 1) y0 y1 y2))
  | 0 => fun _ _ _ r h => by simp [laws_heldIntSS.l0] at h
  | k + 1 => by
    have ih0 := laws_heldIntSS.mono_l k
    · intro y0 y1 y2
      unfold laws_heldIntSS.l0
      repeat' first
      | (with_reducible exact ih0 _ _ _)
      | (with_reducible exact laws_heldIntS.mono _ _ _)
      | (with_reducible exact LeO.refl _)
      | (with_reducible exact LeO.none _)
      | (with_reducible refine LeO.ite ?_ ?_)
      | (with_reducible refine LeO.bind ?_ (fun _ => ?_))
      | exact ih0 _ _ _
      | exact laws_heldIntS.mono _ _ _
      | exact LeO.none _
      | refine LeO.ite ?_ ?_
      | refine LeO.bind ?_ (fun _ => ?_)
theorem laws_heldIntSS.mono : ∀ a0 a1 k, LeO (laws_heldIntSS.f k a0 a1) (laws_heldIntSS.f (k + 1) a0 a1) := by
  intro a0 a1 k
  have ih0 := laws_heldIntSS.mono_l k
  unfold laws_heldIntSS.f
  repeat' first
      | (with_reducible exact ih0 _ _ _)
      | (with_reducible exact laws_heldIntS.mono _ _ _)
      | (with_reducible exact LeO.refl _)
      | (with_reducible exact LeO.none _)
      | (with_reducible refine LeO.ite ?_ ?_)
      | (with_reducible refine LeO.bind ?_ (fun _ => ?_))
      | exact ih0 _ _ _
      | exact laws_heldIntS.mono _ _ _
      | exact LeO.none _
      | refine LeO.ite ?_ ?_
      | refine LeO.bind ?_ (fun _ => ?_)
set_option maxHeartbeats 8000000 in
set_option maxRecDepth 100000 in
theorem laws_heldIntSS.calls (k : Nat) (A0 : Option Addr) (c0 : Nat) (l0 : List (List Int)) (a1 : Int) (r : Int) (w : World) (hr0 : Kd.C (Kd.slice 3 (Kd.int .i64)) w A0 l0.length l0) (hc0 : l0.length ≤ c0) (h : laws_heldIntSS.f k l0 a1 = some r) :
    Calls Try.prog 62 #[.slice A0 l0.length c0, .int .i64 a1] w fun e w' => e = .returned (.int .i64 r) ∧ Drawn0 w w' := by
  have HR0 := Aside0.mk hr0
  have HC0 := Aside0.mk hc0
  clear hr0 hc0
  have H : (laws_heldIntSS.l0 k l0 a1 0) = some r := h
  clear h
  have H' := Aside0.mk H
  clear H
  go_enter Try.func62, Try.ntmps62
  go_wp2
  go_loopg [1, 5] k (fun kq v1 v5 w' => ∃ (x1_1 : Int) (x5_1 : Int), v1 = .int .i64 x1_1 ∧ v5 = .int .i64 x5_1 ∧ Aside0 (laws_heldIntSS.l0 kq l0 x1_1 x5_1 = some r) ∧ Aside0 (kq ≤ k) ∧ Drawn0 w w')
  case atStart => exact ⟨(a1), (0), (by first | rfl | (simp; done) | (simp [*]; done)), (by first | rfl | (simp; done) | (simp [*]; done)), H', ⟨Nat.le_refl _⟩, by repeat (first | exact Drawn0.refl _ | apply Drawn0.step)⟩
  case round =>
    clear H'
    try clear p2
    obtain ⟨x1_1, x5_1, rfl, rfl, HA, HK1, ⟨m1, rfl⟩⟩ := hrel
    cases gk with
    | zero => exact absurd HA.out (by simp [laws_heldIntSS.l0])
    | succ k1 =>
      have H := HA.out
      clear HA
      simp only [laws_heldIntSS.l0] at H
      by_cases c3 : x5_1 < (l0.length : Int)
      · rw [if_pos c3] at H
        have c3b0 : decide (x5_1 < (l0.length : Int)) = true := decide_eq_true c3
        clear c3
        by_cases c4 : 0 ≤ x5_1
        · rw [if_pos c4] at H
          have c4b0 : decide (0 ≤ x5_1) = true := decide_eq_true c4
          clear c4
          replace H := Option.bind_eq_some_iff.mp H
          obtain ⟨t255, A50, H⟩ := H
          replace H : (if t255 < 0 then (some (-1)) else (laws_heldIntSS.l0 k1 l0 t255 (wrap64 (x5_1 + 1)))) = some r := H
          have A5 := Aside0.mk A50
          clear A50
          by_cases c6 : t255 < 0
          · rw [if_pos c6] at H
            have c6b0 : decide (t255 < 0) = true := decide_eq_true c6
            clear c6
            obtain rfl := Option.some.inj H
            simp only [Option.some.injEq, Prod.mk.injEq] at H
            obtain ⟨rfl⟩ := H
            have p254 : 0 ≤ (x5_1 : Int) := of_decide_eq_true (by first | (with_reducible assumption) | assumption)
            have q254 : x5_1 < (l0.length : Int) := of_decide_eq_true (by first | (with_reducible assumption) | assumption)
            obtain ⟨ad254, A254_0, c254_0, e254, hx254_0, hl254_0, hi254_0⟩ := at_L2 HR0.out x5_1 p254 q254
            cases e254
            have HR254_0 := Aside0.mk hi254_0
            have HC254_0 := Aside0.mk hl254_0
            clear hi254_0 hl254_0
            replace p254 := eq_true p254
            replace q254 := eq_true q254
            go_wp2_with (first | ((with_reducible refine gate_callee (f := 120) rfl ?_); refine goesL_ (some 17) rfl rfl Try.func120 (by kernel_rfl) rfl #[.slice A254_0 (rd_L2 l0 x5_1).length c254_0, .int .i64 x1_1] rfl (by (try simp only [List.map_toArray, List.map_cons, List.map_nil]); first | done | rfl | (simp only [List.length_drop, List.length_take]; rfl)) ?_; (with_reducible refine (laws_heldIntS.calls k1 _ _ (rd_L2 l0 x5_1) x1_1 t255 _ ?side1 ?side2 A5.out).mono ?_); (case side1 => repeat (first | exact HR254_0.out | (with_reducible refine Kd.C_alloc ?_ _) | (with_reducible refine Kd.C_drewN ?_ _) | (with_reducible refine Kd.C_drew ?_))); (case side2 => exact HC254_0.out); rintro e w' ⟨rfl, ⟨nd, rfl⟩⟩; refine ⟨_, rfl, ?_⟩))
            go_ret
            exact ⟨by first | rfl | (simp; done) | (simp [*]; done), by repeat (first | exact Drawn0.refl _ | apply Drawn0.step)⟩
          · rw [if_neg c6] at H
            have c6b0 : decide (t255 < 0) = false := decide_eq_false c6
            clear c6
            have H' := Aside0.mk H
            clear H
            have p254 : 0 ≤ (x5_1 : Int) := of_decide_eq_true (by first | (with_reducible assumption) | assumption)
            have q254 : x5_1 < (l0.length : Int) := of_decide_eq_true (by first | (with_reducible assumption) | assumption)
            obtain ⟨ad254, A254_0, c254_0, e254, hx254_0, hl254_0, hi254_0⟩ := at_L2 HR0.out x5_1 p254 q254
            cases e254
            have HR254_0 := Aside0.mk hi254_0
            have HC254_0 := Aside0.mk hl254_0
            clear hi254_0 hl254_0
            replace p254 := eq_true p254
            replace q254 := eq_true q254
            go_wp2_with (first | ((with_reducible refine gate_callee (f := 120) rfl ?_); refine goesL_ (some 17) rfl rfl Try.func120 (by kernel_rfl) rfl #[.slice A254_0 (rd_L2 l0 x5_1).length c254_0, .int .i64 x1_1] rfl (by (try simp only [List.map_toArray, List.map_cons, List.map_nil]); first | done | rfl | (simp only [List.length_drop, List.length_take]; rfl)) ?_; (with_reducible refine (laws_heldIntS.calls k1 _ _ (rd_L2 l0 x5_1) x1_1 t255 _ ?side1 ?side2 A5.out).mono ?_); (case side1 => repeat (first | exact HR254_0.out | (with_reducible refine Kd.C_alloc ?_ _) | (with_reducible refine Kd.C_drewN ?_ _) | (with_reducible refine Kd.C_drew ?_))); (case side2 => exact HC254_0.out); rintro e w' ⟨rfl, ⟨nd, rfl⟩⟩; refine ⟨_, rfl, ?_⟩))
            go_roundg k1
            case measure => have := HK1.out; omega
            case rel => exact ⟨(t255), (wrap64 (x5_1 + 1)), (by first | rfl | (simp; done) | (simp [*]; done)), (by first | rfl | (simp; done) | (simp [*]; done)), H', ⟨by have := HK1.out; omega⟩, by repeat (first | exact Drawn0.refl _ | apply Drawn0.step)⟩
        · rw [if_neg c4] at H
          exact absurd H (by simp)
      · rw [if_neg c3] at H
        have c3b0 : decide (x5_1 < (l0.length : Int)) = false := decide_eq_false c3
        clear c3
        obtain rfl := Option.some.inj H
        simp only [Option.some.injEq, Prod.mk.injEq] at H
        obtain ⟨rfl⟩ := H
        go_wp2
        go_ret
        exact ⟨by first | rfl | (simp; done) | (simp [*]; done), by repeat (first | exact Drawn0.refl _ | apply Drawn0.step)⟩
def laws_heldDfa.f (k : Nat) (l0_0 : List Bool) (l0_1 : List (List Int)) (a1 : Int) : Option (Int) := (laws_heldBoolS.f k l0_0 a1).bind fun t257 => (if t257 < 0 then (some (-1)) else ((laws_heldIntSS.f k l0_1 t257).bind fun t258 => (if t258 < 0 then (some (-1)) else (some t258))))
theorem laws_heldDfa.mono : ∀ a0 a1 a2 k, LeO (laws_heldDfa.f k a0 a1 a2) (laws_heldDfa.f (k + 1) a0 a1 a2) := by
  intro a0 a1 a2 k
  unfold laws_heldDfa.f
  repeat' first
      | (with_reducible exact laws_heldBoolS.mono _ _ _)
      | (with_reducible exact laws_heldIntSS.mono _ _ _)
      | (with_reducible exact LeO.refl _)
      | (with_reducible exact LeO.none _)
      | (with_reducible refine LeO.ite ?_ ?_)
      | (with_reducible refine LeO.bind ?_ (fun _ => ?_))
      | exact laws_heldBoolS.mono _ _ _
      | exact laws_heldIntSS.mono _ _ _
      | exact LeO.none _
      | refine LeO.ite ?_ ?_
      | refine LeO.bind ?_ (fun _ => ?_)
set_option maxHeartbeats 8000000 in
set_option maxRecDepth 100000 in
theorem laws_heldDfa.calls (k : Nat) (A0_0 : Option Addr) (c0_0 : Nat) (l0_0 : List Bool) (A0_1 : Option Addr) (c0_1 : Nat) (l0_1 : List (List Int)) (a1 : Int) (r : Int) (w : World) (hr0_0 : Kd.C Kd.bool w A0_0 l0_0.length l0_0) (hc0_0 : l0_0.length ≤ c0_0) (hr0_1 : Kd.C (Kd.slice 3 (Kd.int .i64)) w A0_1 l0_1.length l0_1) (hc0_1 : l0_1.length ≤ c0_1) (h : laws_heldDfa.f k l0_0 l0_1 a1 = some r) :
    Calls Try.prog 18 #[.agg #[.slice A0_0 l0_0.length c0_0, .slice A0_1 l0_1.length c0_1], .int .i64 a1] w fun e w' => e = .returned (.int .i64 r) ∧ Below w.heap.size w w' := by
  have hu27 := Try.underlying27
  have HR0_0 := Aside0.mk hr0_0
  have HC0_0 := Aside0.mk hc0_0
  clear hr0_0 hc0_0
  have HR0_1 := Aside0.mk hr0_1
  have HC0_1 := Aside0.mk hc0_1
  clear hr0_1 hc0_1
  have HB := Aside0.mk (Below.refl w.heap.size w)
  have H : ((laws_heldBoolS.f k l0_0 a1).bind fun t257 => (if t257 < 0 then (some (-1)) else ((laws_heldIntSS.f k l0_1 t257).bind fun t258 => (if t258 < 0 then (some (-1)) else (some t258))))) = some r := h
  clear h
  replace H := Option.bind_eq_some_iff.mp H
  obtain ⟨t257, A30, H⟩ := H
  replace H : (if t257 < 0 then (some (-1)) else ((laws_heldIntSS.f k l0_1 t257).bind fun t258 => (if t258 < 0 then (some (-1)) else (some t258)))) = some r := H
  have A3 := Aside0.mk A30
  clear A30
  by_cases c4 : t257 < 0
  · rw [if_pos c4] at H
    have c4b0 : decide (t257 < 0) = true := decide_eq_true c4
    clear c4
    obtain rfl := Option.some.inj H
    simp only [Option.some.injEq, Prod.mk.injEq] at H
    obtain ⟨rfl⟩ := H
    go_enter Try.func18, Try.ntmps18
    go_wp2_with (first | ((with_reducible refine gate_dst (N := 2) rfl ?_); refine box_event ?hg (N := 2) ?hd (cs := #[.slice A0_0 l0_0.length c0_0, .slice A0_1 l0_1.length c0_1]) (t := 27) ?hr ?_; (case hd => rfl); (case hg => rfl); (case hr => first | (go_simp; done) | (go_simp; rfl)); intro gb256 hg w5 hbox hb; have n0_ := Aside0.mk (below_step (by repeat (first | (with_reducible first | exact HB.out | apply below_alloc | apply pw_below_drewN | apply below_drew1) | exact HB.out)) hb); have n1_ := Aside0.mk (hbox); have n2_ := Aside0.mk ((by rw [hg]; exact (below_size (by repeat (first | (with_reducible first | exact HB.out | apply below_alloc | apply pw_below_drewN | apply below_drew1) | exact HB.out))) : w.heap.size ≤ gb256)); have n3_ := Aside0.mk ((by rw [hg]; exact (below_size (by repeat (first | (with_reducible first | exact HB.out | apply below_alloc | apply pw_below_drewN | apply below_drew1) | exact HB.out))) : w.heap.size ≤ gb256)); clear HB; have HB := n0_; have BK256 := n1_; have GW256 := n2_; have GE256 := n3_; clear n0_ n1_ n2_ n3_; clear hb hbox hg; have hcz6_0 : w5.cell? ⟨gb256, 0, none⟩ = some (.slice A0_0 l0_0.length c0_0) := (blk_cell BK256.out 0).trans rfl; have hcz6_1 : w5.cell? ⟨gb256, 1, none⟩ = some (.slice A0_1 l0_1.length c0_1) := (blk_cell BK256.out 1).trans rfl; have hfz6_0 := blk_frozen BK256.out 0; have hfz6_1 := blk_frozen BK256.out 1) | ((with_reducible refine gate_callee (f := 61) rfl ?_); refine goesL_ (some 8) rfl rfl Try.func61 (by kernel_rfl) rfl #[.slice A0_0 l0_0.length c0_0, .int .i64 a1] rfl (by (try simp only [List.map_toArray, List.map_cons, List.map_nil]); first | done | rfl | (simp only [List.length_drop, List.length_take]; rfl)) ?_; (with_reducible refine (laws_heldBoolS.calls k _ _ l0_0 a1 t257 _ ?side1 ?side2 A3.out).mono ?_); (case side1 => repeat (first | exact (Kd.C_below HR0_0.out HB.out) | (with_reducible refine Kd.C_alloc ?_ _) | (with_reducible refine Kd.C_drewN ?_ _) | (with_reducible refine Kd.C_drew ?_))); (case side2 => exact HC0_0.out); rintro e w' ⟨rfl, ⟨nd, rfl⟩⟩; refine ⟨_, rfl, ?_⟩))
    go_ret
    exact ⟨by first | rfl | (simp [errW_none, errW_some] <;> rfl) | (simp [*, errW_none, errW_some] <;> rfl), by repeat (first | (with_reducible first | exact HB.out | apply below_alloc | apply pw_below_drewN | apply below_drew1 | refine below_set ?_ GE256.out) | exact HB.out)⟩
  · rw [if_neg c4] at H
    have c4b0 : decide (t257 < 0) = false := decide_eq_false c4
    clear c4
    replace H := Option.bind_eq_some_iff.mp H
    obtain ⟨t258, A70, H⟩ := H
    replace H : (if t258 < 0 then (some (-1)) else (some t258)) = some r := H
    have A7 := Aside0.mk A70
    clear A70
    by_cases c8 : t258 < 0
    · rw [if_pos c8] at H
      have c8b0 : decide (t258 < 0) = true := decide_eq_true c8
      clear c8
      obtain rfl := Option.some.inj H
      simp only [Option.some.injEq, Prod.mk.injEq] at H
      obtain ⟨rfl⟩ := H
      go_enter Try.func18, Try.ntmps18
      go_wp2_with (first | ((with_reducible refine gate_dst (N := 2) rfl ?_); refine box_event ?hg (N := 2) ?hd (cs := #[.slice A0_0 l0_0.length c0_0, .slice A0_1 l0_1.length c0_1]) (t := 27) ?hr ?_; (case hd => rfl); (case hg => rfl); (case hr => first | (go_simp; done) | (go_simp; rfl)); intro gb256 hg w9 hbox hb; have n0_ := Aside0.mk (below_step (by repeat (first | (with_reducible first | exact HB.out | apply below_alloc | apply pw_below_drewN | apply below_drew1) | exact HB.out)) hb); have n1_ := Aside0.mk (hbox); have n2_ := Aside0.mk ((by rw [hg]; exact (below_size (by repeat (first | (with_reducible first | exact HB.out | apply below_alloc | apply pw_below_drewN | apply below_drew1) | exact HB.out))) : w.heap.size ≤ gb256)); have n3_ := Aside0.mk ((by rw [hg]; exact (below_size (by repeat (first | (with_reducible first | exact HB.out | apply below_alloc | apply pw_below_drewN | apply below_drew1) | exact HB.out))) : w.heap.size ≤ gb256)); clear HB; have HB := n0_; have BK256 := n1_; have GW256 := n2_; have GE256 := n3_; clear n0_ n1_ n2_ n3_; clear hb hbox hg; have hcz10_0 : w9.cell? ⟨gb256, 0, none⟩ = some (.slice A0_0 l0_0.length c0_0) := (blk_cell BK256.out 0).trans rfl; have hcz10_1 : w9.cell? ⟨gb256, 1, none⟩ = some (.slice A0_1 l0_1.length c0_1) := (blk_cell BK256.out 1).trans rfl; have hfz10_0 := blk_frozen BK256.out 0; have hfz10_1 := blk_frozen BK256.out 1) | ((with_reducible refine gate_callee (f := 61) rfl ?_); refine goesL_ (some 8) rfl rfl Try.func61 (by kernel_rfl) rfl #[.slice A0_0 l0_0.length c0_0, .int .i64 a1] rfl (by (try simp only [List.map_toArray, List.map_cons, List.map_nil]); first | done | rfl | (simp only [List.length_drop, List.length_take]; rfl)) ?_; (with_reducible refine (laws_heldBoolS.calls k _ _ l0_0 a1 t257 _ ?side1 ?side2 A3.out).mono ?_); (case side1 => repeat (first | exact (Kd.C_below HR0_0.out HB.out) | (with_reducible refine Kd.C_alloc ?_ _) | (with_reducible refine Kd.C_drewN ?_ _) | (with_reducible refine Kd.C_drew ?_))); (case side2 => exact HC0_0.out); rintro e w' ⟨rfl, ⟨nd, rfl⟩⟩; refine ⟨_, rfl, ?_⟩) | ((with_reducible refine gate_callee (f := 62) rfl ?_); refine goesL_ (some 14) rfl rfl Try.func62 (by kernel_rfl) rfl #[.slice A0_1 l0_1.length c0_1, .int .i64 t257] rfl (by (try simp only [List.map_toArray, List.map_cons, List.map_nil]); first | done | rfl | (simp only [List.length_drop, List.length_take]; rfl)) ?_; (with_reducible refine (laws_heldIntSS.calls k _ _ l0_1 t257 t258 _ ?side1 ?side2 A7.out).mono ?_); (case side1 => repeat (first | exact (Kd.C_below HR0_1.out (by repeat (first | (with_reducible first | exact HB.out | apply below_alloc | apply pw_below_drewN | apply below_drew1 | refine below_set ?_ GE256.out) | exact HB.out))) | (with_reducible refine Kd.C_alloc ?_ _) | (with_reducible refine Kd.C_drewN ?_ _) | (with_reducible refine Kd.C_drew ?_))); (case side2 => exact HC0_1.out); rintro e w' ⟨rfl, ⟨nd, rfl⟩⟩; refine ⟨_, rfl, ?_⟩))
      go_ret
      exact ⟨by first | rfl | (simp [errW_none, errW_some] <;> rfl) | (simp [*, errW_none, errW_some] <;> rfl), by repeat (first | (with_reducible first | exact HB.out | apply below_alloc | apply pw_below_drewN | apply below_drew1 | refine below_set ?_ GE256.out) | exact HB.out)⟩
    · rw [if_neg c8] at H
      have c8b0 : decide (t258 < 0) = false := decide_eq_false c8
      clear c8
      obtain rfl := Option.some.inj H
      simp only [Option.some.injEq, Prod.mk.injEq] at H
      obtain ⟨rfl⟩ := H
      go_enter Try.func18, Try.ntmps18
      go_wp2_with (first | ((with_reducible refine gate_dst (N := 2) rfl ?_); refine box_event ?hg (N := 2) ?hd (cs := #[.slice A0_0 l0_0.length c0_0, .slice A0_1 l0_1.length c0_1]) (t := 27) ?hr ?_; (case hd => rfl); (case hg => rfl); (case hr => first | (go_simp; done) | (go_simp; rfl)); intro gb256 hg w11 hbox hb; have n0_ := Aside0.mk (below_step (by repeat (first | (with_reducible first | exact HB.out | apply below_alloc | apply pw_below_drewN | apply below_drew1) | exact HB.out)) hb); have n1_ := Aside0.mk (hbox); have n2_ := Aside0.mk ((by rw [hg]; exact (below_size (by repeat (first | (with_reducible first | exact HB.out | apply below_alloc | apply pw_below_drewN | apply below_drew1) | exact HB.out))) : w.heap.size ≤ gb256)); have n3_ := Aside0.mk ((by rw [hg]; exact (below_size (by repeat (first | (with_reducible first | exact HB.out | apply below_alloc | apply pw_below_drewN | apply below_drew1) | exact HB.out))) : w.heap.size ≤ gb256)); clear HB; have HB := n0_; have BK256 := n1_; have GW256 := n2_; have GE256 := n3_; clear n0_ n1_ n2_ n3_; clear hb hbox hg; have hcz12_0 : w11.cell? ⟨gb256, 0, none⟩ = some (.slice A0_0 l0_0.length c0_0) := (blk_cell BK256.out 0).trans rfl; have hcz12_1 : w11.cell? ⟨gb256, 1, none⟩ = some (.slice A0_1 l0_1.length c0_1) := (blk_cell BK256.out 1).trans rfl; have hfz12_0 := blk_frozen BK256.out 0; have hfz12_1 := blk_frozen BK256.out 1) | ((with_reducible refine gate_callee (f := 61) rfl ?_); refine goesL_ (some 8) rfl rfl Try.func61 (by kernel_rfl) rfl #[.slice A0_0 l0_0.length c0_0, .int .i64 a1] rfl (by (try simp only [List.map_toArray, List.map_cons, List.map_nil]); first | done | rfl | (simp only [List.length_drop, List.length_take]; rfl)) ?_; (with_reducible refine (laws_heldBoolS.calls k _ _ l0_0 a1 t257 _ ?side1 ?side2 A3.out).mono ?_); (case side1 => repeat (first | exact (Kd.C_below HR0_0.out HB.out) | (with_reducible refine Kd.C_alloc ?_ _) | (with_reducible refine Kd.C_drewN ?_ _) | (with_reducible refine Kd.C_drew ?_))); (case side2 => exact HC0_0.out); rintro e w' ⟨rfl, ⟨nd, rfl⟩⟩; refine ⟨_, rfl, ?_⟩) | ((with_reducible refine gate_callee (f := 62) rfl ?_); refine goesL_ (some 14) rfl rfl Try.func62 (by kernel_rfl) rfl #[.slice A0_1 l0_1.length c0_1, .int .i64 t257] rfl (by (try simp only [List.map_toArray, List.map_cons, List.map_nil]); first | done | rfl | (simp only [List.length_drop, List.length_take]; rfl)) ?_; (with_reducible refine (laws_heldIntSS.calls k _ _ l0_1 t257 t258 _ ?side1 ?side2 A7.out).mono ?_); (case side1 => repeat (first | exact (Kd.C_below HR0_1.out (by repeat (first | (with_reducible first | exact HB.out | apply below_alloc | apply pw_below_drewN | apply below_drew1 | refine below_set ?_ GE256.out) | exact HB.out))) | (with_reducible refine Kd.C_alloc ?_ _) | (with_reducible refine Kd.C_drewN ?_ _) | (with_reducible refine Kd.C_drew ?_))); (case side2 => exact HC0_1.out); rintro e w' ⟨rfl, ⟨nd, rfl⟩⟩; refine ⟨_, rfl, ?_⟩))
      go_ret
      exact ⟨by first | rfl | (simp [errW_none, errW_some] <;> rfl) | (simp [*, errW_none, errW_some] <;> rfl), by repeat (first | (with_reducible first | exact HB.out | apply below_alloc | apply pw_below_drewN | apply below_drew1 | refine below_set ?_ GE256.out) | exact HB.out)⟩
end Go.Proofs.Ytogamkblkoobkaa.P
end
section
namespace Go.Proofs.Ytogamkblkoobkaa.Wk
open Go.RowKit Go.Shelf Go.Proofs.Ytogamkblkoobkaa.P Go.Proofs.Ytogamkblkoobkaa.Pl Go.Proofs.Ytogamkblkoobkaa.Mp Go.Proofs.YtogamkblkoobkaaW.PrintWords Go.Proofs.YtogamkblkoobkaaW.PrintLast Go.Proofs.YtogamkblkoobkaaW.PrintMore
set_option linter.unusedVariables false
set_option linter.unusedSimpArgs false
theorem S_mark {e0 e : Nat} {w : World} {base g n cap : Nat} {ok : Nat → Prop} {xss : List (List Int)} (h : Kd.S (Kd.slice e0 (Kd.int .i64)) e w base ok (.slice (some ⟨g, 0, none⟩) n cap) xss) (j : Nat) (hj : j < xss.length) :
    ∃ u : Value, w.cell? ⟨g, j, none⟩ = some u ∧ Kd.R (Kd.int .i64) e0 w base (fun k => some k = u.ownBlock ∧ ok k ∧ k ≠ g) u xss[j] ∧
      ∀ (w' : World) (ys : List Int), (∀ b, some b ≠ u.ownBlock → b < w.heap.size → w'.heap[b]? = w.heap[b]?) → Kd.R (Kd.int .i64) e0 w' base (fun k => some k = u.ownBlock) u ys → Kd.S (Kd.slice e0 (Kd.int .i64)) e w' base ok (.slice (some ⟨g, 0, none⟩) n cap) (xss.set j ys) := by
  obtain ⟨f, h0, inner, ho, hr⟩ := h
  obtain ⟨u, hu, hR⟩ := hr.2 j _ (Kd.zip_at (List.getElem?_eq_getElem hj))
  have hsz : (Kd.tag f (Kd.slice e0 (Kd.int .i64))).sz = 1 := rfl
  rw [hsz, Nat.mul_one] at hu
  have hg : (Value.slice (some ⟨g, 0, none⟩) n cap).ownBlock = some g := by simp [Value.ownBlock]
  have hin : inner[j]? = some u := by
    have := congrArg (fun l => l[0]?) hu
    simpa [List.getElem?_take, List.getElem?_drop] using this
  refine ⟨u, ?_, Kd.R_mono (Kd.R_tight2 rfl hR) (fun k hk => ⟨hk.1, hk.2.1.1, fun e => hk.2.1.2 (by rw [e, hg])⟩), fun w' ys hb hR2 => ⟨f, h0, inner, ?_, ?_, ?_⟩⟩
  · have := ho.cells (g := g) hg j u hin
    rwa [add_plain] at this
  · rw [List.length_zipIdx, List.length_set]
    rw [List.length_zipIdx] at ho
    refine own_move ho (fun k hk => hb k (fun e => ?_) (own_lt ho k hk))
    exact (hR.1 k e.symm).1.2 hk.symm
  · have := hr.1
    rw [List.length_zipIdx] at this ⊢
    rw [List.length_set]
    exact this
  · intro i p hp
    rw [List.getElem?_zipIdx, Nat.zero_add] at hp
    obtain ⟨x, hx, rfl⟩ := Option.map_eq_some_iff.1 hp
    rw [List.getElem?_set] at hx
    by_cases e : j = i
    · subst e
      rw [if_pos rfl, if_pos hj] at hx
      injection hx with hx
      subst hx
      refine ⟨u, by rw [hsz, Nat.mul_one]; exact hu, Kd.R_mono hR2 (fun k hk => hR.1 k hk.symm)⟩
    · rw [if_neg e] at hx
      have := hr.2 i _ (Kd.zip_at hx)
      exact Kd.M_step (d := Kd.slice e0 (Kd.int .i64)) this (fun k hk hlt => hb k (fun e2 => e ((hR.1 k e2.symm).2.symm.trans hk.2)) hlt)
def mkRow (a : Int) (xs : List Int) : List Int := (List.range xs.length).map fun (i : Nat) => a + i
def mkK : List (List Int) → Int → Int
  | [], a => a
  | r :: t, a => mkK t (a + r.length)
def mkRows : List (List Int) → Int → List (List Int)
  | [], _ => []
  | r :: t, a => mkRow a r :: mkRows t (a + r.length)
theorem markInts_l0 (xs : List Int) (hl : xs.length ≤ 2000000) (a : Int) (ha : 0 ≤ a ∧ a ≤ 1000000000000000) : ∀ d i : Nat, i + d = xs.length → Ev (fun k => laws_markIntS.l0 k ((List.range i).map (fun (m : Nat) => a + m) ++ xs.drop i) (a + i) i) (a + xs.length, mkRow a xs) := by
  intro d
  induction d with
  | zero =>
    intro i hi
    refine next ?_
    rw [List.drop_eq_nil_of_le (by omega), List.append_nil]
    simp only [laws_markIntS.l0, List.length_map, List.length_range, if_neg (show ¬ (i : Int) < (i : Int) by omega)]
    exact ev_some (by unfold mkRow; rw [show xs.length = i by omega])
  | succ d ih =>
    intro i hi
    refine next ?_
    have hlen : (((List.range i).map (fun (m : Nat) => a + m) ++ xs.drop i).length : Int) = (xs.length : Int) := by simp; omega
    have hset : ((List.range i).map (fun (m : Nat) => a + m) ++ xs.drop i).set i (a + i) = (List.range (i + 1)).map (fun (m : Nat) => a + m) ++ xs.drop (i + 1) := by
      rw [List.drop_eq_getElem_cons (by omega), List.range_succ, List.map_append, List.map_singleton]
      rw [List.set_append_right _ _ (by simp)]
      simp only [List.length_map, List.length_range, Nat.sub_self, List.set_cons_zero, List.append_assoc, List.singleton_append]
    have IH := ih (i + 1) (by omega)
    simp only [laws_markIntS.l0, hlen, if_pos (show (i : Int) < (xs.length : Int) by omega), if_pos (show (0 : Int) ≤ (i : Int) by omega), Int.toNat_natCast, hset]
    rw [up1 (by omega), w64 (by omega) (by omega)]
    rw [show a + ((i + 1 : Nat) : Int) = a + i + 1 by omega] at IH
    exact IH
theorem markInts (xs : List Int) (hl : xs.length ≤ 2000000) (a : Int) (ha : 0 ≤ a ∧ a ≤ 1000000000000000) : Ev (fun k => laws_markIntS.f k xs a) (a + xs.length, mkRow a xs) := by
  have := markInts_l0 xs hl a ha xs.length 0 (by omega)
  refine this.congr fun k => ?_
  simp [laws_markIntS.f]
theorem mkK_snoc : ∀ (t : List (List Int)) (r : List Int) (a : Int), mkK (t ++ [r]) a = mkK t a + r.length
  | [], r, a => rfl
  | x :: t, r, a => mkK_snoc t r _
theorem mkRows_snoc : ∀ (t : List (List Int)) (r : List Int) (a : Int), mkRows (t ++ [r]) a = mkRows t a ++ [mkRow (mkK t a) r]
  | [], r, a => rfl
  | x :: t, r, a => by
    show mkRow a x :: mkRows (t ++ [r]) _ = _
    rw [mkRows_snoc t r]
    rfl
theorem mkRows_len : ∀ (t : List (List Int)) (a : Int), (mkRows t a).length = t.length
  | [], a => rfl
  | x :: t, a => congrArg (· + 1) (mkRows_len t _)
def small (xss : List (List Int)) : Prop := ∀ r ∈ xss, r.length ≤ 2000000
theorem mkK_bound : ∀ (t : List (List Int)) (a : Int), small t → a ≤ mkK t a ∧ mkK t a ≤ a + 2000000 * t.length
  | [], a, h => by simp [mkK]
  | x :: t, a, h => by
    have h1 := mkK_bound t (a + x.length) (fun r hr => h r (List.mem_cons_of_mem _ hr))
    have h2 := h x List.mem_cons_self
    show a ≤ mkK t (a + x.length) ∧ mkK t (a + x.length) ≤ _
    simp only [List.length_cons]
    omega
set_option maxRecDepth 100000 in
set_option maxHeartbeats 4000000 in
theorem markRowsCalls (P0 : Nat → Prop) (v : Value) (xss : List (List Int)) (a : Int) (w0 w : World) (hB : Below w0.heap.size w0 w) (ho : Kd.S (Kd.slice 3 (Kd.int .i64)) 67 w w0.heap.size P0 v xss)
    (hx : xss.length ≤ 2000000) (hs : small xss) (ha : 0 ≤ a ∧ a ≤ 20000000000000) :
    Calls Try.prog 60 #[v, .int .i64 a] w fun e w' => e = .returned (.int .i64 (mkK xss a)) ∧ Kd.S (Kd.slice 3 (Kd.int .i64)) 67 w' w0.heap.size P0 v (mkRows xss a) ∧ Below w0.heap.size w0 w' ∧ Kept w w' P0 := by
  obtain ⟨A, c, ev⟩ := Kd.S_slice ho
  subst ev
  have HX := Aside0.mk hx
  have HS := Aside0.mk hs
  have HA := Aside0.mk ha
  have HB := Aside0.mk hB
  have HO := Aside0.mk ho
  have HK := Aside0.mk (Kept.refl w P0)
  clear hx hs ha hB ho
  go_enter Try.func60, Try.ntmps60
  go_wp2
  go_loopg [1, 5] xss.length (fun gg v1 v5 wr => ∃ (i : Nat), v5 = .int .i64 (i : Int) ∧ v1 = .int .i64 (mkK (xss.take i) a) ∧ Aside0 (i ≤ xss.length) ∧ Aside0 (xss.length ≤ gg + i) ∧ Aside0 (Kd.S (Kd.slice 3 (Kd.int .i64)) 67 wr w0.heap.size P0 (.slice A xss.length c) (mkRows (xss.take i) a ++ xss.drop i)) ∧ Aside0 (Below w0.heap.size w0 wr) ∧ Aside0 (Kept w wr P0))
  case atStart => exact ⟨0, rfl, by simp [mkK], ⟨Nat.zero_le _⟩, ⟨by omega⟩, ⟨by simpa [mkRows] using HO.out⟩, HB, HK⟩
  case round =>
    clear HO HB HK
    obtain ⟨i, rfl, rfl, HI, HG, HO, HB, HK⟩ := hrel
    by_cases hi : i < xss.length
    · cases gk with
      | zero => exact absurd HG.out (by omega)
      | succ g1 =>
      have hlen : (mkRows (xss.take i) a ++ xss.drop i).length = xss.length := by rw [List.length_append, mkRows_len, List.length_take, List.length_drop]; omega
      obtain ⟨g, cap, e, _⟩ := Kd.S_form HO.out (by omega)
      injection e with e1 e2 e3
      subst e1
      subst e3
      obtain ⟨u, hu, hR, hset⟩ := S_mark HO.out i (by omega)
      have hat : (mkRows (xss.take i) a ++ xss.drop i)[i]'(by omega) = xss[i] := by
        rw [List.getElem_append_right (by rw [mkRows_len]; simp; omega)]
        simp only [mkRows_len, List.length_take, List.getElem_drop]
        congr 1
        omega
      rw [hat] at hR
      have hri := HS.out _ (List.getElem_mem hi)
      have hkb := mkK_bound (xss.take i) a (fun r hr => HS.out r (List.mem_of_mem_take hr))
      have hti : (xss.take i).length = i := by simp; omega
      rw [hti] at hkb
      have hkk : mkK (xss.take (i + 1)) a = mkK (xss.take i) a + xss[i].length := by rw [List.take_succ_eq_append_getElem hi, mkK_snoc]
      have hrr : (mkRows (xss.take i) a ++ xss.drop i).set i (mkRow (mkK (xss.take i) a) xss[i]) = mkRows (xss.take (i + 1)) a ++ xss.drop (i + 1) := by
        rw [List.take_succ_eq_append_getElem hi, mkRows_snoc, List.set_append_right _ _ (by rw [mkRows_len, hti]; exact Nat.le_refl _), mkRows_len, hti, Nat.sub_self, List.drop_eq_getElem_cons hi, List.set_cons_zero, List.append_assoc, List.singleton_append]
      obtain ⟨kf, hkf⟩ := (markInts xss[i] hri (mkK (xss.take i) a) (by have := HA.out; have := HX.out; omega)).rounds
      generalize xss[i] = row at hR hri hkk hrr hkf
      generalize hka : mkK (xss.take i) a = ka at hkk hrr hkf ⊢
      obtain ⟨Au, cu, eu⟩ := Kd.R_slice hR
      subst eu
      have HRW := Aside0.mk hR
      have HSET := Aside0.mk hset
      have HKF := Aside0.mk hkf
      have HKK := Aside0.mk hkk
      have HRR := Aside0.mk hrr
      have p1 : ((0 : Int) ≤ (i : Int)) = True := eq_true (by omega)
      have q1 : ((i : Int) < (xss.length : Int)) = True := eq_true (by omega)
      have HI2 := Aside0.mk hi
      clear hi hlen hat hri hkb hti hkk hrr hkf hR hset hka e2
      go_wp2_with ((with_reducible refine gate_callee (f := 119) rfl ?_); refine goesL_ (some 17) rfl rfl Try.func119 (by kernel_rfl) rfl #[.slice Au row.length cu, .int .i64 ka] rfl (by (try simp only [List.map_toArray, List.map_cons, List.map_nil]); first | done | rfl) ?_; (with_reducible refine (laws_markIntS.calls kf (fun k_ => some k_ = (Value.slice Au row.length cu).ownBlock) _ row ka _ _ w0 _ ?sideB ?sideO HKF.out).mono ?_); (case sideB => exact HB.out); (case sideO => exact Kd.R_mono HRW.out (fun _ h_ => h_.1)); rintro e w' ⟨rfl, hr2, hb2, hk2⟩; have HR2 := Aside0.mk hr2; have HB2 := Aside0.mk hb2; have HK2 := Aside0.mk hk2; clear hr2 hb2 hk2; refine ⟨_, rfl, ?_⟩)
      have HSN : Aside0 (Kd.S (Kd.slice 3 (Kd.int .i64)) 67 w' w0.heap.size P0 (.slice (some ⟨g, 0, none⟩) xss.length c) (mkRows (xss.take (i + 1)) a ++ xss.drop (i + 1))) := ⟨by
        rw [← HRR.out]
        exact HSET.out w' _ (fun b hne hlt => HK2.out.2 b hlt (fun e => hne e)) (Kd.R_tight rfl HR2.out)⟩
      have HKN : Aside0 (Kept w w' P0) := ⟨HK.out.then_ HK2.out (fun k e => .inl (HRW.out.1 k e.symm).2.1)⟩
      go_roundg g1
      case measure => omega
      case rel => exact ⟨i + 1, by rw [up1 (by have := HI2.out; have := HX.out; omega)], by rw [HKK.out], ⟨HI2.out⟩, ⟨by have := HG.out; omega⟩, HSN, HB2, HKN⟩
    · have ei : i = xss.length := by have := HI.out; omega
      subst ei
      have q1 : ((xss.length : Int) < (xss.length : Int)) = False := eq_false (by omega)
      have HO : Aside0 (Kd.S (Kd.slice 3 (Kd.int .i64)) 67 wr w0.heap.size P0 (.slice A xss.length c) (mkRows xss a)) := ⟨by simpa using HO.out⟩
      rw [List.take_length]
      clear hi HI HG
      go_wp2
      go_ret
      exact ⟨rfl, HO.out, HB.out, HK.out⟩
def mkB (a : Int) (xs : List Bool) : List Bool := (List.range xs.length).map fun (i : Nat) => (Int.tmod (a + i) 3) == 0
theorem markBools_l0 (xs : List Bool) (hl : xs.length ≤ 2000000) (a : Int) (ha : 0 ≤ a ∧ a ≤ 1000000000000000) : ∀ d i : Nat, i + d = xs.length → Ev (fun k => laws_markBoolS.l0 k ((List.range i).map (fun (m : Nat) => (Int.tmod (a + m) 3) == 0) ++ xs.drop i) (a + i) i) (a + xs.length, mkB a xs) := by
  intro d
  induction d with
  | zero =>
    intro i hi
    refine next ?_
    rw [List.drop_eq_nil_of_le (by omega), List.append_nil]
    simp only [laws_markBoolS.l0, List.length_map, List.length_range, if_neg (show ¬ (i : Int) < (i : Int) by omega)]
    exact ev_some (by unfold mkB; rw [show xs.length = i by omega])
  | succ d ih =>
    intro i hi
    refine next ?_
    have hlen : (((List.range i).map (fun (m : Nat) => (Int.tmod (a + m) 3) == 0) ++ xs.drop i).length : Int) = (xs.length : Int) := by simp; omega
    have hset : ((List.range i).map (fun (m : Nat) => (Int.tmod (a + m) 3) == 0) ++ xs.drop i).set i ((Int.tmod (a + i) 3) == 0) = (List.range (i + 1)).map (fun (m : Nat) => (Int.tmod (a + m) 3) == 0) ++ xs.drop (i + 1) := by
      rw [List.drop_eq_getElem_cons (by omega), List.range_succ, List.map_append, List.map_singleton]
      rw [List.set_append_right _ _ (by simp)]
      simp only [List.length_map, List.length_range, Nat.sub_self, List.set_cons_zero, List.append_assoc, List.singleton_append]
    have IH := ih (i + 1) (by omega)
    simp only [laws_markBoolS.l0, hlen, if_pos (show (i : Int) < (xs.length : Int) by omega), if_pos (show (0 : Int) ≤ (i : Int) by omega), Int.toNat_natCast, hset]
    rw [up1 (by omega), w64 (by omega) (by omega)]
    rw [show a + ((i + 1 : Nat) : Int) = a + i + 1 by omega] at IH
    exact IH
theorem markBools (xs : List Bool) (hl : xs.length ≤ 2000000) (a : Int) (ha : 0 ≤ a ∧ a ≤ 1000000000000000) : Ev (fun k => laws_markBoolS.f k xs a) (a + xs.length, mkB a xs) := by
  have := markBools_l0 xs hl a ha xs.length 0 (by omega)
  refine this.congr fun k => ?_
  simp [laws_markBoolS.f]
theorem heldBools_l0 (n : Nat) (xs : List Bool) (hx : xs.length = n) (hl : n ≤ 2000000) (a : Int) (ha : 0 ≤ a ∧ a ≤ 1000000000000000) : ∀ d i : Nat, i + d = n → Ev (fun k => laws_heldBoolS.l0 k (mkB a xs) (a + i) i) (a + n) := by
  have hlen : (mkB a xs).length = n := by simp [mkB, hx]
  intro d
  induction d with
  | zero =>
    intro i hi
    refine next ?_
    simp only [laws_heldBoolS.l0, hlen, if_neg (show ¬ (i : Int) < (n : Int) by omega)]
    exact ev_some (by rw [show i = n by omega])
  | succ d ih =>
    intro i hi
    refine next ?_
    have IH := ih (i + 1) (by omega)
    have hat : rdOf false (mkB a xs) (i : Int) = ((Int.tmod (a + i) 3) == 0) := by
      rw [rdOf_get false _ i (by omega)]
      simp [mkB]
    simp only [laws_heldBoolS.l0, hlen, if_pos (show (i : Int) < (n : Int) by omega), if_pos (show (0 : Int) ≤ (i : Int) by omega), hat, bne_self_eq_false, if_neg (show ¬ false = true by decide)]
    rw [up1 (by omega), w64 (by omega) (by omega)]
    rw [show a + ((i + 1 : Nat) : Int) = a + i + 1 by omega] at IH
    exact IH
theorem heldBools (xs : List Bool) (hl : xs.length ≤ 2000000) (a : Int) (ha : 0 ≤ a ∧ a ≤ 1000000000000000) : Ev (fun k => laws_heldBoolS.f k (mkB a xs) a) (a + xs.length) := by
  have := heldBools_l0 xs.length xs rfl hl a ha xs.length 0 (by omega)
  refine this.congr fun k => ?_
  simp [laws_heldBoolS.f]
theorem heldInts_l0 (n : Nat) (xs : List Int) (hx : xs.length = n) (hl : n ≤ 2000000) (a : Int) (ha : 0 ≤ a ∧ a ≤ 1000000000000000) : ∀ d i : Nat, i + d = n → Ev (fun k => laws_heldIntS.l0 k (mkRow a xs) (a + i) i) (a + n) := by
  have hlen : (mkRow a xs).length = n := by simp [mkRow, hx]
  intro d
  induction d with
  | zero =>
    intro i hi
    refine next ?_
    simp only [laws_heldIntS.l0, hlen, if_neg (show ¬ (i : Int) < (n : Int) by omega)]
    exact ev_some (by rw [show i = n by omega])
  | succ d ih =>
    intro i hi
    refine next ?_
    have IH := ih (i + 1) (by omega)
    have hat : rd (mkRow a xs) (i : Int) = a + i := by
      rw [rd_get _ i (by omega)]
      simp [mkRow]
    simp only [laws_heldIntS.l0, hlen, if_pos (show (i : Int) < (n : Int) by omega), if_pos (show (0 : Int) ≤ (i : Int) by omega), hat, if_true]
    rw [up1 (by omega), w64 (by omega) (by omega)]
    rw [show a + ((i + 1 : Nat) : Int) = a + i + 1 by omega] at IH
    exact IH
theorem heldInts (xs : List Int) (hl : xs.length ≤ 2000000) (a : Int) (ha : 0 ≤ a ∧ a ≤ 1000000000000000) : Ev (fun k => laws_heldIntS.f k (mkRow a xs) a) (a + xs.length) := by
  have := heldInts_l0 xs.length xs rfl hl a ha xs.length 0 (by omega)
  refine this.congr fun k => ?_
  simp [laws_heldIntS.f]
theorem mkRows_get : ∀ (t : List (List Int)) (a : Int) (i : Nat) (hi : i < t.length), (mkRows t a)[i]'(by rw [mkRows_len]; exact hi) = mkRow (mkK (t.take i) a) t[i]
  | x :: t, a, 0, _ => rfl
  | x :: t, a, i + 1, hi => mkRows_get t _ i (by simpa using hi)
theorem heldRows (xss : List (List Int)) (hx : xss.length ≤ 2000000) (hs : small xss) (a : Int) (ha : 0 ≤ a ∧ a ≤ 20000000000000) : Ev (fun k => laws_heldIntSS.f k (mkRows xss a) a) (mkK xss a) := by
  have hlen : (mkRows xss a).length = xss.length := mkRows_len xss a
  have H : ∀ d i : Nat, i + d = xss.length → Ev (fun k => laws_heldIntSS.l0 k (mkRows xss a) (mkK (xss.take i) a) i) (mkK xss a) := by
    intro d
    induction d with
    | zero =>
      intro i hi
      refine next ?_
      simp only [laws_heldIntSS.l0, hlen, if_neg (show ¬ (i : Int) < (xss.length : Int) by omega)]
      exact ev_some (by rw [List.take_of_length_le (by omega)])
    | succ d ih =>
      intro i hi
      have hii : i < xss.length := by omega
      refine next ?_
      have IH := ih (i + 1) (by omega)
      rw [List.take_succ_eq_append_getElem hii, mkK_snoc] at IH
      have hkb := mkK_bound (xss.take i) a (fun r hr => hs r (List.mem_of_mem_take hr))
      have hti : (xss.take i).length = i := by simp; omega
      rw [hti] at hkb
      have hat : rd_L2 (mkRows xss a) (i : Int) = mkRow (mkK (xss.take i) a) xss[i] := by
        show (mkRows xss a).getD (i : Int).toNat [] = _
        rw [Int.toNat_natCast, List.getD_eq_getElem?_getD, List.getElem?_eq_getElem (by omega), Option.getD_some, mkRows_get xss a i hii]
      simp only [laws_heldIntSS.l0, hlen, if_pos (show (i : Int) < (xss.length : Int) by omega), if_pos (show (0 : Int) ≤ (i : Int) by omega), hat]
      refine (heldInts xss[i] (hs _ (List.getElem_mem hii)) _ (by omega)).bind ?_
      simp only [if_neg (show ¬ mkK (xss.take i) a + (xss[i].length : Int) < 0 by omega)]
      rw [up1 (by omega)]
      exact IH
  have := H xss.length 0 (by omega)
  refine this.congr fun k => ?_
  simp [laws_heldIntSS.f, mkK]
theorem heldMarked (xs : List Bool) (xss : List (List Int)) (hl : xs.length ≤ 2000000) (hx : xss.length ≤ 2000000) (hs : small xss) (a : Int) (ha : 0 ≤ a ∧ a ≤ 10000000000000) : Ev (fun k => laws_heldDfa.f k (mkB a xs) (mkRows xss (a + xs.length)) a) (mkK xss (a + xs.length)) := by
  have hkb := mkK_bound xss (a + xs.length) hs
  refine (heldBools xs (by omega) a (by omega)).bind ?_
  simp only [if_neg (show ¬ a + (xs.length : Int) < 0 by omega)]
  refine (heldRows xss hx hs _ (by omega)).bind ?_
  simp only [if_neg (show ¬ mkK xss (a + (xs.length : Int)) < 0 by omega)]
  exact ev_some rfl
set_option maxRecDepth 100000 in
set_option maxHeartbeats 4000000 in
theorem markDfaCalls (P0 P1 : Nat → Prop) (v0 v1 : Value) (xs : List Bool) (xss : List (List Int)) (a : Int) (w0 w : World) (hB : Below w0.heap.size w0 w) (h0 : Kd.R Kd.bool 4 w w0.heap.size P0 v0 xs) (h1 : Kd.S (Kd.slice 3 (Kd.int .i64)) 67 w w0.heap.size P1 v1 xss)
    (hl : xs.length ≤ 2000000) (hx : xss.length ≤ 2000000) (hs : small xss) (ha : 0 ≤ a ∧ a ≤ 10000000000000) :
    Calls Try.prog 17 #[.agg #[v0, v1], .int .i64 a] w fun e w' => e = .returned (.int .i64 (mkK xss (a + xs.length))) ∧ Kd.R Kd.bool 4 w' w0.heap.size P0 v0 (mkB a xs) ∧ Kd.S (Kd.slice 3 (Kd.int .i64)) 67 w' w0.heap.size P1 v1 (mkRows xss (a + xs.length)) ∧ Below w0.heap.size w0 w' ∧ Kept w w' (fun k => P0 k ∨ P1 k) := by
  have hu := Try.underlying27
  obtain ⟨A0, c0, e0⟩ := Kd.R_slice h0
  subst e0
  obtain ⟨A1, c1, e1⟩ := Kd.S_slice h1
  subst e1
  obtain ⟨kf, hkf⟩ := (markBools xs (by omega) a (by omega)).rounds
  have HKF := Aside0.mk hkf
  have HX := Aside0.mk hx
  have HS := Aside0.mk hs
  have HA : Aside0 (0 ≤ a + (xs.length : Int) ∧ a + (xs.length : Int) ≤ 20000000000000) := ⟨by omega⟩
  have HB := Aside0.mk (below_alloc hB (Obj.cells #[.slice A0 xs.length c0, .slice A1 xss.length c1] 27))
  have H0 := Aside0.mk (Kd.R_alloc h0 (Obj.cells #[.slice A0 xs.length c0, .slice A1 xss.length c1] 27))
  have H1 := Aside0.mk (Kd.S_alloc h1 (Obj.cells #[.slice A0 xs.length c0, .slice A1 xss.length c1] 27))
  have HK := Aside0.mk ((Kept.refl w (fun k => P0 k ∨ P1 k)).alloc (Obj.cells #[.slice A0 xs.length c0, .slice A1 xss.length c1] 27))
  have HBX : Aside0 ((w.alloc (Obj.cells #[.slice A0 xs.length c0, .slice A1 xss.length c1] 27)).heap[w.heap.size]? = some (.cells #[.slice A0 xs.length c0, .slice A1 xss.length c1] 27 (0, 0))) := ⟨blk_new w _⟩
  clear h0 h1 hkf hl hx hs ha hB
  go_enter Try.func17, Try.ntmps17
  go_wp2_with (first
    | ((with_reducible refine gate_callee (f := 59) rfl ?_); refine goesL_ (some 8) rfl rfl Try.func59 (by kernel_rfl) rfl #[.slice A0 xs.length c0, .int .i64 a] rfl (by (try simp only [List.map_toArray, List.map_cons, List.map_nil]); first | done | rfl) ?_; (with_reducible refine (laws_markBoolS.calls kf (fun k_ => some k_ = (Value.slice A0 xs.length c0).ownBlock) _ xs a _ _ w0 _ ?sideB ?sideO HKF.out).mono ?_); (case sideB => exact HB.out); (case sideO => exact Kd.R_tight rfl H0.out); rintro e w2 ⟨rfl, hr2, hb2, hk2⟩; have HR2 := Aside0.mk (Kd.R_tight rfl hr2); have HB2 := Aside0.mk hb2; have HK2 := Aside0.mk hk2; have HBX2 : Aside0 (w2.heap[w.heap.size]? = some (.cells #[.slice A0 xs.length c0, .slice A1 xss.length c1] 27 (0, 0))) := ⟨blk_kept HBX.out hk2 (Kd.R_ne H0.out HBX.out (by decide))⟩; have H12 := Aside0.mk (Kd.S_step (Kd.S_apart' H1.out (Kd.R_typed H0.out) (by decide)) (fun k hk hlt => hk2.2 k hlt hk.2)); have hcx : w2.cell? ⟨w.heap.size, 1, none⟩ = some (.slice A1 xss.length c1) := (blk_cell HBX2.out 1).trans rfl; clear hr2 hb2 hk2; refine ⟨_, rfl, ?_⟩)
    | ((with_reducible refine gate_callee (f := 60) rfl ?_); refine goesL_ (some 12) rfl rfl Try.func60 (by kernel_rfl) rfl #[.slice A1 xss.length c1, .int .i64 (a + xs.length)] rfl (by (try simp only [List.map_toArray, List.map_cons, List.map_nil]); first | done | rfl) ?_; (with_reducible refine (markRowsCalls (fun k_ => P1 k_ ∧ some k_ ≠ (Value.slice A0 xs.length c0).ownBlock) _ xss (a + xs.length) w0 _ ?sideB ?sideO HX.out HS.out HA.out).mono ?_); (case sideB => exact HB2.out); (case sideO => exact H12.out); rintro e w3 ⟨rfl, hr3, hb3, hk3⟩; have HR3 := Aside0.mk hr3; have HB3 := Aside0.mk hb3; have HK3 := Aside0.mk hk3; clear hr3 hb3 hk3; refine ⟨_, rfl, ?_⟩))
  go_ret
  refine ⟨rfl, ?_, Kd.S_mono HR3.out (fun _ hk => hk.1), HB3.out, ?_⟩
  · exact Kd.R_mono (Kd.R_step HR2.out (fun k hk hlt => HK3.out.2 k hlt (fun e => e.2 hk))) (fun k hk => H0.out.1 k hk.symm)
  · exact (HK.out.then_ HK2.out (fun k hk => .inl (.inl (H0.out.1 k hk.symm)))).then_ HK3.out (fun k hk => .inl (.inr hk.1))
end Go.Proofs.Ytogamkblkoobkaa.Wk
end
section
namespace Go.Proofs.Ytogamkblkoobkaa.Wk
open Go.RowKit Go.Shelf Go.Proofs.Ytogamkblkoobkaa.P Go.Proofs.Ytogamkblkoobkaa.Pl Go.Proofs.Ytogamkblkoobkaa.Mp Go.Proofs.YtogamkblkoobkaaW.PrintWords Go.Proofs.YtogamkblkoobkaaW.PrintLast Go.Proofs.YtogamkblkoobkaaW.PrintMore
set_option linter.unusedVariables false
set_option linter.unusedSimpArgs false
structure Dv (base : Nat) (w : World) (lo hi : Nat) (v0 v1 : Value) (xs : List Bool) (xss : List (List Int)) : Prop where
  r0 : Kd.R Kd.bool 4 w base (fun k => lo ≤ k ∧ k < hi) v0 xs
  r1 : Kd.S (Kd.slice 3 (Kd.int .i64)) 67 w base (fun k => lo ≤ k ∧ k < hi) v1 xss
section
variable {base : Nat} {w w' : World} {lo hi : Nat} {v0 v1 : Value} {xs : List Bool} {xss : List (List Int)}
theorem Dv.fresh (hb : base ≤ w.heap.size) (h0 : Kd.R Kd.bool 4 w' w.heap.size (fun _ => True) v0 xs) (h1 : Kd.S (Kd.slice 3 (Kd.int .i64)) 67 w' w.heap.size (fun _ => True) v1 xss) : Dv base w' w.heap.size w'.heap.size v0 v1 xs xss :=
  ⟨Kd.R_lower (Kd.R_mono (Kd.R_bound h0) (fun k hk => ⟨hk.2.1, hk.2.2.1⟩)) hb, Kd.S_lower (Kd.S_mono (Kd.S_bound h1) (fun k hk => ⟨hk.2.1, hk.2.2.1⟩)) hb⟩
theorem Dv.below (h : Dv base w lo hi v0 v1 xs xss) (hb : Below w.heap.size w w') : Dv base w' lo hi v0 v1 xs xss := ⟨Kd.R_below h.r0 hb, Kd.S_below h.r1 hb⟩
theorem Dv.kept (h : Dv base w lo hi v0 v1 xs xss) {S : Nat → Prop} (hk : Kept w w' S) (hd : ∀ k, lo ≤ k → k < hi → ¬ S k) : Dv base w' lo hi v0 v1 xs xss :=
  ⟨Kd.R_step h.r0 (fun k hk2 hlt => hk.2 k hlt (hd k hk2.1 hk2.2)), Kd.S_step h.r1 (fun k hk2 hlt => hk.2 k hlt (hd k hk2.1 hk2.2))⟩
theorem Dv.slices (h : Dv base w lo hi v0 v1 xs xss) : ∃ A0 c0 A1 c1, v0 = .slice A0 xs.length c0 ∧ v1 = .slice A1 xss.length c1 ∧ xs.length ≤ c0 ∧ xss.length ≤ c1 := by
  obtain ⟨A0, c0, e0, h0, _⟩ := Kd.R_reads h.r0
  obtain ⟨A1, c1, e1, h1, _⟩ := Kd.S_reads h.r1
  exact ⟨A0, c0, A1, c1, e0, e1, h0, h1⟩
theorem Dv.c0 {A : Option Addr} {n c : Nat} (h : Dv base w lo hi (.slice A n c) v1 xs xss) : Kd.C Kd.bool w A xs.length xs := (Kd.R_reads' h.r0).2.2
theorem Dv.c1 {A : Option Addr} {n c : Nat} (h : Dv base w lo hi v0 (.slice A n c) xs xss) : Kd.C (Kd.slice 3 (Kd.int .i64)) w A xss.length xss := (Kd.S_reads' h.r1).2.2
end
theorem markDv {w0 w : World} {lo hi : Nat} {v0 v1 : Value} {xs : List Bool} {xss : List (List Int)} (a : Int) (hB : Below w0.heap.size w0 w) (h : Dv w0.heap.size w lo hi v0 v1 xs xss)
    (hl : xs.length ≤ 2000000) (hx : xss.length ≤ 2000000) (hs : small xss) (ha : 0 ≤ a ∧ a ≤ 10000000000000) :
    Calls Try.prog 17 #[.agg #[v0, v1], .int .i64 a] w fun e w' => e = .returned (.int .i64 (mkK xss (a + xs.length))) ∧ Dv w0.heap.size w' lo hi v0 v1 (mkB a xs) (mkRows xss (a + xs.length)) ∧ Below w0.heap.size w0 w' ∧ Kept w w' (fun k => lo ≤ k ∧ k < hi) :=
  (markDfaCalls _ _ v0 v1 xs xss a w0 w hB h.r0 h.r1 hl hx hs ha).mono fun e w' hh => by
    obtain ⟨h1, h2, h3, h4, h5⟩ := hh
    exact ⟨h1, ⟨h2, h3⟩, h4, h5.mono (fun k hk => hk.elim id id)⟩
theorem heldDv {base : Nat} {w : World} {lo hi : Nat} {v0 v1 : Value} {xs : List Bool} {xss : List (List Int)} (h : Dv base w lo hi v0 v1 (mkB 1 xs) (mkRows xss (1 + xs.length)))
    (hl : xs.length ≤ 2000000) (hx : xss.length ≤ 2000000) (hs : small xss) :
    Calls Try.prog 18 #[.agg #[v0, v1], .int .i64 1] w fun e w' => e = .returned (.int .i64 (mkK xss (1 + xs.length))) ∧ Below w.heap.size w w' := by
  obtain ⟨k, hk⟩ := (heldMarked xs xss hl hx hs 1 (by omega)).rounds
  obtain ⟨A0, c0, A1, c1, e0, e1, h0, h1⟩ := h.slices
  subst e0
  subst e1
  exact laws_heldDfa.calls k _ _ _ _ _ _ 1 _ _ h.c0 h0 h.c1 h1 hk
end Go.Proofs.Ytogamkblkoobkaa.Wk
end
section
namespace Go.Proofs.Ytogamkblkoobkaa.P
open Go.RowKit Go.Proofs.YtogamkblkoobkaaW.PrintWords Go.Proofs.YtogamkblkoobkaaW.PrintLast Go.Proofs.YtogamkblkoobkaaW.PrintMore
attribute [local go_sem] max2_int min2_int max_two min_two max_three min_three max_four min_four
set_option linter.unusedVariables false
set_option linter.unusedSimpArgs false
def impl_within.f (a0 : Int) (a1 : Int) (a2 : Int) : Option (Bool) := if a0 ≥ a1 then (some (decide (a0 ≤ a2))) else (some false)
set_option maxHeartbeats 8000000 in
set_option maxRecDepth 100000 in
theorem impl_within.calls (a0 : Int) (a1 : Int) (a2 : Int) (r : Bool) (w : World) (h : impl_within.f a0 a1 a2 = some r) :
    Calls Try.prog 101 #[.int .i64 a0, .int .i64 a1, .int .i64 a2] w fun e w' => e = .returned (.bool r) ∧ Drawn0 w w' := by
  have H : (if a0 ≥ a1 then (some (decide (a0 ≤ a2))) else (some false)) = some r := h
  clear h
  by_cases c4 : a0 ≥ a1
  · rw [if_pos c4] at H
    have c4b0 : decide (a1 ≤ a0) = true := decide_eq_true c4
    clear c4
    obtain rfl := Option.some.inj H
    simp only [Option.some.injEq, Prod.mk.injEq] at H
    obtain ⟨rfl⟩ := H
    go_enter Try.func101, Try.ntmps101
    go_wp2
    go_ret
    exact ⟨by first | rfl | (simp; done) | (simp [*]; done), by repeat (first | exact Drawn0.refl _ | apply Drawn0.step)⟩
  · rw [if_neg c4] at H
    have c4b0 : decide (a1 ≤ a0) = false := decide_eq_false c4
    clear c4
    obtain rfl := Option.some.inj H
    simp only [Option.some.injEq, Prod.mk.injEq] at H
    obtain ⟨rfl⟩ := H
    go_enter Try.func101, Try.ntmps101
    go_wp2
    go_ret
    exact ⟨by first | rfl | (simp; done) | (simp [*]; done), by repeat (first | exact Drawn0.refl _ | apply Drawn0.step)⟩
end Go.Proofs.Ytogamkblkoobkaa.P
end
section
namespace Go.Proofs.Ytogamkblkoobkaa.Wk
open Go.RowKit Go.Shelf Go.Proofs.Ytogamkblkoobkaa.P Go.Proofs.YtogamkblkoobkaaW.PrintWords Go.Proofs.YtogamkblkoobkaaW.PrintLast Go.Proofs.YtogamkblkoobkaaW.PrintMore
set_option linter.unusedVariables false
set_option linter.unusedSimpArgs false
def badState (n q : Int) : Bool := !decide (0 ≤ q) || !decide (q ≤ n - 1)
set_option maxHeartbeats 2000000 in
theorem inner (q : Int) (n : Int) (B : Nat) (hn0 : 1 ≤ n) (hn : n ≤ 40) (w : World) (hc : w.cell? ⟨B, 0, none⟩ = some (.int .i64 n)) :
    Calls Try.prog 105 #[.int .i64 q, .pointer (some ⟨B, 0, none⟩)] w fun e w' => e = .returned (.bool (badState n q)) ∧ Below w.heap.size w w' := by
  have H1 := fun W => impl_within.calls q 0 (n - 1) (decide (0 ≤ q) && decide (q ≤ n - 1)) W (by unfold impl_within.f; by_cases h : q ≥ 0 <;> simp [h])
  have HC := Aside0.mk H1
  clear H1
  go_enter Try.func105, Try.ntmps105
  go_wp2_with (go_at_call 101; refine (HC.out _).mono ?_; rintro e w' ⟨rfl, ⟨m, rfl⟩⟩)
  go_ret
  exact ⟨rfl, (Drawn0.below ⟨⟨_, rfl⟩⟩)⟩
theorem cellsRows {e : Nat} {w : World} {A : Option Addr} {n : Nat} {xs : List (List Int)} (h : Kd.C (Kd.slice e (Kd.int .i64)) w A n xs) : 0 < n → ∃ ad : Addr, A = some ad ∧ ∀ j, j < n → ∃ A0 c0, w.cell? (ad.add j) = some (.slice A0 (xs.getD j []).length c0) ∧ Kd.C (Kd.int .i64) w A0 (xs.getD j []).length (xs.getD j []) := by
  intro h0
  obtain ⟨ad, ea, hc⟩ := h.2.2 h0
  refine ⟨ad, ea, fun j hj => ?_⟩
  have hl : j < xs.length := by rw [h.1]; exact hj
  obtain ⟨c, hs, hr, hcell⟩ := hc j xs[j] (List.getElem?_eq_getElem hl)
  obtain ⟨A0, c0, rfl, h1, h2⟩ := hr
  have := hcell 0 _ rfl
  rw [show (Kd.slice e (Kd.int .i64)).sz = 1 from rfl, Nat.mul_one, Nat.add_zero] at this
  rw [List.getD_eq_getElem?_getD, List.getElem?_eq_getElem hl]
  exact ⟨A0, c0, this, h2⟩
end Go.Proofs.Ytogamkblkoobkaa.Wk
end
section
namespace Go.Proofs.Ytogamkblkoobkaa.Rk
open Go.RowKit Go.Deep Go.ChangeShapes Go.WideShapes Go.Proofs.YtogamkblkoobkaaW.PrintWords Go.Proofs.YtogamkblkoobkaaW.PrintLast Go.Proofs.YtogamkblkoobkaaW.PrintMore
set_option linter.unusedVariables false
set_option linter.unusedSimpArgs false
variable {H : Type} {enc : TypeId × Value → H} {P : Program} {w : World} {base : Nat} {spare : Nat → Bool} {held : Bool} {α : Type}
def wfI (k : IntKind) (n : Int) : Prop := (Lit.int k n).wf = true
end Go.Proofs.Ytogamkblkoobkaa.Rk
end
section
namespace Go.Proofs.Ytogamkblkoobkaa.P
open Go.RowKit Go.Proofs.YtogamkblkoobkaaW.PrintWords Go.Proofs.YtogamkblkoobkaaW.PrintLast Go.Proofs.YtogamkblkoobkaaW.PrintMore
attribute [local go_sem] max2_int min2_int max_two min_two max_three min_three max_four min_four
set_option linter.unusedVariables false
set_option linter.unusedSimpArgs false
end Go.Proofs.Ytogamkblkoobkaa.P
end
section
namespace Go.Proofs.Ytogamkblkoobkaa.P
open Go.RowKit Go.Proofs.YtogamkblkoobkaaW.PrintWords Go.Proofs.YtogamkblkoobkaaW.PrintLast Go.Proofs.YtogamkblkoobkaaW.PrintMore
attribute [local go_sem] max2_int min2_int max_two min_two max_three min_three max_four min_four
set_option linter.unusedVariables false
set_option linter.unusedSimpArgs false
end Go.Proofs.Ytogamkblkoobkaa.P
end
section
namespace Go.Proofs.Ytogamkblkoobkaa.Pl
open Go.RowKit Go.Proofs.Ytogamkblkoobkaa.P Go.Proofs.YtogamkblkoobkaaW.PrintWords Go.Proofs.YtogamkblkoobkaaW.PrintLast Go.Proofs.YtogamkblkoobkaaW.PrintMore Wk
set_option linter.unusedVariables false
set_option linter.unusedSimpArgs false
theorem rows_get (xs : List (List Int)) (i : Nat) (h : i < xs.length) : rd_L2 xs i = xs[i] := by
  simp [rd_L2, List.getD_eq_getElem?_getD, h]
theorem sameInts_l0 (a b : List Int) (hl : a.length = b.length) (hn : a.length ≤ 1048576) : ∀ d i : Nat, i + d = a.length → Ev (fun k => laws_eqIntS.l0 k a b i) (decide (a.drop i = b.drop i)) := by
  intro d
  induction d with
  | zero =>
    intro i h
    refine next ?_
    simp only [laws_eqIntS.l0, if_neg (show ¬ (i : Int) < (a.length : Int) by omega)]
    exact ev_some (by rw [List.drop_eq_nil_of_le (by omega), List.drop_eq_nil_of_le (by omega)]; simp)
  | succ d ih =>
    intro i h
    refine next ?_
    have ha : i < a.length := by omega
    have hb : i < b.length := by omega
    have e : (a.drop i = b.drop i) ↔ (a[i] = b[i] ∧ a.drop (i + 1) = b.drop (i + 1)) := by
      rw [List.drop_eq_getElem_cons ha, List.drop_eq_getElem_cons hb]
      exact List.cons_eq_cons
    simp only [laws_eqIntS.l0, if_pos (show (i : Int) < (a.length : Int) by omega), if_pos (show (0 : Int) ≤ i by omega), if_pos (show (i : Int) < (b.length : Int) by omega), rd_get a i ha, rd_get b i hb]
    by_cases he : a[i] = b[i]
    · simp only [if_pos he, up1 (show i < 9223372036854775807 by omega)]
      exact ev_eq (ih (i + 1) (by omega)) (decide_eq_decide.mpr (by rw [e]; exact ⟨fun x => ⟨he, x⟩, fun x => x.2⟩))
    · simp only [if_neg he]
      exact ev_some (by rw [eq_comm, decide_eq_false_iff_not, e]; exact fun x => he x.1)
theorem sameInts (a b : List Int) (hn : a.length ≤ 1048576) : Ev (fun k => laws_eqIntS.f k a b) (decide (a = b)) := by
  simp only [laws_eqIntS.f]
  by_cases h : a.length = b.length
  · simp only [if_pos (show (a.length : Int) = (b.length : Int) by omega)]
    exact sameInts_l0 a b h hn a.length 0 (by omega)
  · simp only [if_neg (show ¬ (a.length : Int) = (b.length : Int) by omega)]
    exact ev_some (by simp; intro e; exact h (by rw [e]))
theorem sameBools_l0 (a b : List Bool) (hl : a.length = b.length) (hn : a.length ≤ 1048576) : ∀ d i : Nat, i + d = a.length → Ev (fun k => laws_eqBoolS.l0 k a b i) (decide (a.drop i = b.drop i)) := by
  intro d
  induction d with
  | zero =>
    intro i h
    refine next ?_
    simp only [laws_eqBoolS.l0, if_neg (show ¬ (i : Int) < (a.length : Int) by omega)]
    exact ev_some (by rw [List.drop_eq_nil_of_le (by omega), List.drop_eq_nil_of_le (by omega)]; simp)
  | succ d ih =>
    intro i h
    refine next ?_
    have ha : i < a.length := by omega
    have hb : i < b.length := by omega
    have e : (a.drop i = b.drop i) ↔ (a[i] = b[i] ∧ a.drop (i + 1) = b.drop (i + 1)) := by
      rw [List.drop_eq_getElem_cons ha, List.drop_eq_getElem_cons hb]
      exact List.cons_eq_cons
    simp only [laws_eqBoolS.l0, if_pos (show (i : Int) < (a.length : Int) by omega), if_pos (show (0 : Int) ≤ i by omega), if_pos (show (i : Int) < (b.length : Int) by omega), rdOf_get _ a i ha, rdOf_get _ b i hb]
    by_cases he : a[i] = b[i]
    · simp only [show (a[i] != b[i]) = false from bne_eq_false_iff_eq.mpr he, Bool.false_ne_true, if_false, up1 (show i < 9223372036854775807 by omega)]
      exact ev_eq (ih (i + 1) (by omega)) (decide_eq_decide.mpr (by rw [e]; exact ⟨fun x => ⟨he, x⟩, fun x => x.2⟩))
    · simp only [show (a[i] != b[i]) = true from bne_iff_ne.mpr he, if_true]
      exact ev_some (by rw [eq_comm, decide_eq_false_iff_not, e]; exact fun x => he x.1)
theorem sameBools (a b : List Bool) (hn : a.length ≤ 1048576) : Ev (fun k => laws_eqBoolS.f k a b) (decide (a = b)) := by
  simp only [laws_eqBoolS.f]
  by_cases h : a.length = b.length
  · simp only [if_pos (show (a.length : Int) = (b.length : Int) by omega)]
    exact sameBools_l0 a b h hn a.length 0 (by omega)
  · simp only [if_neg (show ¬ (a.length : Int) = (b.length : Int) by omega)]
    exact ev_some (by simp; intro e; exact h (by rw [e]))
theorem sameRows_l0 (a b : List (List Int)) (hl : a.length = b.length) (hn : a.length ≤ 1048576) (hx : ∀ x ∈ a, x.length ≤ 1048576) : ∀ d i : Nat, i + d = a.length → Ev (fun k => laws_eqIntSS.l0 k a b i) (decide (a.drop i = b.drop i)) := by
  intro d
  induction d with
  | zero =>
    intro i h
    refine next ?_
    simp only [laws_eqIntSS.l0, if_neg (show ¬ (i : Int) < (a.length : Int) by omega)]
    exact ev_some (by rw [List.drop_eq_nil_of_le (by omega), List.drop_eq_nil_of_le (by omega)]; simp)
  | succ d ih =>
    intro i h
    refine next ?_
    have ha : i < a.length := by omega
    have hb : i < b.length := by omega
    have e : (a.drop i = b.drop i) ↔ (a[i] = b[i] ∧ a.drop (i + 1) = b.drop (i + 1)) := by
      rw [List.drop_eq_getElem_cons ha, List.drop_eq_getElem_cons hb]
      exact List.cons_eq_cons
    simp only [laws_eqIntSS.l0, if_pos (show (i : Int) < (a.length : Int) by omega), if_pos (show (0 : Int) ≤ i by omega), if_pos (show (i : Int) < (b.length : Int) by omega), rows_get a i ha, rows_get b i hb]
    refine Ev.bind (sameInts a[i] b[i] (hx _ (List.getElem_mem _))) ?_
    by_cases he : a[i] = b[i]
    · simp only [decide_eq_true he, if_true, up1 (show i < 9223372036854775807 by omega)]
      exact ev_eq (ih (i + 1) (by omega)) (decide_eq_decide.mpr (by rw [e]; exact ⟨fun x => ⟨he, x⟩, fun x => x.2⟩))
    · simp only [decide_eq_false he, Bool.false_ne_true, if_false]
      exact ev_some (by rw [eq_comm, decide_eq_false_iff_not, e]; exact fun x => he x.1)
theorem sameRows (a b : List (List Int)) (hn : a.length ≤ 1048576) (hx : ∀ x ∈ a, x.length ≤ 1048576) : Ev (fun k => laws_eqIntSS.f k a b) (decide (a = b)) := by
  simp only [laws_eqIntSS.f]
  by_cases h : a.length = b.length
  · simp only [if_pos (show (a.length : Int) = (b.length : Int) by omega)]
    exact sameRows_l0 a b h hn hx a.length 0 (by omega)
  · simp only [if_neg (show ¬ (a.length : Int) = (b.length : Int) by omega)]
    exact ev_some (by simp; intro e; exact h (by rw [e]))
theorem sameDfa (a : List Bool) (n : List (List Int)) (a2 : List Bool) (n2 : List (List Int)) (ha : a.length ≤ 1048576) (hn : n.length ≤ 1048576) (hx : ∀ x ∈ n, x.length ≤ 1048576) : Ev (fun k => laws_eqDfa.f k a n a2 n2) (decide (a = a2) && decide (n = n2)) := by
  simp only [laws_eqDfa.f]
  refine Ev.bind (sameBools a a2 ha) ?_
  by_cases h1 : a = a2
  · simp only [decide_eq_true h1, if_true, Bool.true_and]
    refine Ev.bind (sameRows n n2 hn hx) ?_
    by_cases h2 : n = n2
    · simp only [decide_eq_true h2, if_true]
      exact Ev.now _
    · simp only [decide_eq_false h2, Bool.false_ne_true, if_false]
      exact Ev.now _
  · simp only [decide_eq_false h1, Bool.false_ne_true, if_false, Bool.false_and]
    exact Ev.now _
end Go.Proofs.Ytogamkblkoobkaa.Pl
end
section
namespace Go.Proofs.Ytogamkblkoobkaa.Lg
set_option linter.unusedVariables false
set_option linter.unusedSectionVars false
theorem nodup_len {α : Type} [DecidableEq α] : ∀ (s t : List α), s.Nodup → (∀ x ∈ s, x ∈ t) → s.length ≤ t.length
  | [], t, _, _ => Nat.zero_le _
  | a :: s, t, hn, hs => by
    rw [List.nodup_cons] at hn
    have hm := hs a List.mem_cons_self
    have h1 := nodup_len s (t.erase a) hn.2 (fun x hx => by
      have hne : x ≠ a := by rintro rfl; exact hn.1 hx
      exact (List.mem_erase_of_ne hne).mpr (hs x (List.mem_cons_of_mem _ hx)))
    rw [List.length_erase_of_mem hm] at h1
    have := List.length_pos_of_mem hm
    simp only [List.length_cons]
    omega
section
variable {α : Type} [DecidableEq α]
def add (L : List α) (y : α) : List α := if y ∈ L then L else L ++ [y]
def adds (L ys : List α) : List α := ys.foldl add L
inductive Runs (succ : α → List α) : List α → Nat → List α → Prop
  | stop {L : List α} {i : Nat} (h : L.length ≤ i) : Runs succ L i L
  | step {L R : List α} {i : Nat} (h : i < L.length) (hr : Runs succ (adds L (succ L[i])) (i + 1) R) : Runs succ L i R
theorem mem_add {L : List α} {y z : α} : z ∈ add L y ↔ z ∈ L ∨ z = y := by
  unfold add
  split
  · rename_i h
    constructor
    · exact Or.inl
    · rintro (q | rfl)
      · exact q
      · exact h
  · simp
theorem mem_adds {ys : List α} : ∀ {L : List α} {z : α}, z ∈ adds L ys ↔ z ∈ L ∨ z ∈ ys := by
  induction ys with
  | nil => intro L z; simp [adds]
  | cons y ys ih =>
    intro L z
    show z ∈ adds (add L y) ys ↔ _
    rw [ih, mem_add]
    simp only [List.mem_cons]
    constructor
    · rintro ((h | h) | h) <;> simp [h]
    · rintro (h | h | h) <;> simp [h]
theorem adds_nil (L : List α) : adds L [] = L := rfl
theorem adds_cons (L : List α) (y : α) (ys : List α) : adds L (y :: ys) = adds (add L y) ys := rfl
theorem adds_append (L ys zs : List α) : adds L (ys ++ zs) = adds (adds L ys) zs := by simp [adds, List.foldl_append]
theorem add_in {L : List α} {y : α} (h : y ∈ L) : add L y = L := by unfold add; rw [if_pos h]
theorem add_out {L : List α} {y : α} (h : y ∉ L) : add L y = L ++ [y] := by unfold add; rw [if_neg h]
theorem adds_in {ys : List α} : ∀ {L : List α}, (∀ y ∈ ys, y ∈ L) → adds L ys = L := by
  induction ys with
  | nil => intro L _; rfl
  | cons y ys ih =>
    intro L h
    rw [adds_cons, add_in (h y List.mem_cons_self)]
    exact ih fun z hz => h z (List.mem_cons_of_mem _ hz)
theorem add_pre (L : List α) (y : α) : L <+: add L y := by
  unfold add
  split
  · exact List.prefix_refl _
  · exact List.prefix_append _ _
theorem adds_pre (ys : List α) : ∀ L : List α, L <+: adds L ys := by
  induction ys with
  | nil => intro L; exact List.prefix_refl _
  | cons y ys ih => intro L; exact (add_pre L y).trans (ih _)
theorem nodup_add {L : List α} (h : L.Nodup) (y : α) : (add L y).Nodup := by
  unfold add
  split
  · exact h
  · rename_i hn
    rw [List.nodup_append]
    refine ⟨h, by simp, ?_⟩
    rintro a ha b hb rfl
    rw [List.mem_singleton] at hb
    subst hb
    exact hn ha
theorem nodup_adds (ys : List α) : ∀ {L : List α}, L.Nodup → (adds L ys).Nodup := by
  induction ys with
  | nil => intro L h; exact h
  | cons y ys ih => intro L h; exact ih (nodup_add h y)
theorem Runs.det {succ : α → List α} {L R R' : List α} {i : Nat} (h : Runs succ L i R) (h' : Runs succ L i R') : R = R' := by
  induction h with
  | stop h =>
    cases h' with
    | stop _ => rfl
    | step h2 _ => omega
  | step h _ ih =>
    cases h' with
    | stop h2 => omega
    | step _ hr => exact ih hr
theorem Runs.pre {succ : α → List α} {L R : List α} {i : Nat} (h : Runs succ L i R) : L <+: R := by
  induction h with
  | stop h => exact List.prefix_refl _
  | step h _ ih => exact (adds_pre _ _).trans ih
theorem Runs.nodup {succ : α → List α} {L R : List α} {i : Nat} (h : Runs succ L i R) : L.Nodup → R.Nodup := by
  induction h with
  | stop h => exact id
  | step h _ ih => exact fun hn => ih (nodup_adds _ hn)
theorem Runs.all {succ : α → List α} {L R : List α} {i : Nat} (h : Runs succ L i R) {p : α → Prop} (hp : ∀ x, p x → ∀ y ∈ succ x, p y) : (∀ x ∈ L, p x) → ∀ x ∈ R, p x := by
  induction h with
  | stop h => exact id
  | step h _ ih =>
    refine fun ha => ih fun x hx => ?_
    rcases mem_adds.mp hx with q | q
    · exact ha x q
    · exact hp _ (ha _ (List.getElem_mem h)) x q
theorem Runs.closed {succ : α → List α} {L R : List α} {i : Nat} (h : Runs succ L i R) (hc : ∀ j (hj : j < L.length), j < i → ∀ y ∈ succ L[j], y ∈ L) : ∀ x ∈ R, ∀ y ∈ succ x, y ∈ R := by
  induction h with
  | stop h =>
    intro x hx y hy
    obtain ⟨j, hj, rfl⟩ := List.mem_iff_getElem.mp hx
    exact hc j hj (by omega) y hy
  | @step L R i h _ ih =>
    refine ih fun j hj hji y hy => ?_
    have hpre := adds_pre (succ L[i]) L
    by_cases hjl : j < L.length
    · have e : (adds L (succ L[i]))[j] = L[j] := (hpre.getElem hjl).symm
      rw [e] at hy
      by_cases hj2 : j < i
      · exact hpre.subset (hc j hjl hj2 y hy)
      · obtain rfl : j = i := by omega
        exact mem_adds.mpr (Or.inr hy)
    · omega
theorem Runs.ends {succ : α → List α} {dom : α → Prop} {N : Nat} (hd : ∀ x, dom x → ∀ y ∈ succ x, dom y) (hcard : ∀ s : List α, s.Nodup → (∀ x ∈ s, dom x) → s.length ≤ N) : ∀ (d : Nat) (L : List α) (i : Nat), L.Nodup → (∀ x ∈ L, dom x) → i ≤ L.length → N ≤ d + i → ∃ R, Runs succ L i R
  | 0, L, i, hn, ha, hi, hd0 => ⟨L, .stop (by have := hcard L hn ha; omega)⟩
  | d + 1, L, i, hn, ha, hi, hd0 => by
    by_cases h : i < L.length
    · have ha2 : ∀ x ∈ adds L (succ L[i]), dom x := fun x hx => by
        rcases mem_adds.mp hx with q | q
        · exact ha x q
        · exact hd _ (ha _ (List.getElem_mem h)) x q
      obtain ⟨R, hR⟩ := Runs.ends hd hcard d (adds L (succ L[i])) (i + 1) (nodup_adds _ hn) ha2 (by have := (adds_pre (succ L[i]) L).length_le; omega) (by omega)
      exact ⟨R, .step h hR⟩
    · exact ⟨L, .stop (by omega)⟩
end
section
variable {α β : Type} [DecidableEq α] [DecidableEq β]
def dd (l : List β) : List β := adds [] l
theorem dd_snoc (l : List β) (y : β) : dd (l ++ [y]) = add (dd l) y := by unfold dd; rw [adds_append]; rfl
theorem mem_dd {l : List β} {y : β} : y ∈ dd l ↔ y ∈ l := by unfold dd; rw [mem_adds]; simp
theorem dd_append (l m : List β) : dd (l ++ m) = adds (dd l) m := adds_append _ _ _
theorem dd_nodup (l : List β) : (dd l).Nodup := nodup_adds _ (by simp)
theorem dd_id {l : List β} (h : l.Nodup) : dd l = l := by
  suffices H : ∀ (m k : List β), (k ++ m).Nodup → adds k m = k ++ m from H l [] (by simpa using h)
  intro m
  induction m with
  | nil => intro k _; simp [adds_nil]
  | cons y m ih =>
    intro k hk
    have hny : y ∉ k := by
      intro hm
      rw [List.nodup_append] at hk
      exact hk.2.2 y hm y List.mem_cons_self rfl
    rw [adds_cons, add_out hny, ih]
    · simp
    · simpa using hk
theorem dd_adds (f : α → β) (xs : List α) : ∀ L : List α, dd ((adds L xs).map f) = adds (dd (L.map f)) (xs.map f) := by
  induction xs with
  | nil => intro L; rfl
  | cons x xs ih =>
    intro L
    rw [adds_cons, ih, List.map_cons, adds_cons]
    congr 1
    by_cases h : x ∈ L
    · rw [add_in h, add_in (mem_dd.mpr (List.mem_map_of_mem h))]
    · rw [add_out h, List.map_append, List.map_singleton, dd_snoc]
theorem Runs.map {succ : α → List α} {succ' : β → List β} {f : α → β} {dom : α → Prop} (hd : ∀ x, dom x → ∀ y ∈ succ x, dom y) (hf : ∀ x, dom x → (succ x).map f = succ' (f x)) {L R : List α} {i : Nat} (h : Runs succ L i R)
    (hall : ∀ x ∈ L, dom x) (hi : i ≤ L.length) (hc : ∀ j (hj : j < L.length), j < i → ∀ y ∈ succ L[j], y ∈ L) : Runs succ' (dd (L.map f)) (dd ((L.take i).map f)).length (dd (R.map f)) := by
  induction h with
  | @stop L i h =>
    have e : L.take i = L := List.take_of_length_le h
    rw [e]
    exact .stop (Nat.le_refl _)
  | @step L R i h hr ih =>
    have hpre := adds_pre (succ L[i]) L
    have hdi := hall _ (List.getElem_mem h)
    have ha2 : ∀ x ∈ adds L (succ L[i]), dom x := fun x hx => by
      rcases mem_adds.mp hx with q | q
      · exact hall x q
      · exact hd _ hdi x q
    have hc2 : ∀ j (hj : j < (adds L (succ L[i])).length), j < i + 1 → ∀ y ∈ succ (adds L (succ L[i]))[j], y ∈ adds L (succ L[i]) := fun j hj hji y hy => by
      have hjl : j < L.length := by omega
      have e : (adds L (succ L[i]))[j] = L[j] := (hpre.getElem hjl).symm
      rw [e] at hy
      by_cases hj2 : j < i
      · exact hpre.subset (hc j hjl hj2 y hy)
      · obtain rfl : j = i := by omega
        exact mem_adds.mpr (Or.inr hy)
    have IH := ih ha2 (by have := hpre.length_le; omega) hc2
    rw [dd_adds, hf _ hdi] at IH
    have et : (adds L (succ L[i])).take (i + 1) = L.take i ++ [L[i]] := by
      obtain ⟨t, ht⟩ := hpre
      have h2 : (adds L (succ L[i])).take (i + 1) = L.take (i + 1) := by rw [← ht, List.take_append_of_le_length (by omega)]
      rw [h2, List.take_succ_eq_append_getElem h]
    rw [et, List.map_append, List.map_singleton, dd_snoc] at IH
    have hpm : dd ((L.take i).map f ++ [f L[i]]) <+: dd (L.map f) := by
      have e2 : L.map f = ((L.take i).map f ++ [f L[i]]) ++ (L.drop (i + 1)).map f := by
        rw [← List.map_singleton, ← List.map_append, ← List.map_append, ← List.take_succ_eq_append_getElem h, List.take_append_drop]
      have h3 := adds_pre ((L.drop (i + 1)).map f) (dd ((L.take i).map f ++ [f L[i]]))
      rw [← dd_append, ← e2] at h3
      exact h3
    rw [dd_snoc] at hpm
    by_cases hm : f L[i] ∈ dd ((L.take i).map f)
    · rw [add_in hm] at IH
      obtain ⟨x, hx, hxe⟩ := List.mem_map.mp (mem_dd.mp hm)
      obtain ⟨j, hj, rfl⟩ := List.mem_iff_getElem.mp hx
      have hj' : j < i := by simp only [List.length_take] at hj; omega
      have hjl : j < L.length := by omega
      have eL : (L.take i)[j] = L[j] := List.getElem_take
      have : adds (dd (L.map f)) (succ' (f L[i])) = dd (L.map f) := by
        refine adds_in fun y hy => ?_
        rw [← hxe, eL, ← hf _ (hall _ (List.getElem_mem hjl))] at hy
        obtain ⟨z, hz, rfl⟩ := List.mem_map.mp hy
        exact mem_dd.mpr (List.mem_map_of_mem (hc j hjl hj' z hz))
      rw [this] at IH
      exact IH
    · rw [add_out hm] at IH hpm
      have hlt : (dd ((L.take i).map f)).length < (dd (L.map f)).length := by
        have := hpm.length_le
        simp only [List.length_append, List.length_singleton] at this
        omega
      have eg : (dd (L.map f))[(dd ((L.take i).map f)).length] = f L[i] := by
        rw [← hpm.getElem (by simp)]
        simp
      refine .step hlt ?_
      rw [eg]
      rw [List.length_append, List.length_singleton] at IH
      exact IH
theorem Runs.map0 {succ : α → List α} {succ' : β → List β} {f : α → β} {dom : α → Prop} (hd : ∀ x, dom x → ∀ y ∈ succ x, dom y) (hf : ∀ x, dom x → (succ x).map f = succ' (f x)) {x0 : α} {R : List α} (h : Runs succ [x0] 0 R) (h0 : dom x0) : Runs succ' [f x0] 0 (dd (R.map f)) := by
  have := h.map hd hf (fun x hx => by rw [List.mem_singleton] at hx; subst hx; exact h0) (Nat.zero_le _) (fun j _ hj => by omega)
  simpa [dd, adds, add] using this
end
end Go.Proofs.Ytogamkblkoobkaa.Lg
end
section
namespace Go.Proofs.Ytogamkblkoobkaa.Bf
open Go.RowKit Go.Proofs.Ytogamkblkoobkaa.Pl Go.Proofs.Ytogamkblkoobkaa.Mp Go.Proofs.YtogamkblkoobkaaW.PrintWords Go.Proofs.YtogamkblkoobkaaW.PrintLast Go.Proofs.YtogamkblkoobkaaW.PrintMore
set_option linter.unusedVariables false
set_option linter.unusedSimpArgs false
set_option linter.unusedSectionVars false
section
variable {α : Type} [DecidableEq α]
def idx (s : List α) : α → Option Int := fun y => if y ∈ s then some (s.idxOf y : Int) else none
theorem idx_some {s : List α} {y : α} : (idx s y).isSome = decide (y ∈ s) := by unfold idx; split <;> simp_all
theorem idx_in {s : List α} {y : α} (h : y ∈ s) : (idx s y).isSome = true := by rw [idx_some]; exact decide_eq_true h
theorem idx_out {s : List α} {y : α} (h : y ∉ s) : (idx s y).isSome = false := by rw [idx_some]; exact decide_eq_false h
theorem idx_upd {s : List α} {y : α} (h : y ∉ s) : upd (idx s) y (s.length : Int) = idx (s ++ [y]) := by
  funext z
  unfold upd idx
  by_cases hz : z = y
  · subst hz
    rw [if_pos rfl, if_pos (by simp), List.idxOf_append, if_neg h]
    simp
  · rw [if_neg hz]
    by_cases hm : z ∈ s
    · rw [if_pos hm, if_pos (by simp [hm]), List.idxOf_append, if_pos hm]
    · rw [if_neg hm, if_neg (by simp [hm, hz])]
theorem idx_one (x : α) : upd (fun _ => none) x 0 = idx [x] := by
  funext z
  unfold upd idx
  by_cases hz : z = x
  · subst hz; simp
  · rw [if_neg hz, if_neg (by simp [hz])]
abbrev St (α : Type) := List α × List ByteArray
def put (y : α) (wd : ByteArray) (p : St α) : St α := if y ∈ p.1 then p else (p.1 ++ [y], p.2 ++ [wd])
end
section
variable {α : Type}
end
section
variable {α : Type} [DecidableEq α]
end
end Go.Proofs.Ytogamkblkoobkaa.Bf
end
section
namespace Go.Proofs.Ytogamkblkoobkaa.Mn
open Go.RowKit Go.Proofs.Ytogamkblkoobkaa Go.Proofs.Ytogamkblkoobkaa.Lg Go.Proofs.Ytogamkblkoobkaa.Pl Go.Proofs.Ytogamkblkoobkaa.Mp Go.Proofs.Ytogamkblkoobkaa.Bf Go.Proofs.YtogamkblkoobkaaW.PrintWords Go.Proofs.YtogamkblkoobkaaW.PrintLast Go.Proofs.YtogamkblkoobkaaW.PrintMore
set_option linter.unusedVariables false
set_option linter.unusedSimpArgs false
set_option linter.unusedSectionVars false
theorem set_mid {α : Type} (A : List α) (z y : α) (B : List α) : (A ++ z :: B).set A.length y = A ++ [y] ++ B := by
  induction A with
  | nil => rfl
  | cons a A ih => simp
def rowOf (l1 : List (List Int)) (q : Int) : List Int := l1.getD q.toNat []
def ordF (l1 : List (List Int)) : Nat → List Int → Nat → List Int
  | 0, os, _ => os
  | d + 1, os, i => if h : i < os.length then ordF l1 d (adds os (rowOf l1 os[i])) (i + 1) else os
def cls0 (l0 : List Bool) (q : Int) : Int := if rdOf false l0 q = true then 1 else 0
def pl (os : List Int) (x : Int) : Int := (idx os x).getD 0
def pk (cl os row : List Int) (m j : Nat) : Int := if m < j then rd cl (pl os (rd row (m : Int))) else 0
abbrev K4 := Int × Int × Int × Int
def keyAt (l1 : List (List Int)) (os cl : List Int) (i : Nat) : K4 :=
  (cl.getD i 0, rd cl (pl os (rd (rowOf l1 (os.getD i 0)) 0)), rd cl (pl os (rd (rowOf l1 (os.getD i 0)) 1)), rd cl (pl os (rd (rowOf l1 (os.getD i 0)) 2)))
def keys (l1 : List (List Int)) (os cl : List Int) : List K4 := (List.range os.length).map (keyAt l1 os cl)
def nmF {α : Type} [DecidableEq α] : List α → List α → List Int → List α × List Int
  | [], ks, out => (ks, out)
  | k :: r, ks, out => nmF r (add ks k) (out ++ [((add ks k).idxOf k : Int)])
def refF (l1 : List (List Int)) (os : List Int) : Nat → List Int → Nat → List Int
  | 0, cl, _ => cl
  | d + 1, cl, c => if (nmF (keys l1 os cl) [] []).1.length = c then (nmF (keys l1 os cl) [] []).2 else refF l1 os d (nmF (keys l1 os cl) [] []).2 (nmF (keys l1 os cl) [] []).1.length
def ldF : List Int → Nat → List Int → List Int → List Int × List Int
  | [], _, ns, ls => (ns, ls)
  | c :: r, i, ns, ls => if c ∈ ns then ldF r (i + 1) ns ls else ldF r (i + 1) (ns ++ [c]) (ls ++ [(i : Int)])
def outRow (l1 : List (List Int)) (os cl ns : List Int) (i : Int) : List Int := (rowOf l1 (rd os i)).map fun x => (idx ns (rd cl (pl os x))).getD 0
def outD (l0 : List Bool) (l1 : List (List Int)) (os cl : List Int) : List Bool × List (List Int) :=
  ((ldF cl 0 [] []).2.map (fun i => rdOf false l0 (rd os i)), (ldF cl 0 [] []).2.map (outRow l1 os cl (ldF cl 0 [] []).1))
def minT (l0 : List Bool) (l1 : List (List Int)) (os : List Int) : List Bool × List (List Int) := outD l0 l1 os (refF l1 os (os.length + 2) (os.map (cls0 l0)) 0)
def minD (l0 : List Bool) (l1 : List (List Int)) (st : Int) : List Bool × List (List Int) := minT l0 l1 (ordF l1 (l0.length + 2) [st] 0)
theorem idx_nil {α : Type} [DecidableEq α] : (fun _ => none : α → Option Int) = idx [] := by
  funext x
  simp [idx]
theorem idx_val {α : Type} [DecidableEq α] {s : List α} {x : α} (h : x ∈ s) : ((s.idxOf x : Nat) : Int) = (idx s x).getD 0 := by
  unfold idx
  rw [if_pos h]
  rfl
theorem pl_bound {os : List Int} (h : 1 ≤ os.length) (x : Int) : 0 ≤ pl os x ∧ pl os x < (os.length : Int) := by
  unfold pl idx
  split
  · rename_i hm
    have := List.idxOf_lt_length_of_mem hm
    simp only [Option.getD_some]
    omega
  · simp only [Option.getD_none]
    omega
section
variable {α β : Type} [DecidableEq α] [DecidableEq β]
theorem idxOf_pre {L R : List α} (h : L <+: R) {x : α} (hx : x ∈ L) : R.idxOf x = L.idxOf x := by
  obtain ⟨t, rfl⟩ := h
  rw [List.idxOf_append, if_pos hx]
theorem dd_map_le (f : α → β) (l : List α) : (dd (l.map f)).length ≤ (dd l).length := by
  have := nodup_len (dd (l.map f)) ((dd l).map f) (dd_nodup _) (fun x hx => by
    obtain ⟨y, hy, rfl⟩ := List.mem_map.mp (mem_dd.mp hx)
    exact List.mem_map_of_mem (mem_dd.mpr hy))
  simpa using this
theorem dd_len_le (l : List α) : (dd l).length ≤ l.length := nodup_len _ _ (dd_nodup l) (fun x hx => mem_dd.mp hx)
end
theorem nmF_eq {α : Type} [DecidableEq α] : ∀ (K ks : List α) (out : List Int), nmF K ks out = (adds ks K, out ++ K.map (fun k => ((adds ks K).idxOf k : Int)))
  | [], ks, out => by simp [nmF, adds_nil]
  | k :: r, ks, out => by
    rw [nmF, nmF_eq r, adds_cons, List.map_cons]
    have hp := adds_pre r (add ks k)
    rw [idxOf_pre hp (mem_add.mpr (Or.inr rfl))]
    simp
theorem nm_eq {α : Type} [DecidableEq α] (K : List α) : nmF K [] [] = (dd K, K.map (fun k => ((dd K).idxOf k : Int))) := by rw [nmF_eq]; simp [dd]
theorem nm_bound {α : Type} [DecidableEq α] (K : List α) : ∀ x ∈ (nmF K [] []).2, 0 ≤ x ∧ x < ((dd K).length : Int) := by
  rw [nm_eq]
  intro x hx
  obtain ⟨y, hy, rfl⟩ := List.mem_map.mp hx
  have := List.idxOf_lt_length_of_mem (mem_dd.mpr hy)
  omega
theorem keys_len (l1 : List (List Int)) (os cl : List Int) : (keys l1 os cl).length = os.length := by simp [keys]
theorem keys_more {l1 : List (List Int)} {os cl : List Int} (h : cl.length = os.length) : (dd cl).length ≤ (dd (keys l1 os cl)).length := by
  have e : (keys l1 os cl).map (fun k => k.1) = cl := by
    apply List.ext_getElem
    · simp [keys, h]
    · intro i h1 h2
      simp [keys, keyAt, List.getD_eq_getElem?_getD, List.getElem?_eq_getElem h2]
  have := dd_map_le (fun k : K4 => k.1) (keys l1 os cl)
  rw [e] at this
  exact this
theorem nm_classes {α : Type} [DecidableEq α] [Inhabited α] (K : List α) : (dd (nmF K [] []).2).length = (dd K).length := by
  rw [nm_eq]
  dsimp only
  refine Nat.le_antisymm (dd_map_le _ K) ?_
  have e : (K.map (fun k => ((dd K).idxOf k : Int))).map (fun z : Int => (dd K)[z.toNat]?) = K.map some := by
    rw [List.map_map]
    apply List.map_congr_left
    intro k hk
    have hm : k ∈ dd K := mem_dd.mpr hk
    have hl := List.idxOf_lt_length_of_mem hm
    simp only [Function.comp, Int.toNat_natCast]
    rw [List.getElem?_eq_getElem hl, List.getElem_idxOf]
  have h1 := dd_map_le (fun z : Int => (dd K)[z.toNat]?) (K.map (fun k => ((dd K).idxOf k : Int)))
  rw [e] at h1
  have h2 : (dd K).length ≤ (dd (K.map some)).length := by
    have := dd_map_le (fun o : Option α => o.getD default) (K.map some)
    rw [List.map_map, show ((fun o : Option α => o.getD default) ∘ some) = id from rfl, List.map_id] at this
    exact this
  omega
end Go.Proofs.Ytogamkblkoobkaa.Mn
end
section
namespace Go.Proofs.Ytogamkblkoobkaa.Can
open Go.RowKit Go.Proofs.Ytogamkblkoobkaa Go.Proofs.Ytogamkblkoobkaa.Lg Go.Proofs.Ytogamkblkoobkaa.Pl Go.Proofs.Ytogamkblkoobkaa.Mp Go.Proofs.Ytogamkblkoobkaa.Bf Go.Proofs.Ytogamkblkoobkaa.Mn Go.Proofs.YtogamkblkoobkaaW.PrintWords Go.Proofs.YtogamkblkoobkaaW.PrintLast Go.Proofs.YtogamkblkoobkaaW.PrintMore
set_option linter.unusedVariables false
set_option linter.unusedSimpArgs false
set_option linter.unusedSectionVars false
def Lan := List (Fin 3) → Bool
noncomputable instance decLan : DecidableEq Lan := fun _ _ => Classical.propDecidable _
instance : Inhabited Lan := ⟨fun _ => false⟩
def der (L : Lan) (k : Fin 3) : Lan := fun w => L (k :: w)
def lsucc (L : Lan) : List Lan := [der L 0, der L 1, der L 2]
def eps (L : Lan) : Bool := L []
noncomputable def outL (R : List Lan) : List Bool × List (List Int) := (R.map eps, R.map (fun X => (lsucc X).map (fun Y => (R.idxOf Y : Int))))
def IsCan (L : Lan) (out : List Bool × List (List Int)) : Prop := ∃ R, Runs lsucc [L] 0 R ∧ out = outL R
theorem IsCan.det {L : Lan} {a b : List Bool × List (List Int)} (h : IsCan L a) (h' : IsCan L b) : a = b := by
  obtain ⟨R, hR, rfl⟩ := h
  obtain ⟨R', hR', rfl⟩ := h'
  rw [hR.det hR']
structure Fits (acc : List Bool) (nx : List (List Int)) : Prop where
  len : nx.length = acc.length
  row : ∀ q : Int, 0 ≤ q ∧ q < (acc.length : Int) → (rowOf nx q).length = 3 ∧ ∀ x ∈ rowOf nx q, 0 ≤ x ∧ x < (acc.length : Int)
def run (acc : List Bool) (nx : List (List Int)) : List (Fin 3) → Int → Bool
  | [], q => rdOf false acc q
  | k :: w, q => run acc nx w (rd (rowOf nx q) (k.val : Int))
def lang (acc : List Bool) (nx : List (List Int)) (q : Int) : Lan := fun w => run acc nx w q
theorem three {r : List Int} (h : r.length = 3) : r = [rd r 0, rd r 1, rd r 2] := by
  match r, h with
  | [a, b, c], _ => rfl
theorem succ_lang {acc : List Bool} {nx : List (List Int)} (hf : Fits acc nx) {q : Int} (hq : 0 ≤ q ∧ q < (acc.length : Int)) : (rowOf nx q).map (lang acc nx) = lsucc (lang acc nx q) := by
  rw [three (hf.row q hq).1]
  rfl
section
variable {α β : Type} [DecidableEq α] [DecidableEq β]
theorem dd_map2 (f : α → β) (l : List α) : dd (l.map f) = dd ((dd l).map f) := (dd_adds f l []).symm
theorem dd_inj (g : α → β) (A : List α) (hg : ∀ a ∈ A, ∀ b ∈ A, g a = g b → a = b) : dd (A.map g) = (dd A).map g := by
  rw [dd_map2]
  refine dd_id ?_
  rw [List.nodup_iff_pairwise_ne, List.pairwise_map]
  refine (List.nodup_iff_pairwise_ne.mp (dd_nodup A)).imp_of_mem ?_
  intro a b ha hb hne h
  exact hne (hg a (mem_dd.mp ha) b (mem_dd.mp hb) h)
theorem idxOf_inj (g : α → β) : ∀ (R : List α) (a : α), (∀ b ∈ R, g b = g a → b = a) → (R.map g).idxOf (g a) = R.idxOf a
  | [], a, _ => rfl
  | b :: R, a, h => by
    rw [List.map_cons, List.idxOf_cons, List.idxOf_cons]
    rw [idxOf_inj g R a (fun c hc => h c (List.mem_cons_of_mem _ hc))]
    by_cases e : b = a
    · subst e
      rw [beq_self_eq_true, beq_self_eq_true]
    · have e2 : g b ≠ g a := fun h2 => e (h b List.mem_cons_self h2)
      rw [beq_eq_false_iff_ne.mpr e, beq_eq_false_iff_ne.mpr e2]
theorem nodup_of_dd : ∀ (l : List α), (dd l).length = l.length → l.Nodup := by
  intro l
  suffices H : ∀ (m k : List α), (adds k m).length = k.length + m.length → m.Nodup ∧ ∀ x ∈ m, x ∉ k by
    intro h
    exact (H l [] (by simpa [dd] using h)).1
  intro m
  induction m with
  | nil => intro k _; simp
  | cons y m ih =>
    intro k hk
    rw [adds_cons] at hk
    have hle : ∀ (m k : List α), (adds k m).length ≤ k.length + m.length := by
      intro m
      induction m with
      | nil => intro k; simp [adds_nil]
      | cons z m ih2 =>
        intro k
        rw [adds_cons]
        have := ih2 (add k z)
        have h2 : (add k z).length ≤ k.length + 1 := by unfold add; split <;> simp
        simp only [List.length_cons]
        omega
    by_cases hy : y ∈ k
    · rw [add_in hy] at hk
      have := hle m k
      simp only [List.length_cons] at hk
      omega
    · rw [add_out hy] at hk
      obtain ⟨h1, h2⟩ := ih (k ++ [y]) (by rw [hk]; simp; omega)
      refine ⟨List.nodup_cons.mpr ⟨fun hm => h2 y hm (by simp), h1⟩, fun x hx => ?_⟩
      rcases List.mem_cons.mp hx with rfl | hx
      · exact hy
      · exact fun hk => h2 x hx (by simp [hk])
theorem inj_of_len (f : α → β) (K : List α) (h : (dd (K.map f)).length = (dd K).length) : ∀ a ∈ K, ∀ b ∈ K, f a = f b → a = b := by
  rw [dd_map2] at h
  have h2 := nodup_of_dd ((dd K).map f) (by rw [h, List.length_map])
  intro a ha b hb hab
  obtain ⟨i, hi, rfl⟩ := List.mem_iff_getElem.mp (mem_dd.mpr ha)
  obtain ⟨j, hj, rfl⟩ := List.mem_iff_getElem.mp (mem_dd.mpr hb)
  have e1 := h2.idxOf_getElem i (by simpa using hi)
  have e2 := h2.idxOf_getElem j (by simpa using hj)
  rw [List.getElem_map] at e1 e2
  rw [hab, e2] at e1
  subst e1
  rfl
end
def Cf (os cl : List Int) (x : Int) : Int := rd cl (pl os x)
theorem pl_at {os : List Int} (hn : os.Nodup) (i : Nat) (hi : i < os.length) : pl os os[i] = (i : Int) := by
  have hm : os[i] ∈ os := List.getElem_mem hi
  show (idx os os[i]).getD 0 = _
  rw [← idx_val hm, hn.idxOf_getElem]
theorem Cf_at {os cl : List Int} (hn : os.Nodup) (hl : cl.length = os.length) (i : Nat) (hi : i < os.length) : Cf os cl os[i] = cl[i] := by
  unfold Cf
  rw [pl_at hn i hi, rd_get cl i (by omega)]
theorem cl_map {os cl : List Int} (hn : os.Nodup) (hl : cl.length = os.length) : os.map (Cf os cl) = cl := by
  apply List.ext_getElem
  · simp [hl]
  · intro i h1 h2
    rw [List.getElem_map, Cf_at hn hl]
def Kx (l1 : List (List Int)) (os cl : List Int) (x : Int) : K4 := (Cf os cl x, Cf os cl (rd (rowOf l1 x) 0), Cf os cl (rd (rowOf l1 x) 1), Cf os cl (rd (rowOf l1 x) 2))
theorem keys_map {l1 : List (List Int)} {os cl : List Int} (hn : os.Nodup) (hl : cl.length = os.length) : keys l1 os cl = os.map (Kx l1 os cl) := by
  apply List.ext_getElem
  · simp [keys]
  · intro i h1 h2
    have hi : i < os.length := by simpa [keys] using h1
    simp only [keys, List.getElem_map, List.getElem_range, keyAt, Kx]
    rw [Cf_at hn hl i hi]
    simp only [List.getD_eq_getElem?_getD, List.getElem?_eq_getElem hi, List.getElem?_eq_getElem (show i < cl.length by omega), Option.getD_some]
    rfl
def nmOf {α : Type} [DecidableEq α] (D : List α) (k : α) : Int := (D.idxOf k : Int)
theorem nm_snd {α : Type} [DecidableEq α] (K : List α) : (nmF K [] []).2 = K.map (nmOf (dd K)) := by rw [nm_eq]; rfl
theorem nm_fst {α : Type} [DecidableEq α] (K : List α) : (nmF K [] []).1 = dd K := by rw [nm_eq]
theorem idxOf_eq_iff {α : Type} [DecidableEq α] {l : List α} {a b : α} (ha : a ∈ l) (hb : b ∈ l) : l.idxOf a = l.idxOf b ↔ a = b := by
  constructor
  · intro h
    have h1 := List.getElem_idxOf (List.idxOf_lt_length_of_mem ha)
    have h2 := List.getElem_idxOf (List.idxOf_lt_length_of_mem hb)
    rw [← h1, ← h2]
    congr 1
  · rintro rfl; rfl
theorem nmOf_iff {α : Type} [DecidableEq α] {l : List α} {a b : α} (ha : a ∈ l) (hb : b ∈ l) : nmOf l a = nmOf l b ↔ a = b := by
  rw [← idxOf_eq_iff ha hb]
  unfold nmOf
  omega
theorem Cf_next {l1 : List (List Int)} {os cl : List Int} (hn : os.Nodup) (hl : cl.length = os.length) {x : Int} (hx : x ∈ os) : Cf os (nmF (keys l1 os cl) [] []).2 x = nmOf (dd (os.map (Kx l1 os cl))) (Kx l1 os cl x) := by
  obtain ⟨i, hi, rfl⟩ := List.mem_iff_getElem.mp hx
  rw [Cf_at hn (by rw [nm_snd]; simp [keys]) i hi]
  simp only [nm_snd, keys_map hn hl, List.getElem_map]
theorem next_iff {l1 : List (List Int)} {os cl : List Int} (hn : os.Nodup) (hl : cl.length = os.length) {x y : Int} (hx : x ∈ os) (hy : y ∈ os) :
    Cf os (nmF (keys l1 os cl) [] []).2 x = Cf os (nmF (keys l1 os cl) [] []).2 y ↔ Kx l1 os cl x = Kx l1 os cl y := by
  rw [Cf_next hn hl hx, Cf_next hn hl hy]
  exact nmOf_iff (mem_dd.mpr (List.mem_map_of_mem hx)) (mem_dd.mpr (List.mem_map_of_mem hy))
theorem ref_good {acc : List Bool} {l1 : List (List Int)} {os : List Int} (hf : Fits acc l1) (hn : os.Nodup) (hpos : 1 ≤ os.length) (hdom : ∀ x ∈ os, 0 ≤ x ∧ x < (acc.length : Int)) (hcl : ∀ x ∈ os, ∀ y ∈ rowOf l1 x, y ∈ os) :
    ∀ (d : Nat) (cl : List Int) (c : Nat), cl.length = os.length → (∀ x ∈ os, ∀ y ∈ os, lang acc l1 x = lang acc l1 y → Cf os cl x = Cf os cl y) → (∀ x ∈ os, ∀ y ∈ os, Cf os cl x = Cf os cl y → rdOf false acc x = rdOf false acc y) →
      (c = 0 ∨ c = (dd cl).length) → os.length + 2 ≤ d + c → ∀ cf, refF l1 os d cl c = cf → cf.length = os.length ∧ ∀ x ∈ os, ∀ y ∈ os, (Cf os cf x = Cf os cf y ↔ lang acc l1 x = lang acc l1 y) := by
  intro d
  induction d with
  | zero =>
    intro cl c hl h1 h2 hc hd cf
    have := dd_len_le cl
    omega
  | succ d ih =>
    intro cl c hl h1 h2 hc hd cf hcf
    have mem3 : ∀ x ∈ os, rd (rowOf l1 x) 0 ∈ os ∧ rd (rowOf l1 x) 1 ∈ os ∧ rd (rowOf l1 x) 2 ∈ os := fun x hx => by
      have h3 := three (hf.row x (hdom x hx)).1
      have := hcl x hx
      rw [h3] at this
      exact ⟨this _ (by simp), this _ (by simp), this _ (by simp)⟩
    have g1 : ∀ x ∈ os, ∀ y ∈ os, lang acc l1 x = lang acc l1 y → Cf os (nmF (keys l1 os cl) [] []).2 x = Cf os (nmF (keys l1 os cl) [] []).2 y := fun x hx y hy h => by
      rw [next_iff hn hl hx hy]
      unfold Kx
      rw [h1 x hx y hy h, h1 _ (mem3 x hx).1 _ (mem3 y hy).1 (congrArg (fun L => der L 0) h), h1 _ (mem3 x hx).2.1 _ (mem3 y hy).2.1 (congrArg (fun L => der L 1) h), h1 _ (mem3 x hx).2.2 _ (mem3 y hy).2.2 (congrArg (fun L => der L 2) h)]
    have g2 : ∀ x ∈ os, ∀ y ∈ os, Cf os (nmF (keys l1 os cl) [] []).2 x = Cf os (nmF (keys l1 os cl) [] []).2 y → rdOf false acc x = rdOf false acc y := fun x hx y hy h => by
      rw [next_iff hn hl hx hy] at h
      exact h2 x hx y hy (congrArg (fun k : K4 => k.1) h)
    have gl : (nmF (keys l1 os cl) [] []).2.length = os.length := by rw [nm_snd]; simp [keys]
    have hK1 : (nmF (keys l1 os cl) [] []).1.length = (dd (os.map (Kx l1 os cl))).length := by rw [nm_fst, keys_map hn hl]
    rw [refF] at hcf
    by_cases he : (nmF (keys l1 os cl) [] []).1.length = c
    · rw [if_pos he] at hcf
      subst hcf
      refine ⟨gl, fun x hx y hy => ⟨fun h => ?_, g1 x hx y hy⟩⟩
      have hpos2 : 0 < (dd (os.map (Kx l1 os cl))).length := by
        have : os ≠ [] := fun e => by rw [e] at hpos; simp at hpos
        obtain ⟨a, ha⟩ := List.exists_mem_of_ne_nil os this
        exact List.length_pos_of_mem (mem_dd.mpr (List.mem_map_of_mem ha))
      have hcd : c = (dd cl).length := by
        rcases hc with hc | hc
        · omega
        · exact hc
      have hfst : (os.map (Kx l1 os cl)).map (fun k : K4 => k.1) = cl := by
        rw [List.map_map]
        exact cl_map hn hl
      have hinj := inj_of_len (fun k : K4 => k.1) (os.map (Kx l1 os cl)) (by rw [hfst]; omega)
      have hst : ∀ x ∈ os, ∀ y ∈ os, Cf os cl x = Cf os cl y → Kx l1 os cl x = Kx l1 os cl y := fun x hx y hy h => hinj _ (List.mem_map_of_mem hx) _ (List.mem_map_of_mem hy) h
      have hrun : ∀ w : List (Fin 3), ∀ x ∈ os, ∀ y ∈ os, Cf os cl x = Cf os cl y → run acc l1 w x = run acc l1 w y := by
        intro w
        induction w with
        | nil => exact h2
        | cons k w ihw =>
          intro x hx y hy hxy
          have hk := hst x hx y hy hxy
          unfold Kx at hk
          injection hk with _ hk
          injection hk with hk0 hk
          injection hk with hk1 hk2
          match k with
          | 0 => exact ihw _ (mem3 x hx).1 _ (mem3 y hy).1 hk0
          | 1 => exact ihw _ (mem3 x hx).2.1 _ (mem3 y hy).2.1 hk1
          | 2 => exact ihw _ (mem3 x hx).2.2 _ (mem3 y hy).2.2 hk2
      rw [next_iff hn hl hx hy] at h
      have h0 : Cf os cl x = Cf os cl y := congrArg (fun k : K4 => k.1) h
      exact funext fun w => hrun w x hx y hy h0
    · rw [if_neg he] at hcf
      have hmore := keys_more (l1 := l1) hl
      rw [keys_map hn hl] at hmore
      have hlen2 : (nmF (keys l1 os cl) [] []).1.length = (dd (nmF (keys l1 os cl) [] []).2).length := by rw [nm_classes, nm_fst]
      refine ih _ _ gl g1 g2 (Or.inr hlen2) ?_ cf hcf
      rcases hc with hc | hc
      · have hpos2 : 0 < (dd (os.map (Kx l1 os cl))).length := by
          have : os ≠ [] := fun e => by rw [e] at hpos; simp at hpos
          obtain ⟨a, ha⟩ := List.exists_mem_of_ne_nil os this
          exact List.length_pos_of_mem (mem_dd.mpr (List.mem_map_of_mem ha))
        omega
      · omega
theorem card_n (n : Nat) (s : List Int) (hn : s.Nodup) (h : ∀ x ∈ s, 0 ≤ x ∧ x < n) : s.length ≤ n := by
  have := nodup_len s ((List.range n).map fun (i : Nat) => (i : Int)) hn (fun x hx => by
    have := h x hx
    exact List.mem_map.mpr ⟨x.toNat, List.mem_range.mpr (by omega), by omega⟩)
  simpa using this
theorem ord_runs {acc : List Bool} {l1 : List (List Int)} (hf : Fits acc l1) : ∀ (d : Nat) (L : List Int) (i : Nat), L.Nodup → (∀ x ∈ L, 0 ≤ x ∧ x < (acc.length : Int)) → acc.length ≤ d + i → Runs (rowOf l1) L i (ordF l1 d L i)
  | 0, L, i, hn, ha, hd => .stop (by have := card_n acc.length L hn ha; omega)
  | d + 1, L, i, hn, ha, hd => by
    rw [ordF]
    by_cases h : i < L.length
    · rw [dif_pos h]
      refine .step h (ord_runs hf d _ _ (nodup_adds _ hn) (fun x hx => ?_) (by omega))
      rcases mem_adds.mp hx with q | q
      · exact ha x q
      · exact (hf.row _ (ha _ (List.getElem_mem h))).2 x q
    · rw [dif_neg h]
      exact .stop (by omega)
theorem ld_good (cl : List Int) : ∀ (m : List Int) (i : Nat) (ns ls : List Int), m = cl.drop i → ns = dd (cl.take i) → ls.map (rd cl) = ns → (∀ x ∈ ls, 0 ≤ x ∧ x < (cl.length : Int)) →
    (ldF m i ns ls).1 = dd cl ∧ (ldF m i ns ls).2.map (rd cl) = dd cl ∧ ∀ x ∈ (ldF m i ns ls).2, 0 ≤ x ∧ x < (cl.length : Int)
  | [], i, ns, ls, hm, hns, hls, hb => by
    have hi : cl.length ≤ i := by
      have := congrArg List.length hm
      simp only [List.length_nil, List.length_drop] at this
      omega
    rw [List.take_of_length_le hi] at hns
    rw [ldF, ← hns]
    exact ⟨rfl, hls, hb⟩
  | c :: m, i, ns, ls, hm, hns, hls, hb => by
    have hi : i < cl.length := by
      have := congrArg List.length hm
      simp only [List.length_cons, List.length_drop] at this
      omega
    rw [List.drop_eq_getElem_cons hi] at hm
    injection hm with hc hm
    have ht : dd (cl.take (i + 1)) = add ns c := by rw [List.take_succ_eq_append_getElem hi, dd_snoc, ← hns, hc]
    rw [ldF]
    by_cases h : c ∈ ns
    · rw [if_pos h]
      exact ld_good cl m (i + 1) ns ls hm (by rw [ht, add_in h]) hls hb
    · rw [if_neg h]
      refine ld_good cl m (i + 1) _ _ hm (by rw [ht, add_out h]) ?_ ?_
      · rw [List.map_append, hls, List.map_singleton, rd_get cl i hi, hc]
      · intro x hx
        rcases List.mem_append.mp hx with q | q
        · exact hb x q
        · rw [List.mem_singleton] at q; subst q; omega
theorem min_can {acc : List Bool} {l1 : List (List Int)} (hf : Fits acc l1) {st : Int} (hst : 0 ≤ st ∧ st < (acc.length : Int)) : IsCan (lang acc l1 st) (minD acc l1 st) := by
  have h0 : ∀ x ∈ [st], 0 ≤ x ∧ x < (acc.length : Int) := fun x hx => by rw [List.mem_singleton] at hx; subst hx; exact hst
  have hR := ord_runs hf (acc.length + 2) [st] 0 (by simp) h0 (by omega)
  unfold minD minT
  generalize ordF l1 (acc.length + 2) [st] 0 = os at hR
  have hn : os.Nodup := hR.nodup (by simp)
  have hdom := hR.all (p := fun x => 0 ≤ x ∧ x < (acc.length : Int)) (fun x hx y hy => (hf.row x hx).2 y hy) h0
  have hcl := hR.closed (fun j _ hj => by omega)
  have hpos : 1 ≤ os.length := hR.pre.length_le
  have hcan := hR.map0 (dom := fun x => 0 ≤ x ∧ x < (acc.length : Int)) (succ' := lsucc) (f := lang acc l1) (fun x hx y hy => (hf.row x hx).2 y hy) (fun x hx => succ_lang hf hx) hst
  have hl0 : (os.map (cls0 acc)).length = os.length := by simp
  have hc0 : ∀ x ∈ os, Cf os (os.map (cls0 acc)) x = cls0 acc x := fun x hx => by
    obtain ⟨i, hi, rfl⟩ := List.mem_iff_getElem.mp hx
    rw [Cf_at hn hl0 i hi, List.getElem_map]
  obtain ⟨hcl2, hiff⟩ := ref_good hf hn hpos hdom hcl (os.length + 2) (os.map (cls0 acc)) 0 hl0 (fun x hx y hy h => by
    rw [hc0 x hx, hc0 y hy]
    have : rdOf false acc x = rdOf false acc y := congrFun h []
    unfold cls0
    rw [this]) (fun x hx y hy h => by
    rw [hc0 x hx, hc0 y hy] at h
    unfold cls0 at h
    cases hx : rdOf false acc x <;> cases hy : rdOf false acc y <;> simp [hx, hy] at h ⊢) (Or.inl rfl) (by omega) _ rfl
  generalize refF l1 os (os.length + 2) (os.map (cls0 acc)) 0 = cf at hcl2 hiff
  obtain ⟨e1, e2, e3⟩ := ld_good cf cf 0 [] [] rfl rfl rfl (fun x hx => by cases hx)
  unfold outD
  generalize hns : (ldF cf 0 [] []).1 = ns at e1
  generalize hls : (ldF cf 0 [] []).2 = ls at e2 e3
  have hg : ∃ g : Int → Lan, ∀ x ∈ os, g (Cf os cf x) = lang acc l1 x := by
    refine ⟨fun c => lang acc l1 (rd os ((cf.idxOf c : Nat) : Int)), fun x hx => ?_⟩
    obtain ⟨i, hi, rfl⟩ := List.mem_iff_getElem.mp hx
    rw [Cf_at hn hcl2 i hi]
    have hm : cf[i] ∈ cf := List.getElem_mem (by omega)
    have hlt := List.idxOf_lt_length_of_mem hm
    have hat : cf[cf.idxOf cf[i]] = cf[i] := List.getElem_idxOf hlt
    show lang acc l1 (rd os ((cf.idxOf cf[i] : Nat) : Int)) = _
    rw [rd_get os _ (by omega)]
    refine (hiff _ (List.getElem_mem _) _ (List.getElem_mem hi)).mp ?_
    rw [Cf_at hn hcl2, Cf_at hn hcl2 i hi, hat]
  obtain ⟨g, hg⟩ := hg
  have hgc : cf.map g = os.map (lang acc l1) := by
    conv => lhs; rw [← cl_map hn hcl2]
    rw [List.map_map]
    exact List.map_congr_left fun x hx => hg x hx
  have hmem : ∀ c ∈ cf, ∃ x ∈ os, c = Cf os cf x := fun c hc => by
    rw [← cl_map hn hcl2] at hc
    obtain ⟨x, hx, rfl⟩ := List.mem_map.mp hc
    exact ⟨x, hx, rfl⟩
  have hinj : ∀ a ∈ cf, ∀ b ∈ cf, g a = g b → a = b := fun a ha b hb h => by
    obtain ⟨x, hx, rfl⟩ := hmem a ha
    obtain ⟨y, hy, rfl⟩ := hmem b hb
    rw [hg x hx, hg y hy] at h
    exact (hiff x hx y hy).mpr h
  have hdd : dd (os.map (lang acc l1)) = (dd cf).map g := by rw [← hgc]; exact dd_inj g cf hinj
  have hgi : ∀ i ∈ ls, rd os i ∈ os ∧ g (rd cf i) = lang acc l1 (rd os i) := fun i hi => by
    have hb := e3 i hi
    have ht : i.toNat < os.length := by omega
    have h1 := rd_get os i.toNat ht
    have h2 := rd_get cf i.toNat (by omega)
    rw [Int.toNat_of_nonneg hb.1] at h1 h2
    rw [h1, h2, ← Cf_at hn hcl2 i.toNat ht]
    exact ⟨List.getElem_mem ht, hg _ (List.getElem_mem ht)⟩
  have hR2 : dd (os.map (lang acc l1)) = ls.map (fun i => lang acc l1 (rd os i)) := by
    rw [hdd, ← e2, List.map_map]
    exact List.map_congr_left fun i hi => (hgi i hi).2
  refine ⟨_, hcan, ?_⟩
  unfold outL
  refine Prod.ext ?_ ?_
  · show ls.map _ = _
    rw [hR2, List.map_map]
    rfl
  · have hh : ∀ F : Lan → List Int, (dd (os.map (lang acc l1))).map F = ls.map (fun i => F (lang acc l1 (rd os i))) := fun F => by rw [hR2, List.map_map]; rfl
    show ls.map (outRow l1 os cf ns) = (dd (os.map (lang acc l1))).map _
    rw [hh]
    refine List.map_congr_left fun i hi => ?_
    have hx := (hgi i hi).1
    show outRow l1 os cf ns i = (lsucc (lang acc l1 (rd os i))).map _
    rw [← succ_lang hf (hdom _ hx), List.map_map]
    unfold outRow
    refine List.map_congr_left fun y hy => ?_
    have hyo := hcl _ hx y hy
    show (idx ns (Cf os cf y)).getD 0 = ((dd (os.map (lang acc l1))).idxOf (lang acc l1 y) : Int)
    have hcm : Cf os cf y ∈ cf := by
      have h1 : Cf os cf y ∈ os.map (Cf os cf) := List.mem_map_of_mem hyo
      rw [cl_map hn hcl2] at h1
      exact h1
    rw [e1, ← idx_val (mem_dd.mpr hcm), hdd, ← hg y hyo, idxOf_inj g (dd cf) _ (fun b hb h => hinj b (mem_dd.mp hb) _ hcm h)]
end Go.Proofs.Ytogamkblkoobkaa.Can
end
section
namespace Go.Proofs.Ytogamkblkoobkaa.Can
open Go.RowKit Go.Proofs.Ytogamkblkoobkaa Go.Proofs.Ytogamkblkoobkaa.Lg Go.Proofs.Ytogamkblkoobkaa.Pl Go.Proofs.Ytogamkblkoobkaa.Mp Go.Proofs.Ytogamkblkoobkaa.Bf Go.Proofs.Ytogamkblkoobkaa.Mn Go.Proofs.YtogamkblkoobkaaW.PrintWords Go.Proofs.YtogamkblkoobkaaW.PrintLast Go.Proofs.YtogamkblkoobkaaW.PrintMore
set_option linter.unusedVariables false
set_option linter.unusedSimpArgs false
set_option linter.unusedSectionVars false
def trunc (r : Nat) (L : Lan) : Lan := fun w => if w.length ≤ r then L w else false
theorem trunc_trunc (r : Nat) (L : Lan) : trunc r (trunc (r + 1) L) = trunc r L := by
  funext w
  unfold trunc
  by_cases h : w.length ≤ r
  · rw [if_pos h, if_pos h, if_pos (by omega)]
  · rw [if_neg h, if_neg h]
theorem trunc_zero {L M : Lan} : trunc 0 L = trunc 0 M ↔ eps L = eps M := by
  constructor
  · intro h
    exact congrFun h []
  · intro h
    funext w
    unfold trunc
    by_cases hw : w.length ≤ 0
    · rw [if_pos hw, if_pos hw]
      have : w = [] := List.length_eq_zero_iff.mp (by omega)
      subst this
      exact h
    · rw [if_neg hw, if_neg hw]
theorem trunc_succ {r : Nat} {L M : Lan} : trunc (r + 1) L = trunc (r + 1) M ↔ eps L = eps M ∧ ∀ k, trunc r (der L k) = trunc r (der M k) := by
  constructor
  · intro h
    refine ⟨congrFun h [], fun k => funext fun w => ?_⟩
    have := congrFun h (k :: w)
    unfold trunc at this ⊢
    by_cases hw : w.length ≤ r
    · rw [if_pos (by simp; omega), if_pos (by simp; omega)] at this
      rw [if_pos hw, if_pos hw]
      exact this
    · rw [if_neg hw, if_neg hw]
  · rintro ⟨h0, h⟩
    funext w
    cases w with
    | nil => exact h0
    | cons k w =>
      have := congrFun (h k) w
      unfold trunc at this ⊢
      by_cases hw : w.length ≤ r
      · rw [if_pos hw, if_pos hw] at this
        rw [if_pos (by simp; omega), if_pos (by simp; omega)]
        exact this
      · rw [if_neg (by simp; omega), if_neg (by simp; omega)]
theorem lan_of_trunc {L M : Lan} (h : ∀ r, trunc r L = trunc r M) : L = M := by
  funext w
  have := congrFun (h w.length) w
  unfold trunc at this
  rw [if_pos (Nat.le_refl _), if_pos (Nat.le_refl _)] at this
  exact this
section
variable {acc : List Bool} {nx : List (List Int)}
def sig (acc : List Bool) (nx : List (List Int)) (r : Nat) (q : Int) : Lan := trunc r (lang acc nx q)
theorem sig_zero {p q : Int} : sig acc nx 0 p = sig acc nx 0 q ↔ rdOf false acc p = rdOf false acc q := trunc_zero
theorem sig_succ {r : Nat} {p q : Int} : sig acc nx (r + 1) p = sig acc nx (r + 1) q ↔ rdOf false acc p = rdOf false acc q ∧ ∀ k : Fin 3, sig acc nx r (rd (rowOf nx p) (k.val : Int)) = sig acc nx r (rd (rowOf nx q) (k.val : Int)) := trunc_succ
theorem sig_down {r : Nat} {p q : Int} (h : sig acc nx (r + 1) p = sig acc nx (r + 1) q) : sig acc nx r p = sig acc nx r q := by
  have := congrArg (trunc r) h
  unfold sig at this ⊢
  rw [trunc_trunc, trunc_trunc] at this
  exact this
def states (n : Nat) : List Int := (List.range n).map fun (i : Nat) => (i : Int)
theorem mem_states {n : Nat} {q : Int} : q ∈ states n ↔ 0 ≤ q ∧ q < (n : Int) := by
  unfold states
  rw [List.mem_map]
  constructor
  · rintro ⟨i, hi, rfl⟩
    rw [List.mem_range] at hi
    omega
  · intro h
    exact ⟨q.toNat, List.mem_range.mpr (by omega), by omega⟩
theorem rd_mem {r : List Int} (h : r.length = 3) (k : Fin 3) : rd r (k.val : Int) ∈ r := by
  rw [rd_get r k.val (by omega)]
  exact List.getElem_mem _
theorem sig_stable (hf : Fits acc nx) {r : Nat} (h : ∀ p ∈ states acc.length, ∀ q ∈ states acc.length, sig acc nx r p = sig acc nx r q → sig acc nx (r + 1) p = sig acc nx (r + 1) q) :
    ∀ d : Nat, ∀ p ∈ states acc.length, ∀ q ∈ states acc.length, sig acc nx r p = sig acc nx r q → sig acc nx (r + d) p = sig acc nx (r + d) q := by
  have hstep : ∀ d : Nat, ∀ p ∈ states acc.length, ∀ q ∈ states acc.length, sig acc nx (r + d) p = sig acc nx (r + d) q → sig acc nx (r + d + 1) p = sig acc nx (r + d + 1) q := by
    intro d
    induction d with
    | zero => exact h
    | succ d ih =>
      intro p hp q hq hpq
      rw [sig_succ]
      have h1 := sig_succ.mp hpq
      refine ⟨h1.1, fun k => ?_⟩
      have hp3 := hf.row p (mem_states.mp hp)
      have hq3 := hf.row q (mem_states.mp hq)
      exact ih _ (mem_states.mpr (hp3.2 _ (rd_mem hp3.1 k))) _ (mem_states.mpr (hq3.2 _ (rd_mem hq3.1 k))) (h1.2 k)
  intro d
  induction d with
  | zero => exact fun p hp q hq h => h
  | succ d ih => exact fun p hp q hq h => hstep d p hp q hq (ih p hp q hq h)
theorem sig_all (hf : Fits acc nx) {m : Nat} (hm : acc.length ≤ m) {p q : Int} (hp : 0 ≤ p ∧ p < (acc.length : Int)) (hq : 0 ≤ q ∧ q < (acc.length : Int)) : sig acc nx m p = sig acc nx m q ↔ lang acc nx p = lang acc nx q := by
  constructor
  · intro h
    have hex : ∃ r, r ≤ m ∧ ∀ p ∈ states acc.length, ∀ q ∈ states acc.length, sig acc nx r p = sig acc nx r q → sig acc nx (r + 1) p = sig acc nx (r + 1) q := by
      refine Classical.byContradiction fun hno => ?_
      have hlt : ∀ r, r ≤ m → (dd ((states acc.length).map (sig acc nx r))).length < (dd ((states acc.length).map (sig acc nx (r + 1)))).length := by
        intro r hr
        have e : (states acc.length).map (sig acc nx r) = ((states acc.length).map (sig acc nx (r + 1))).map (trunc r) := by
          rw [List.map_map]
          exact List.map_congr_left fun x _ => (trunc_trunc r (lang acc nx x)).symm
        have hle := dd_map_le (trunc r) ((states acc.length).map (sig acc nx (r + 1)))
        rw [← e] at hle
        refine Nat.lt_of_le_of_ne hle fun heq => hno ⟨r, hr, fun p hp q hq hpq => ?_⟩
        refine inj_of_len (trunc r) _ (by rw [← e]; exact heq) _ (List.mem_map_of_mem hp) _ (List.mem_map_of_mem hq) ?_
        show trunc r (trunc (r + 1) _) = trunc r (trunc (r + 1) _)
        rw [trunc_trunc, trunc_trunc]
        exact hpq
      have hge : ∀ r, r ≤ m + 1 → r ≤ (dd ((states acc.length).map (sig acc nx r))).length := by
        intro r
        induction r with
        | zero => intro _; exact Nat.zero_le _
        | succ r ih =>
          intro hr
          have := hlt r (by omega)
          have := ih (by omega)
          omega
      have h1 := hge (m + 1) (Nat.le_refl _)
      have h2 := dd_len_le ((states acc.length).map (sig acc nx (m + 1)))
      have h3 : ((states acc.length).map (sig acc nx (m + 1))).length = acc.length := by simp [states]
      omega
    obtain ⟨r, hr, hst⟩ := hex
    have h0 : sig acc nx r p = sig acc nx r q := by
      obtain ⟨d, rfl⟩ : ∃ d, m = r + d := ⟨m - r, by omega⟩
      clear hst hr hm
      induction d with
      | zero => exact h
      | succ d ih => exact ih (sig_down h)
    refine lan_of_trunc fun s => ?_
    have h1 := sig_stable hf hst s p (mem_states.mpr hp) q (mem_states.mpr hq) h0
    have hdown : ∀ d t : Nat, sig acc nx (t + d) p = sig acc nx (t + d) q → sig acc nx t p = sig acc nx t q := by
      intro d
      induction d with
      | zero => exact fun t h => h
      | succ d ih => exact fun t h => ih t (sig_down h)
    exact hdown r s (by rw [Nat.add_comm]; exact h1)
  · intro h
    unfold sig
    rw [h]
end
end Go.Proofs.Ytogamkblkoobkaa.Can
end
section
namespace Go.Proofs.Ytogamkblkoobkaa.P
open Go.RowKit Go.Proofs.YtogamkblkoobkaaW.PrintWords Go.Proofs.YtogamkblkoobkaaW.PrintLast Go.Proofs.YtogamkblkoobkaaW.PrintMore
attribute [local go_sem] max2_int min2_int max_two min_two max_three min_three max_four min_four
set_option linter.unusedVariables false
set_option linter.unusedSimpArgs false
def spec_l5Find.l0 : Nat → List Int → Int → Int → Option (Int)
  | 0, _, _, _ => none
  | k + 1, x0, x1, x5 => if x5 < (x0.length : Int) then (if 0 ≤ x5 then (if (rd x0 x5) = x1 then (some x5) else (spec_l5Find.l0 k x0 x1 (wrap64 (x5 + 1)))) else (none)) else (some (-1))
def spec_l5Find.f (k : Nat) (l0 : List Int) (a1 : Int) : Option (Int) := spec_l5Find.l0 k l0 a1 0
theorem spec_l5Find.mono_l : ∀ k, (∀ y0 y1 y2, LeO (spec_l5Find.l0 k y0 y1 y2) (spec_l5Find.l0 (k + 1) y0 y1 y2))
  | 0 => fun _ _ _ r h => by simp [spec_l5Find.l0] at h
  | k + 1 => by
    have ih0 := spec_l5Find.mono_l k
    · intro y0 y1 y2
      unfold spec_l5Find.l0
      repeat' first
      | (with_reducible exact ih0 _ _ _)
      | (with_reducible exact LeO.refl _)
      | (with_reducible exact LeO.none _)
      | (with_reducible refine LeO.ite ?_ ?_)
      | (with_reducible refine LeO.bind ?_ (fun _ => ?_))
      | exact ih0 _ _ _
      | exact LeO.none _
      | refine LeO.ite ?_ ?_
      | refine LeO.bind ?_ (fun _ => ?_)
theorem spec_l5Find.mono : ∀ a0 a1 k, LeO (spec_l5Find.f k a0 a1) (spec_l5Find.f (k + 1) a0 a1) := by
  intro a0 a1 k
  have ih0 := spec_l5Find.mono_l k
  unfold spec_l5Find.f
  repeat' first
      | (with_reducible exact ih0 _ _ _)
      | (with_reducible exact LeO.refl _)
      | (with_reducible exact LeO.none _)
      | (with_reducible refine LeO.ite ?_ ?_)
      | (with_reducible refine LeO.bind ?_ (fun _ => ?_))
      | exact ih0 _ _ _
      | exact LeO.none _
      | refine LeO.ite ?_ ?_
      | refine LeO.bind ?_ (fun _ => ?_)
set_option maxHeartbeats 8000000 in
set_option maxRecDepth 100000 in
theorem spec_l5Find.calls (k : Nat) (A0 : Option Addr) (c0 : Nat) (l0 : List Int) (a1 : Int) (r : Int) (w : World) (hr0 : Kd.C (Kd.int .i64) w A0 l0.length l0) (hc0 : l0.length ≤ c0) (h : spec_l5Find.f k l0 a1 = some r) :
    Calls Try.prog 63 #[.slice A0 l0.length c0, .int .i64 a1] w fun e w' => e = .returned (.int .i64 r) ∧ Drawn0 w w' := by
  have HR0 := Aside0.mk hr0
  have HC0 := Aside0.mk hc0
  clear hr0 hc0
  have H : (spec_l5Find.l0 k l0 a1 0) = some r := h
  clear h
  have H' := Aside0.mk H
  clear H
  go_enter Try.func63, Try.ntmps63
  go_wp2
  go_loopg [5] k (fun kq v5 w' => ∃ (x5_1 : Int), v5 = .int .i64 x5_1 ∧ Aside0 (spec_l5Find.l0 kq l0 a1 x5_1 = some r) ∧ Aside0 (kq ≤ k) ∧ Drawn0 w w')
  case atStart => exact ⟨(0), (by first | rfl | (simp; done) | (simp [*]; done)), H', ⟨Nat.le_refl _⟩, by repeat (first | exact Drawn0.refl _ | apply Drawn0.step)⟩
  case round =>
    clear H'
    try clear p2
    obtain ⟨x5_1, rfl, HA, HK1, ⟨m1, rfl⟩⟩ := hrel
    cases gk with
    | zero => exact absurd HA.out (by simp [spec_l5Find.l0])
    | succ k1 =>
      have H := HA.out
      clear HA
      simp only [spec_l5Find.l0] at H
      by_cases c3 : x5_1 < (l0.length : Int)
      · rw [if_pos c3] at H
        have c3b0 : decide (x5_1 < (l0.length : Int)) = true := decide_eq_true c3
        clear c3
        by_cases c4 : 0 ≤ x5_1
        · rw [if_pos c4] at H
          have c4b0 : decide (0 ≤ x5_1) = true := decide_eq_true c4
          clear c4
          by_cases c5 : (rd l0 x5_1) = a1
          · rw [if_pos c5] at H
            have c5b0 : ((rd l0 x5_1) == a1) = true := beq_iff_eq.mpr c5
            have c5b1 : ((rd l0 x5_1) != a1) = false := bne_eq_false_iff_eq.mpr c5
            clear c5
            obtain rfl := Option.some.inj H
            simp only [Option.some.injEq, Prod.mk.injEq] at H
            obtain ⟨rfl⟩ := H
            have p115 : 0 ≤ (x5_1 : Int) := of_decide_eq_true (by first | (with_reducible assumption) | assumption)
            have q115 : x5_1 < (l0.length : Int) := of_decide_eq_true (by first | (with_reducible assumption) | assumption)
            obtain ⟨ad115, e115, hx115_0⟩ := Kd.at_int HR0.out x5_1 p115 q115
            cases e115
            replace p115 := eq_true p115
            replace q115 := eq_true q115
            go_wp2
            go_ret
            exact ⟨by first | rfl | (simp; done) | (simp [*]; done), by repeat (first | exact Drawn0.refl _ | apply Drawn0.step)⟩
          · rw [if_neg c5] at H
            have c5b0 : ((rd l0 x5_1) == a1) = false := beq_eq_false_iff_ne.mpr c5
            have c5b1 : ((rd l0 x5_1) != a1) = true := bne_iff_ne.mpr c5
            have H' := Aside0.mk H
            clear H
            have p115 : 0 ≤ (x5_1 : Int) := of_decide_eq_true (by first | (with_reducible assumption) | assumption)
            have q115 : x5_1 < (l0.length : Int) := of_decide_eq_true (by first | (with_reducible assumption) | assumption)
            obtain ⟨ad115, e115, hx115_0⟩ := Kd.at_int HR0.out x5_1 p115 q115
            cases e115
            replace p115 := eq_true p115
            replace q115 := eq_true q115
            go_wp2
            go_roundg k1
            case measure => have := HK1.out; omega
            case rel => exact ⟨(wrap64 (x5_1 + 1)), (by first | rfl | (simp; done) | (simp [*]; done)), H', ⟨by have := HK1.out; omega⟩, by repeat (first | exact Drawn0.refl _ | apply Drawn0.step)⟩
        · rw [if_neg c4] at H
          exact absurd H (by simp)
      · rw [if_neg c3] at H
        have c3b0 : decide (x5_1 < (l0.length : Int)) = false := decide_eq_false c3
        clear c3
        obtain rfl := Option.some.inj H
        simp only [Option.some.injEq, Prod.mk.injEq] at H
        obtain ⟨rfl⟩ := H
        go_wp2
        go_ret
        exact ⟨by first | rfl | (simp; done) | (simp [*]; done), by repeat (first | exact Drawn0.refl _ | apply Drawn0.step)⟩
def spec_l5Same.l0 : Nat → List Int → Int → Int → Bool → Int → List Bool → List (List Int) → Option (Bool)
  | 0, _, _, _, _, _, _, _ => none
  | k + 1, x1, x2, x3, x9, x10, x117000, x117001 => if x10 < 3 then (if x9 = true then (if 0 ≤ x2 then (if x2 < (x117001.length : Int) then (if 0 ≤ x10 then (if x10 < ((rd_L2 x117001 x2).length : Int) then (if 0 ≤ (rd (rd_L2 x117001 x2) x10) then (if (rd (rd_L2 x117001 x2) x10) < (x1.length : Int) then (if 0 ≤ x3 then (if x3 < (x117001.length : Int) then (if x10 < ((rd_L2 x117001 x3).length : Int) then (if 0 ≤ (rd (rd_L2 x117001 x3) x10) then (if (rd (rd_L2 x117001 x3) x10) < (x1.length : Int) then (spec_l5Same.l0 k x1 x2 x3 ((rd x1 (rd (rd_L2 x117001 x2) x10)) == (rd x1 (rd (rd_L2 x117001 x3) x10))) (wrap64 (x10 + 1)) x117000 x117001) else (none)) else (none)) else (none)) else (none)) else (none)) else (none)) else (none)) else (none)) else (none)) else (none)) else (none)) else (spec_l5Same.l0 k x1 x2 x3 false (wrap64 (x10 + 1)) x117000 x117001)) else (some x9)
def spec_l5Same.f (k : Nat) (l0_0 : List Bool) (l0_1 : List (List Int)) (l1 : List Int) (a2 : Int) (a3 : Int) : Option (Bool) := if 0 ≤ a2 then (if a2 < (l1.length : Int) then (if 0 ≤ a3 then (if a3 < (l1.length : Int) then (spec_l5Same.l0 k l1 a2 a3 ((rd l1 a2) == (rd l1 a3)) 0 l0_0 l0_1) else (none)) else (none)) else (none)) else (none)
theorem spec_l5Same.mono_l : ∀ k, (∀ y0 y1 y2 y3 y4 y5 y6, LeO (spec_l5Same.l0 k y0 y1 y2 y3 y4 y5 y6) (spec_l5Same.l0 (k + 1) y0 y1 y2 y3 y4 y5 y6))
 | 0 => fun _ _ _ _ _ _ _ r h => by simp [spec_l5Same.l0] at h
 | k + 1 => by
  have ih0 := spec_l5Same.mono_l k
  ·intro y0 y1 y2 y3 y4 y5 y6
   unfold spec_l5Same.l0
   repeat' first
   | (with_reducible exact ih0 _ _ _ _ _ _ _)
   | (with_reducible exact LeO.refl _)
   | (with_reducible exact LeO.none _)
   | (with_reducible refine LeO.ite ?_ ?_)
   | (with_reducible refine LeO.bind ?_ (fun _ => ?_))
   | exact ih0 _ _ _ _ _ _ _
   | exact LeO.none _
   | refine LeO.ite ?_ ?_
   | refine LeO.bind ?_ (fun _ => ?_)
theorem spec_l5Same.mono : ∀ a0 a1 a2 a3 a4 k, LeO (spec_l5Same.f k a0 a1 a2 a3 a4) (spec_l5Same.f (k + 1) a0 a1 a2 a3 a4) := by
 intro a0 a1 a2 a3 a4 k
 have ih0 := spec_l5Same.mono_l k
 unfold spec_l5Same.f
 repeat' first
   | (with_reducible exact ih0 _ _ _ _ _ _ _)
   | (with_reducible exact LeO.refl _)
   | (with_reducible exact LeO.none _)
   | (with_reducible refine LeO.ite ?_ ?_)
   | (with_reducible refine LeO.bind ?_ (fun _ => ?_))
   | exact ih0 _ _ _ _ _ _ _
   | exact LeO.none _
   | refine LeO.ite ?_ ?_
   | refine LeO.bind ?_ (fun _ => ?_)
set_option maxHeartbeats 8000000 in
set_option maxRecDepth 100000 in
theorem spec_l5Same.calls (k : Nat) (A0_0 : Option Addr) (c0_0 : Nat) (l0_0 : List Bool) (A0_1 : Option Addr) (c0_1 : Nat) (l0_1 : List (List Int)) (A1 : Option Addr) (c1 : Nat) (l1 : List Int) (a2 : Int) (a3 : Int) (r : Bool) (w : World) (hr0_0 : Kd.C Kd.bool w A0_0 l0_0.length l0_0) (hc0_0 : l0_0.length ≤ c0_0) (hr0_1 : Kd.C (Kd.slice 3 (Kd.int .i64)) w A0_1 l0_1.length l0_1) (hc0_1 : l0_1.length ≤ c0_1) (hr1 : Kd.C (Kd.int .i64) w A1 l1.length l1) (hc1 : l1.length ≤ c1) (h : spec_l5Same.f k l0_0 l0_1 l1 a2 a3 = some r) :
  Calls Try.prog 133 #[.agg #[.slice A0_0 l0_0.length c0_0, .slice A0_1 l0_1.length c0_1], .slice A1 l1.length c1, .int .i64 a2, .int .i64 a3] w fun e w' => e = .returned (.bool r) ∧ Below w.heap.size w w' := by
 have hu27 := Try.underlying27
 have HR0_0 := Aside0.mk hr0_0
 have HC0_0 := Aside0.mk hc0_0
 clear hr0_0 hc0_0
 have HR0_1 := Aside0.mk hr0_1
 have HC0_1 := Aside0.mk hc0_1
 clear hr0_1 hc0_1
 have HR1 := Aside0.mk hr1
 have HC1 := Aside0.mk hc1
 clear hr1 hc1
 have HB := Aside0.mk (Below.refl w.heap.size w)
 have H : (if 0 ≤ a2 then (if a2 < (l1.length : Int) then (if 0 ≤ a3 then (if a3 < (l1.length : Int) then (spec_l5Same.l0 k l1 a2 a3 ((rd l1 a2) == (rd l1 a3)) 0 l0_0 l0_1) else (none)) else (none)) else (none)) else (none)) = some r := h
 clear h
 by_cases c5 : 0 ≤ a2
 ·rw [if_pos c5] at H
  have c5b0 : decide (0 ≤ a2) = true := decide_eq_true c5
  clear c5
  by_cases c6 : a2 < (l1.length : Int)
  ·rw [if_pos c6] at H
   have c6b0 : decide (a2 < (l1.length : Int)) = true := decide_eq_true c6
   clear c6
   by_cases c7 : 0 ≤ a3
   ·rw [if_pos c7] at H
    have c7b0 : decide (0 ≤ a3) = true := decide_eq_true c7
    clear c7
    by_cases c8 : a3 < (l1.length : Int)
    ·rw [if_pos c8] at H
     have c8b0 : decide (a3 < (l1.length : Int)) = true := decide_eq_true c8
     clear c8
     have H' := Aside0.mk H
     clear H
     go_enter Try.func133, Try.ntmps133
     go_wp2_with (first | ((with_reducible refine gate_dst (N := 4) rfl ?_); refine box_event ?hg (N := 4) ?hd (cs := #[.slice A0_0 l0_0.length c0_0, .slice A0_1 l0_1.length c0_1]) (t := 27) ?hr ?_; (case hd => rfl); (case hg => rfl); (case hr => first | (go_simp; done) | (go_simp; rfl)); intro gb116 hg w9 hbox hb; have n0_ := Aside0.mk (below_step (by repeat (first | (with_reducible first | exact HB.out | apply below_alloc | apply pw_below_drewN | apply below_drew1) | exact HB.out)) hb); have n1_ := Aside0.mk (hbox); have n2_ := Aside0.mk ((by rw [hg]; exact (below_size (by repeat (first | (with_reducible first | exact HB.out | apply below_alloc | apply pw_below_drewN | apply below_drew1) | exact HB.out))) : w.heap.size ≤ gb116)); have n3_ := Aside0.mk ((by rw [hg]; exact (below_size (by repeat (first | (with_reducible first | exact HB.out | apply below_alloc | apply pw_below_drewN | apply below_drew1) | exact HB.out))) : w.heap.size ≤ gb116)); clear HB; have HB := n0_; have BK116 := n1_; have GW116 := n2_; have GE116 := n3_; clear n0_ n1_ n2_ n3_; clear hb hbox hg; have p117 : 0 ≤ (a2 : Int) := of_decide_eq_true (by first | (with_reducible assumption) | assumption); have q117 : a2 < (l1.length : Int) := of_decide_eq_true (by first | (with_reducible assumption) | assumption); obtain ⟨ad117, e117, hx117_0⟩ := Kd.at_int HR1.out a2 p117 q117; cases e117; replace hx117_0 := (HB.out.cell (World.block_lt_of_cell? w _ hx117_0)).trans hx117_0; replace p117 := eq_true p117; replace q117 := eq_true q117; have p118 : 0 ≤ (a3 : Int) := of_decide_eq_true (by first | (with_reducible assumption) | assumption); have q118 : a3 < (l1.length : Int) := of_decide_eq_true (by first | (with_reducible assumption) | assumption); obtain ⟨ad118, e118, hx118_0⟩ := Kd.at_int HR1.out a3 p118 q118; obtain rfl : ad117 = ad118 := (by injection e118); replace hx118_0 := (HB.out.cell (World.block_lt_of_cell? w _ hx118_0)).trans hx118_0; replace p118 := eq_true p118; replace q118 := eq_true q118))
     repeat (go_quiet (first | ((with_reducible refine gate_dst (N := 4) rfl ?_); refine box_event ?hg (N := 4) ?hd (cs := #[.slice A0_0 l0_0.length c0_0, .slice A0_1 l0_1.length c0_1]) (t := 27) ?hr ?_; (case hd => rfl); (case hg => rfl); (case hr => first | (go_simp; done) | (go_simp; rfl)); intro gb116 hg w9 hbox hb; have n0_ := Aside0.mk (below_step (by repeat (first | (with_reducible first | exact HB.out | apply below_alloc | apply pw_below_drewN | apply below_drew1) | exact HB.out)) hb); have n1_ := Aside0.mk (hbox); have n2_ := Aside0.mk ((by rw [hg]; exact (below_size (by repeat (first | (with_reducible first | exact HB.out | apply below_alloc | apply pw_below_drewN | apply below_drew1) | exact HB.out))) : w.heap.size ≤ gb116)); have n3_ := Aside0.mk ((by rw [hg]; exact (below_size (by repeat (first | (with_reducible first | exact HB.out | apply below_alloc | apply pw_below_drewN | apply below_drew1) | exact HB.out))) : w.heap.size ≤ gb116)); clear HB; have HB := n0_; have BK116 := n1_; have GW116 := n2_; have GE116 := n3_; clear n0_ n1_ n2_ n3_; clear hb hbox hg; have p117 : 0 ≤ (a2 : Int) := of_decide_eq_true (by first | (with_reducible assumption) | assumption); have q117 : a2 < (l1.length : Int) := of_decide_eq_true (by first | (with_reducible assumption) | assumption); obtain ⟨ad117, e117, hx117_0⟩ := Kd.at_int HR1.out a2 p117 q117; cases e117; replace hx117_0 := (HB.out.cell (World.block_lt_of_cell? w _ hx117_0)).trans hx117_0; replace p117 := eq_true p117; replace q117 := eq_true q117; have p118 : 0 ≤ (a3 : Int) := of_decide_eq_true (by first | (with_reducible assumption) | assumption); have q118 : a3 < (l1.length : Int) := of_decide_eq_true (by first | (with_reducible assumption) | assumption); obtain ⟨ad118, e118, hx118_0⟩ := Kd.at_int HR1.out a3 p118 q118; obtain rfl : ad117 = ad118 := (by injection e118); replace hx118_0 := (HB.out.cell (World.block_lt_of_cell? w _ hx118_0)).trans hx118_0; replace p118 := eq_true p118; replace q118 := eq_true q118)); try go_wp2_with (first | ((with_reducible refine gate_dst (N := 4) rfl ?_); refine box_event ?hg (N := 4) ?hd (cs := #[.slice A0_0 l0_0.length c0_0, .slice A0_1 l0_1.length c0_1]) (t := 27) ?hr ?_; (case hd => rfl); (case hg => rfl); (case hr => first | (go_simp; done) | (go_simp; rfl)); intro gb116 hg w9 hbox hb; have n0_ := Aside0.mk (below_step (by repeat (first | (with_reducible first | exact HB.out | apply below_alloc | apply pw_below_drewN | apply below_drew1) | exact HB.out)) hb); have n1_ := Aside0.mk (hbox); have n2_ := Aside0.mk ((by rw [hg]; exact (below_size (by repeat (first | (with_reducible first | exact HB.out | apply below_alloc | apply pw_below_drewN | apply below_drew1) | exact HB.out))) : w.heap.size ≤ gb116)); have n3_ := Aside0.mk ((by rw [hg]; exact (below_size (by repeat (first | (with_reducible first | exact HB.out | apply below_alloc | apply pw_below_drewN | apply below_drew1) | exact HB.out))) : w.heap.size ≤ gb116)); clear HB; have HB := n0_; have BK116 := n1_; have GW116 := n2_; have GE116 := n3_; clear n0_ n1_ n2_ n3_; clear hb hbox hg; have p117 : 0 ≤ (a2 : Int) := of_decide_eq_true (by first | (with_reducible assumption) | assumption); have q117 : a2 < (l1.length : Int) := of_decide_eq_true (by first | (with_reducible assumption) | assumption); obtain ⟨ad117, e117, hx117_0⟩ := Kd.at_int HR1.out a2 p117 q117; cases e117; replace hx117_0 := (HB.out.cell (World.block_lt_of_cell? w _ hx117_0)).trans hx117_0; replace p117 := eq_true p117; replace q117 := eq_true q117; have p118 : 0 ≤ (a3 : Int) := of_decide_eq_true (by first | (with_reducible assumption) | assumption); have q118 : a3 < (l1.length : Int) := of_decide_eq_true (by first | (with_reducible assumption) | assumption); obtain ⟨ad118, e118, hx118_0⟩ := Kd.at_int HR1.out a3 p118 q118; obtain rfl : ad117 = ad118 := (by injection e118); replace hx118_0 := (HB.out.cell (World.block_lt_of_cell? w _ hx118_0)).trans hx118_0; replace p118 := eq_true p118; replace q118 := eq_true q118)))
     go_loopg [9, 10] k (fun kq v9 v10 w' => ∃ (x9_1 : Bool) (x10_1 : Int), v9 = .bool x9_1 ∧ v10 = .int .i64 x10_1 ∧ Aside0 (spec_l5Same.l0 kq l1 a2 a3 x9_1 x10_1 l0_0 l0_1 = some r) ∧ Aside0 (kq ≤ k) ∧ Aside0 (w'.heap[gb116]? = some (.cells #[(.slice A0_0 l0_0.length c0_0), (.slice A0_1 l0_1.length c0_1)] 27 (0, 0))) ∧ Aside0 (Below w.heap.size w w'))
     case atStart => exact ⟨(((rd l1 a2) == (rd l1 a3))), (0), (by first | rfl | (simp; done) | (simp [*]; done)), (by first | rfl | (simp; done) | (simp [*]; done)), H', ⟨Nat.le_refl _⟩, ⟨by (with_reducible repeat (first | refine blk_drewN ?_ _ | refine blk_drew ?_ | refine blk_alloc ?_ _)); exact BK116.out⟩, ⟨by repeat (first | (with_reducible first | exact HB.out | apply below_alloc | apply pw_below_drewN | apply below_drew1 | refine below_set ?_ GE116.out) | exact HB.out)⟩⟩
     case round =>
      clear H'
      try clear c1
      try clear p1
      try clear q1
      try clear hx1
      try clear p2
      try clear c5
      try clear c5b0
      try clear c6
      try clear c6b0
      try clear c7
      try clear c7b0
      try clear c8
      try clear c8b0
      try clear hx117_0
      try clear hx118_0
      try clear p117
      try clear p118
      try clear q117
      try clear q118
      obtain ⟨x9_1, x10_1, rfl, rfl, HA, HK1, BK116, HB⟩ := hrel
      cases gk with
      | zero => exact absurd HA.out (by simp [spec_l5Same.l0])
      | succ k1 =>
       have H := HA.out
       clear HA
       simp only [spec_l5Same.l0] at H
       by_cases c10 : x10_1 < 3
       ·rw [if_pos c10] at H
        have c10b0 : decide (x10_1 < 3) = true := decide_eq_true c10
        clear c10
        by_cases c11 : x9_1 = true
        ·subst c11
         have H1 : (if 0 ≤ a2 then (if a2 < (l0_1.length : Int) then (if 0 ≤ x10_1 then (if x10_1 < ((rd_L2 l0_1 a2).length : Int) then (if 0 ≤ (rd (rd_L2 l0_1 a2) x10_1) then (if (rd (rd_L2 l0_1 a2) x10_1) < (l1.length : Int) then (if 0 ≤ a3 then (if a3 < (l0_1.length : Int) then (if x10_1 < ((rd_L2 l0_1 a3).length : Int) then (if 0 ≤ (rd (rd_L2 l0_1 a3) x10_1) then (if (rd (rd_L2 l0_1 a3) x10_1) < (l1.length : Int) then (spec_l5Same.l0 k1 l1 a2 a3 ((rd l1 (rd (rd_L2 l0_1 a2) x10_1)) == (rd l1 (rd (rd_L2 l0_1 a3) x10_1))) (wrap64 (x10_1 + 1)) l0_0 l0_1) else (none)) else (none)) else (none)) else (none)) else (none)) else (none)) else (none)) else (none)) else (none)) else (none)) else (none)) = some r := by rw [if_pos rfl] at H; exact H
         clear H
         have H := H1
         clear H1
         by_cases c12 : 0 ≤ a2
         ·rw [if_pos c12] at H
          have c12b0 : decide (0 ≤ a2) = true := decide_eq_true c12
          clear c12
          by_cases c13 : a2 < (l0_1.length : Int)
          ·rw [if_pos c13] at H
           have c13b0 : decide (a2 < (l0_1.length : Int)) = true := decide_eq_true c13
           clear c13
           by_cases c14 : 0 ≤ x10_1
           ·rw [if_pos c14] at H
            have c14b0 : decide (0 ≤ x10_1) = true := decide_eq_true c14
            clear c14
            by_cases c15 : x10_1 < ((rd_L2 l0_1 a2).length : Int)
            ·rw [if_pos c15] at H
             have c15b0 : decide (x10_1 < ((rd_L2 l0_1 a2).length : Int)) = true := decide_eq_true c15
             clear c15
             by_cases c16 : 0 ≤ (rd (rd_L2 l0_1 a2) x10_1)
             ·rw [if_pos c16] at H
              have c16b0 : decide (0 ≤ (rd (rd_L2 l0_1 a2) x10_1)) = true := decide_eq_true c16
              clear c16
              by_cases c17 : (rd (rd_L2 l0_1 a2) x10_1) < (l1.length : Int)
              ·rw [if_pos c17] at H
               have c17b0 : decide ((rd (rd_L2 l0_1 a2) x10_1) < (l1.length : Int)) = true := decide_eq_true c17
               clear c17
               by_cases c18 : 0 ≤ a3
               ·rw [if_pos c18] at H
                have c18b0 : decide (0 ≤ a3) = true := decide_eq_true c18
                clear c18
                by_cases c19 : a3 < (l0_1.length : Int)
                ·rw [if_pos c19] at H
                 have c19b0 : decide (a3 < (l0_1.length : Int)) = true := decide_eq_true c19
                 clear c19
                 by_cases c20 : x10_1 < ((rd_L2 l0_1 a3).length : Int)
                 ·rw [if_pos c20] at H
                  have c20b0 : decide (x10_1 < ((rd_L2 l0_1 a3).length : Int)) = true := decide_eq_true c20
                  clear c20
                  by_cases c21 : 0 ≤ (rd (rd_L2 l0_1 a3) x10_1)
                  ·rw [if_pos c21] at H
                   have c21b0 : decide (0 ≤ (rd (rd_L2 l0_1 a3) x10_1)) = true := decide_eq_true c21
                   clear c21
                   by_cases c22 : (rd (rd_L2 l0_1 a3) x10_1) < (l1.length : Int)
                   ·rw [if_pos c22] at H
                    have c22b0 : decide ((rd (rd_L2 l0_1 a3) x10_1) < (l1.length : Int)) = true := decide_eq_true c22
                    clear c22
                    have H' := Aside0.mk H
                    clear H
                    have hcz23_0 : wr.cell? ⟨gb116, 0, none⟩ = some (.slice A0_0 l0_0.length c0_0) := (blk_cell BK116.out 0).trans rfl
                    have hcz23_1 : wr.cell? ⟨gb116, 1, none⟩ = some (.slice A0_1 l0_1.length c0_1) := (blk_cell BK116.out 1).trans rfl
                    have hfz23_0 := blk_frozen BK116.out 0
                    have hfz23_1 := blk_frozen BK116.out 1
                    have p119 : 0 ≤ (a2 : Int) := of_decide_eq_true (by first | (with_reducible assumption) | assumption)
                    have q119 : a2 < (l0_1.length : Int) := of_decide_eq_true (by first | (with_reducible assumption) | assumption)
                    obtain ⟨ad119, A119_0, c119_0, e119, hx119_0, hl119_0, hi119_0⟩ := at_L2 HR0_1.out a2 p119 q119
                    cases e119
                    replace hx119_0 := (HB.out.cell (World.block_lt_of_cell? w _ hx119_0)).trans hx119_0
                    have HR119_0 := Aside0.mk hi119_0
                    have HC119_0 := Aside0.mk hl119_0
                    clear hi119_0 hl119_0
                    replace p119 := eq_true p119
                    replace q119 := eq_true q119
                    have p120 : 0 ≤ (x10_1 : Int) := of_decide_eq_true (by first | (with_reducible assumption) | assumption)
                    have q120 : x10_1 < ((rd_L2 l0_1 a2).length : Int) := of_decide_eq_true (by first | (with_reducible assumption) | assumption)
                    obtain ⟨ad120, e120, hx120_0⟩ := Kd.at_int HR119_0.out x10_1 p120 q120
                    cases e120
                    replace hx120_0 := (HB.out.cell (World.block_lt_of_cell? w _ hx120_0)).trans hx120_0
                    replace p120 := eq_true p120
                    replace q120 := eq_true q120
                    have p121 : 0 ≤ ((rd (rd_L2 l0_1 a2) x10_1) : Int) := of_decide_eq_true (by first | (with_reducible assumption) | assumption)
                    have q121 : (rd (rd_L2 l0_1 a2) x10_1) < (l1.length : Int) := of_decide_eq_true (by first | (with_reducible assumption) | assumption)
                    obtain ⟨ad121, e121, hx121_0⟩ := Kd.at_int HR1.out (rd (rd_L2 l0_1 a2) x10_1) p121 q121
                    obtain rfl : ad117 = ad121 := (by injection e121)
                    replace hx121_0 := (HB.out.cell (World.block_lt_of_cell? w _ hx121_0)).trans hx121_0
                    replace p121 := eq_true p121
                    replace q121 := eq_true q121
                    have p122 : 0 ≤ (a3 : Int) := of_decide_eq_true (by first | (with_reducible assumption) | assumption)
                    have q122 : a3 < (l0_1.length : Int) := of_decide_eq_true (by first | (with_reducible assumption) | assumption)
                    obtain ⟨ad122, A122_0, c122_0, e122, hx122_0, hl122_0, hi122_0⟩ := at_L2 HR0_1.out a3 p122 q122
                    obtain rfl : ad119 = ad122 := (by injection e122)
                    replace hx122_0 := (HB.out.cell (World.block_lt_of_cell? w _ hx122_0)).trans hx122_0
                    have HR122_0 := Aside0.mk hi122_0
                    have HC122_0 := Aside0.mk hl122_0
                    clear hi122_0 hl122_0
                    replace p122 := eq_true p122
                    replace q122 := eq_true q122
                    have p123 : 0 ≤ (x10_1 : Int) := of_decide_eq_true (by first | (with_reducible assumption) | assumption)
                    have q123 : x10_1 < ((rd_L2 l0_1 a3).length : Int) := of_decide_eq_true (by first | (with_reducible assumption) | assumption)
                    obtain ⟨ad123, e123, hx123_0⟩ := Kd.at_int HR122_0.out x10_1 p123 q123
                    cases e123
                    replace hx123_0 := (HB.out.cell (World.block_lt_of_cell? w _ hx123_0)).trans hx123_0
                    replace p123 := eq_true p123
                    replace q123 := eq_true q123
                    have p124 : 0 ≤ ((rd (rd_L2 l0_1 a3) x10_1) : Int) := of_decide_eq_true (by first | (with_reducible assumption) | assumption)
                    have q124 : (rd (rd_L2 l0_1 a3) x10_1) < (l1.length : Int) := of_decide_eq_true (by first | (with_reducible assumption) | assumption)
                    obtain ⟨ad124, e124, hx124_0⟩ := Kd.at_int HR1.out (rd (rd_L2 l0_1 a3) x10_1) p124 q124
                    obtain rfl : ad117 = ad124 := (by injection e124)
                    replace hx124_0 := (HB.out.cell (World.block_lt_of_cell? w _ hx124_0)).trans hx124_0
                    replace p124 := eq_true p124
                    replace q124 := eq_true q124
                    go_wp2
                    repeat (go_quiet (fail); try go_wp2)
                    go_roundg k1
                    case measure => have := HK1.out; omega
                    case rel => exact ⟨(((rd l1 (rd (rd_L2 l0_1 a2) x10_1)) == (rd l1 (rd (rd_L2 l0_1 a3) x10_1)))), (wrap64 (x10_1 + 1)), (by first | rfl | (simp; done) | (simp [*]; done)), (by first | rfl | (simp; done) | (simp [*]; done)), H', ⟨by have := HK1.out; omega⟩, ⟨by (with_reducible repeat (first | refine blk_drewN ?_ _ | refine blk_drew ?_ | refine blk_alloc ?_ _)); exact BK116.out⟩, ⟨by repeat (first | (with_reducible first | exact HB.out | apply below_alloc | apply pw_below_drewN | apply below_drew1 | refine below_set ?_ GE116.out) | exact HB.out)⟩⟩
                   ·rw [if_neg c22] at H
                    exact absurd H (by simp)
                  ·rw [if_neg c21] at H
                   exact absurd H (by simp)
                 ·rw [if_neg c20] at H
                  exact absurd H (by simp)
                ·rw [if_neg c19] at H
                 exact absurd H (by simp)
               ·rw [if_neg c18] at H
                exact absurd H (by simp)
              ·rw [if_neg c17] at H
               exact absurd H (by simp)
             ·rw [if_neg c16] at H
              exact absurd H (by simp)
            ·rw [if_neg c15] at H
             exact absurd H (by simp)
           ·rw [if_neg c14] at H
            exact absurd H (by simp)
          ·rw [if_neg c13] at H
           exact absurd H (by simp)
         ·rw [if_neg c12] at H
          exact absurd H (by simp)
        ·replace c11 := Bool.eq_false_iff.mpr c11
         subst c11
         have H1 : (spec_l5Same.l0 k1 l1 a2 a3 false (wrap64 (x10_1 + 1)) l0_0 l0_1) = some r := by rw [if_neg (show ¬ (false = true) by decide)] at H; exact H
         clear H
         have H := H1
         clear H1
         have H' := Aside0.mk H
         clear H
         go_wp2
         repeat (go_quiet (fail); try go_wp2)
         go_roundg k1
         case measure => have := HK1.out; omega
         case rel => exact ⟨(false), (wrap64 (x10_1 + 1)), (by first | rfl | (simp; done) | (simp [*]; done)), (by first | rfl | (simp; done) | (simp [*]; done)), H', ⟨by have := HK1.out; omega⟩, ⟨by (with_reducible repeat (first | refine blk_drewN ?_ _ | refine blk_drew ?_ | refine blk_alloc ?_ _)); exact BK116.out⟩, ⟨by repeat (first | (with_reducible first | exact HB.out | apply below_alloc | apply pw_below_drewN | apply below_drew1 | refine below_set ?_ GE116.out) | exact HB.out)⟩⟩
       ·rw [if_neg c10] at H
        have c10b0 : decide (x10_1 < 3) = false := decide_eq_false c10
        clear c10
        obtain rfl := Option.some.inj H
        simp only [Option.some.injEq, Prod.mk.injEq] at H
        obtain ⟨rfl⟩ := H
        go_wp2
        repeat (go_quiet (fail); try go_wp2)
        go_ret
        exact ⟨by first | rfl | (simp [errW_none, errW_some] <;> rfl) | (simp [*, errW_none, errW_some] <;> rfl), by repeat (first | (with_reducible first | exact HB.out | apply below_alloc | apply pw_below_drewN | apply below_drew1 | refine below_set ?_ GE116.out) | exact HB.out)⟩
    ·rw [if_neg c8] at H
     exact absurd H (by simp)
   ·rw [if_neg c7] at H
    exact absurd H (by simp)
  ·rw [if_neg c6] at H
   exact absurd H (by simp)
 ·rw [if_neg c5] at H
  exact absurd H (by simp)
end Go.Proofs.Ytogamkblkoobkaa.P
end
section
namespace Go.Proofs.Ytogamkblkoobkaa.P
open Go.RowKit Go.Proofs.YtogamkblkoobkaaW.PrintWords Go.Proofs.YtogamkblkoobkaaW.PrintLast Go.Proofs.YtogamkblkoobkaaW.PrintMore
attribute [local go_sem] max2_int min2_int max_two min_two max_three min_three max_four min_four
set_option linter.unusedVariables false
set_option linter.unusedSimpArgs false
mutual
def spec_l5Classes.l0 : Nat → Int → List Int → Int → List Bool → List (List Int) → Option (List Int)
  | 0, _, _, _, _, _ => none
  | k + 1, x3, x4, x5, x126000, x126001 => if x5 < x3 then (if 0 ≤ x5 then (if x5 < (x126000.length : Int) then (if rdOf false x126000 x5 = true then (if x5 < (x4.length : Int) then (spec_l5Classes.l0 k x3 (x4.set (x5 : Int).toNat 1) (wrap64 (x5 + 1)) x126000 x126001) else (none)) else (spec_l5Classes.l0 k x3 x4 (wrap64 (x5 + 1)) x126000 x126001)) else (none)) else (none)) else (spec_l5Classes.l1 k x3 x4 0 x126000 x126001)
def spec_l5Classes.l1 : Nat → Int → List Int → Int → List Bool → List (List Int) → Option (List Int)
  | 0, _, _, _, _, _ => none
  | k + 1, x3, x4, x6, x126000, x126001 => if x6 ≤ x3 then (if 0 ≤ x3 then (if (x3 : Int).toNat ≤ 35184372088832 then (spec_l5Classes.l2 k x3 x4 x6 (List.replicate (x3 : Int).toNat 0) 0 x126000 x126001) else (none)) else (none)) else (some x4)
def spec_l5Classes.l2 : Nat → Int → List Int → Int → List Int → Int → List Bool → List (List Int) → Option (List Int)
  | 0, _, _, _, _, _, _, _ => none
  | k + 1, x3, x4, x6, x7, x8, x126000, x126001 => if x8 < x3 then (if 0 ≤ x8 then (if x8 < (x7.length : Int) then (spec_l5Classes.l3 k x3 x4 x6 (x7.set (x8 : Int).toNat x8) x8 0 x126000 x126001) else (none)) else (none)) else (spec_l5Classes.l1 k x3 x7 (wrap64 (x6 + 1)) x126000 x126001)
def spec_l5Classes.l3 : Nat → Int → List Int → Int → List Int → Int → Int → List Bool → List (List Int) → Option (List Int)
  | 0, _, _, _, _, _, _, _, _ => none
  | k + 1, x3, x4, x6, x7, x8, x9, x126000, x126001 => if x9 < x8 then ((spec_l5Same.f k x126000 x126001 x4 x9 x8).bind fun t135 => (if t135 = true then (if 0 ≤ x8 then (if x8 < (x7.length : Int) then (spec_l5Classes.l2 k x3 x4 x6 (x7.set (x8 : Int).toNat x9) (wrap64 (x8 + 1)) x126000 x126001) else (none)) else (none)) else (spec_l5Classes.l3 k x3 x4 x6 x7 x8 (wrap64 (x9 + 1)) x126000 x126001))) else (spec_l5Classes.l2 k x3 x4 x6 x7 (wrap64 (x8 + 1)) x126000 x126001)
end
def spec_l5Classes.f (k : Nat) (l0_0 : List Bool) (l0_1 : List (List Int)) : Option (List Int) := if 0 ≤ (l0_0.length : Int) then (if ((l0_0.length : Int) : Int).toNat ≤ 35184372088832 then (spec_l5Classes.l0 k (l0_0.length : Int) (List.replicate ((l0_0.length : Int) : Int).toNat 0) 0 l0_0 l0_1) else (none)) else (none)
theorem spec_l5Classes.mono_l : ∀ k, (∀ y0 y1 y2 y3 y4, LeO (spec_l5Classes.l0 k y0 y1 y2 y3 y4) (spec_l5Classes.l0 (k + 1) y0 y1 y2 y3 y4)) ∧ (∀ y0 y1 y2 y3 y4, LeO (spec_l5Classes.l1 k y0 y1 y2 y3 y4) (spec_l5Classes.l1 (k + 1) y0 y1 y2 y3 y4)) ∧ (∀ y0 y1 y2 y3 y4 y5 y6, LeO (spec_l5Classes.l2 k y0 y1 y2 y3 y4 y5 y6) (spec_l5Classes.l2 (k + 1) y0 y1 y2 y3 y4 y5 y6)) ∧ (∀ y0 y1 y2 y3 y4 y5 y6 y7, LeO (spec_l5Classes.l3 k y0 y1 y2 y3 y4 y5 y6 y7) (spec_l5Classes.l3 (k + 1) y0 y1 y2 y3 y4 y5 y6 y7))
 | 0 => ⟨fun _ _ _ _ _ r h => by simp [spec_l5Classes.l0] at h, fun _ _ _ _ _ r h => by simp [spec_l5Classes.l1] at h, fun _ _ _ _ _ _ _ r h => by simp [spec_l5Classes.l2] at h, fun _ _ _ _ _ _ _ _ r h => by simp [spec_l5Classes.l3] at h⟩
 | k + 1 => by
  obtain ⟨ih0, ih1, ih2, ih3⟩ := spec_l5Classes.mono_l k
  refine ⟨?_, ?_, ?_, ?_⟩
  ·intro y0 y1 y2 y3 y4
   unfold spec_l5Classes.l0
   repeat' first
   | (with_reducible exact ih0 _ _ _ _ _)
   | (with_reducible exact ih1 _ _ _ _ _)
   | (with_reducible exact ih2 _ _ _ _ _ _ _)
   | (with_reducible exact ih3 _ _ _ _ _ _ _ _)
   | (with_reducible exact spec_l5Same.mono _ _ _ _ _ _)
   | (with_reducible exact LeO.refl _)
   | (with_reducible exact LeO.none _)
   | (with_reducible refine LeO.ite ?_ ?_)
   | (with_reducible refine LeO.bind ?_ (fun _ => ?_))
   | exact ih0 _ _ _ _ _
   | exact ih1 _ _ _ _ _
   | exact ih2 _ _ _ _ _ _ _
   | exact ih3 _ _ _ _ _ _ _ _
   | exact spec_l5Same.mono _ _ _ _ _ _
   | exact LeO.none _
   | refine LeO.ite ?_ ?_
   | refine LeO.bind ?_ (fun _ => ?_)
  ·intro y0 y1 y2 y3 y4
   unfold spec_l5Classes.l1
   repeat' first
   | (with_reducible exact ih0 _ _ _ _ _)
   | (with_reducible exact ih1 _ _ _ _ _)
   | (with_reducible exact ih2 _ _ _ _ _ _ _)
   | (with_reducible exact ih3 _ _ _ _ _ _ _ _)
   | (with_reducible exact spec_l5Same.mono _ _ _ _ _ _)
   | (with_reducible exact LeO.refl _)
   | (with_reducible exact LeO.none _)
   | (with_reducible refine LeO.ite ?_ ?_)
   | (with_reducible refine LeO.bind ?_ (fun _ => ?_))
   | exact ih0 _ _ _ _ _
   | exact ih1 _ _ _ _ _
   | exact ih2 _ _ _ _ _ _ _
   | exact ih3 _ _ _ _ _ _ _ _
   | exact spec_l5Same.mono _ _ _ _ _ _
   | exact LeO.none _
   | refine LeO.ite ?_ ?_
   | refine LeO.bind ?_ (fun _ => ?_)
  ·intro y0 y1 y2 y3 y4 y5 y6
   unfold spec_l5Classes.l2
   repeat' first
   | (with_reducible exact ih0 _ _ _ _ _)
   | (with_reducible exact ih1 _ _ _ _ _)
   | (with_reducible exact ih2 _ _ _ _ _ _ _)
   | (with_reducible exact ih3 _ _ _ _ _ _ _ _)
   | (with_reducible exact spec_l5Same.mono _ _ _ _ _ _)
   | (with_reducible exact LeO.refl _)
   | (with_reducible exact LeO.none _)
   | (with_reducible refine LeO.ite ?_ ?_)
   | (with_reducible refine LeO.bind ?_ (fun _ => ?_))
   | exact ih0 _ _ _ _ _
   | exact ih1 _ _ _ _ _
   | exact ih2 _ _ _ _ _ _ _
   | exact ih3 _ _ _ _ _ _ _ _
   | exact spec_l5Same.mono _ _ _ _ _ _
   | exact LeO.none _
   | refine LeO.ite ?_ ?_
   | refine LeO.bind ?_ (fun _ => ?_)
  ·intro y0 y1 y2 y3 y4 y5 y6 y7
   unfold spec_l5Classes.l3
   repeat' first
   | (with_reducible exact ih0 _ _ _ _ _)
   | (with_reducible exact ih1 _ _ _ _ _)
   | (with_reducible exact ih2 _ _ _ _ _ _ _)
   | (with_reducible exact ih3 _ _ _ _ _ _ _ _)
   | (with_reducible exact spec_l5Same.mono _ _ _ _ _ _)
   | (with_reducible exact LeO.refl _)
   | (with_reducible exact LeO.none _)
   | (with_reducible refine LeO.ite ?_ ?_)
   | (with_reducible refine LeO.bind ?_ (fun _ => ?_))
   | exact ih0 _ _ _ _ _
   | exact ih1 _ _ _ _ _
   | exact ih2 _ _ _ _ _ _ _
   | exact ih3 _ _ _ _ _ _ _ _
   | exact spec_l5Same.mono _ _ _ _ _ _
   | exact LeO.none _
   | refine LeO.ite ?_ ?_
   | refine LeO.bind ?_ (fun _ => ?_)
theorem spec_l5Classes.mono : ∀ a0 a1 k, LeO (spec_l5Classes.f k a0 a1) (spec_l5Classes.f (k + 1) a0 a1) := by
 intro a0 a1 k
 obtain ⟨ih0, ih1, ih2, ih3⟩ := spec_l5Classes.mono_l k
 unfold spec_l5Classes.f
 repeat' first
   | (with_reducible exact ih0 _ _ _ _ _)
   | (with_reducible exact ih1 _ _ _ _ _)
   | (with_reducible exact ih2 _ _ _ _ _ _ _)
   | (with_reducible exact ih3 _ _ _ _ _ _ _ _)
   | (with_reducible exact spec_l5Same.mono _ _ _ _ _ _)
   | (with_reducible exact LeO.refl _)
   | (with_reducible exact LeO.none _)
   | (with_reducible refine LeO.ite ?_ ?_)
   | (with_reducible refine LeO.bind ?_ (fun _ => ?_))
   | exact ih0 _ _ _ _ _
   | exact ih1 _ _ _ _ _
   | exact ih2 _ _ _ _ _ _ _
   | exact ih3 _ _ _ _ _ _ _ _
   | exact spec_l5Same.mono _ _ _ _ _ _
   | exact LeO.none _
   | refine LeO.ite ?_ ?_
   | refine LeO.bind ?_ (fun _ => ?_)
set_option maxHeartbeats 8000000 in
set_option maxRecDepth 100000 in
theorem spec_l5Classes.calls (k : Nat) (A0_0 : Option Addr) (c0_0 : Nat) (l0_0 : List Bool) (A0_1 : Option Addr) (c0_1 : Nat) (l0_1 : List (List Int)) (r : List Int) (w : World) (hr0_0 : Kd.C Kd.bool w A0_0 l0_0.length l0_0) (hc0_0 : l0_0.length ≤ c0_0) (hr0_1 : Kd.C (Kd.slice 3 (Kd.int .i64)) w A0_1 l0_1.length l0_1) (hc0_1 : l0_1.length ≤ c0_1) (h : spec_l5Classes.f k l0_0 l0_1 = some r) :
  Calls Try.prog 126 #[.agg #[.slice A0_0 l0_0.length c0_0, .slice A0_1 l0_1.length c0_1]] w fun e w' => ∃ v0_ : Value, e = .returned (v0_) ∧ Kd.R (Kd.int .i64) 3 w' w.heap.size (fun _ => True) v0_ r ∧ Below w.heap.size w w' := by
 have hu27 := Try.underlying27
 have HR0_0 := Aside0.mk hr0_0
 have HC0_0 := Aside0.mk hc0_0
 clear hr0_0 hc0_0
 have HR0_1 := Aside0.mk hr0_1
 have HC0_1 := Aside0.mk hc0_1
 clear hr0_1 hc0_1
 have HB := Aside0.mk (Below.refl w.heap.size w)
 have H : (if 0 ≤ (l0_0.length : Int) then (if ((l0_0.length : Int) : Int).toNat ≤ 35184372088832 then (spec_l5Classes.l0 k (l0_0.length : Int) (List.replicate ((l0_0.length : Int) : Int).toNat 0) 0 l0_0 l0_1) else (none)) else (none)) = some r := h
 clear h
 by_cases c2 : 0 ≤ (l0_0.length : Int)
 ·rw [if_pos c2] at H
  have c2b0 := eq_true c2
  have c2b1 : decide (0 ≤ (l0_0.length : Int)) = true := decide_eq_true c2
  clear c2
  by_cases c3 : ((l0_0.length : Int) : Int).toNat ≤ 35184372088832
  ·rw [if_pos c3] at H
   have c3b0 := eq_true c3
   have c3b1 : decide (((l0_0.length : Int) : Int).toNat ≤ 35184372088832) = true := decide_eq_true c3
   clear c3
   obtain ⟨y126, hy126⟩ : ∃ y_ : List Int, y_ = (List.replicate ((l0_0.length : Int) : Int).toNat 0) := ⟨_, rfl⟩
   replace H : (spec_l5Classes.l0 k (l0_0.length : Int) y126 0 l0_0 l0_1) = some r := by first | (rw [hy126]; with_reducible exact H) | (have H2_ := (Option.bind_some _ _).symm.trans H; rw [hy126]; with_reducible exact H2_) | (have H2_ := (Option.bind_some _ _).symm.trans H; with_reducible exact H2_) | with_reducible exact H | (rw [hy126]; exact H) | exact H
   have Ny126 := Aside0.mk hy126
   clear hy126
   have H' := Aside0.mk H
   clear H
   go_enter Try.func126, Try.ntmps126
   go_wp2_with (first | ((with_reducible refine gate_dst (N := 1) rfl ?_); refine box_event ?hg (N := 1) ?hd (cs := #[.slice A0_0 l0_0.length c0_0, .slice A0_1 l0_1.length c0_1]) (t := 27) ?hr ?_; (case hd => rfl); (case hg => rfl); (case hr => first | (go_simp; done) | (go_simp; rfl)); intro gb125 hg w4 hbox hb; have n0_ := Aside0.mk (below_step (by repeat (first | (with_reducible first | exact HB.out | apply below_alloc | apply pw_below_drewN | apply below_drew1) | exact HB.out)) hb); have n1_ := Aside0.mk (hbox); have n2_ := Aside0.mk ((by rw [hg]; exact (below_size (by repeat (first | (with_reducible first | exact HB.out | apply below_alloc | apply pw_below_drewN | apply below_drew1) | exact HB.out))) : w.heap.size ≤ gb125)); have n3_ := Aside0.mk ((by rw [hg]; exact (below_size (by repeat (first | (with_reducible first | exact HB.out | apply below_alloc | apply pw_below_drewN | apply below_drew1) | exact HB.out))) : w.heap.size ≤ gb125)); clear HB; have HB := n0_; have BK125 := n1_; have GW125 := n2_; have GE125 := n3_; clear n0_ n1_ n2_ n3_; clear hb hbox hg; have hcz5_0 : w4.cell? ⟨gb125, 0, none⟩ = some (.slice A0_0 l0_0.length c0_0) := (blk_cell BK125.out 0).trans rfl; have hcz5_1 : w4.cell? ⟨gb125, 1, none⟩ = some (.slice A0_1 l0_1.length c0_1) := (blk_cell BK125.out 1).trans rfl; have hfz5_0 := blk_frozen BK125.out 0; have hfz5_1 := blk_frozen BK125.out 1) | ((with_reducible refine gate_dst (N := 14) rfl ?_); refine Kd.R_make (Kd.int .i64) _ 3 rfl (N := 14) rfl 67 _ _ rfl (l0_0.length : Int) rfl rfl Try.underlying67 (.int .i64 0) 8 info3 rfl (by decide) (by omega) 0 (ok := fun _ => True) (okp := fun _ => True) rfl (fun _ hk => hk) trivial (of_decide_eq_true (by first | (with_reducible assumption) | assumption)) (Nat.le_trans (Nat.mul_le_mul_right _ (of_decide_eq_true (by first | (with_reducible assumption) | assumption) : (l0_0.length : Int).toNat ≤ 35184372088832)) (by omega)) (Below.refl _ _) (Nat.le_refl _) ?_; intro v127 w6 ho7 hb hg_ hnew_; clear hg_ hnew_; (first | rw [← Ny126.out] at ho7 | (simp only [Int.reduceToNat] at ho7; rw [← Ny126.out] at ho7)); have n0_ := Aside0.mk (Kd.R_lower ho7 (below_size (by repeat (first | (with_reducible first | exact HB.out | apply below_alloc | apply pw_below_drewN | apply below_drew1 | refine below_set ?_ GE125.out) | exact HB.out)))); have n1_ := Aside0.mk (blk_below (g := gb125) (o := .cells #[.slice A0_0 l0_0.length c0_0, .slice A0_1 l0_1.length c0_1] 27 (0, 0)) (by (with_reducible repeat (first | refine blk_drewN ?_ _ | refine blk_drew ?_ | refine blk_alloc ?_ _)); exact BK125.out) hb); have n2_ := Aside0.mk (below_step (by repeat (first | (with_reducible first | exact HB.out | apply below_alloc | apply pw_below_drewN | apply below_drew1 | refine below_set ?_ GE125.out) | exact HB.out)) hb); clear BK125; clear HB; have HO128 := n0_; have BK125 := n1_; have HB := n2_; clear n0_ n1_ n2_; clear hb ho7))
   go_loopg [5] k (fun kq v5 w' => ∃ (x4_1 : List Int) (x5_1 : Int), v5 = .int .i64 x5_1 ∧ Aside0 (spec_l5Classes.l0 kq (l0_0.length : Int) x4_1 x5_1 l0_0 l0_1 = some r) ∧ Aside0 (kq ≤ k) ∧ Aside0 (Kd.R (Kd.int .i64) 3 w' w.heap.size (fun _ => True) v127 x4_1) ∧ Aside0 (w'.heap[gb125]? = some (.cells #[(.slice A0_0 l0_0.length c0_0), (.slice A0_1 l0_1.length c0_1)] 27 (0, 0))) ∧ Aside0 (Below w.heap.size w w'))
   case atStart => exact ⟨(y126), (0), (by first | rfl | (simp; done) | (simp [*]; done)), H', ⟨Nat.le_refl _⟩, ⟨by (with_reducible repeat (first | apply Kd.R_alloc | apply Kd.R_drewN | apply Kd.R_drew)); exact HO128.out⟩, ⟨by (with_reducible repeat (first | refine blk_drewN ?_ _ | refine blk_drew ?_ | refine blk_alloc ?_ _)); exact BK125.out⟩, ⟨by repeat (first | (with_reducible first | exact HB.out | apply below_alloc | apply pw_below_drewN | apply below_drew1 | refine below_set ?_ GE125.out) | exact HB.out)⟩⟩
   case round =>
    clear H'
    try clear c1
    try clear c2
    try clear c2b0
    try clear c2b1
    try clear p2
    try clear c3
    try clear c3b0
    try clear c3b1
    try clear hcz5_0
    try clear hcz5_1
    try clear hfz5_0
    try clear hfz5_1
    obtain ⟨x4_1, x5_1, rfl, HA, HK1, HO_4, BK125, HB⟩ := hrel
    cases gk with
    | zero => exact absurd HA.out (by simp [spec_l5Classes.l0])
    | succ k1 =>
     have H := HA.out
     clear HA
     simp only [spec_l5Classes.l0] at H
     by_cases c8 : x5_1 < (l0_0.length : Int)
     ·rw [if_pos c8] at H
      have c8b0 : decide (x5_1 < (l0_0.length : Int)) = true := decide_eq_true c8
      clear c8
      by_cases c9 : 0 ≤ x5_1
      ·rw [if_pos c9] at H
       have c9b0 : decide (0 ≤ x5_1) = true := decide_eq_true c9
       clear c9
       by_cases c10 : x5_1 < (l0_0.length : Int)
       ·rw [if_pos c10] at H
        have c10b0 : decide (x5_1 < (l0_0.length : Int)) = true := decide_eq_true c10
        clear c10
        obtain ⟨bq11, hbq11⟩ : ∃ b_ : Bool, b_ = (rdOf false l0_0 x5_1) := ⟨_, rfl⟩
        replace H : (if bq11 = true then (if x5_1 < (x4_1.length : Int) then (spec_l5Classes.l0 k1 (l0_0.length : Int) (x4_1.set (x5_1 : Int).toNat 1) (wrap64 (x5_1 + 1)) l0_0 l0_1) else (none)) else (spec_l5Classes.l0 k1 (l0_0.length : Int) x4_1 (wrap64 (x5_1 + 1)) l0_0 l0_1)) = some r := by rw [← hbq11] at H; exact H
        have Nbq11 := Aside0.mk hbq11
        clear hbq11
        by_cases c12 : bq11 = true
        ·subst c12
         have H1 : (if x5_1 < (x4_1.length : Int) then (spec_l5Classes.l0 k1 (l0_0.length : Int) (x4_1.set (x5_1 : Int).toNat 1) (wrap64 (x5_1 + 1)) l0_0 l0_1) else (none)) = some r := by rw [if_pos rfl] at H; exact H
         clear H
         have H := H1
         clear H1
         by_cases c13 : x5_1 < (x4_1.length : Int)
         ·rw [if_pos c13] at H
          have c13b0 : decide (x5_1 < (x4_1.length : Int)) = true := decide_eq_true c13
          clear c13
          obtain ⟨y130, hy130⟩ : ∃ y_ : List Int, y_ = (x4_1.set (x5_1 : Int).toNat 1) := ⟨_, rfl⟩
          replace H : (spec_l5Classes.l0 k1 (l0_0.length : Int) y130 (wrap64 (x5_1 + 1)) l0_0 l0_1) = some r := by first | (rw [hy130]; with_reducible exact H) | (have H2_ := (Option.bind_some _ _).symm.trans H; rw [hy130]; with_reducible exact H2_) | (have H2_ := (Option.bind_some _ _).symm.trans H; with_reducible exact H2_) | with_reducible exact H | (rw [hy130]; exact H) | exact H
          have Ny130 := Aside0.mk hy130
          clear hy130
          have H' := Aside0.mk H
          clear H
          have hcz15_0 : wr.cell? ⟨gb125, 0, none⟩ = some (.slice A0_0 l0_0.length c0_0) := (blk_cell BK125.out 0).trans rfl
          have hcz15_1 : wr.cell? ⟨gb125, 1, none⟩ = some (.slice A0_1 l0_1.length c0_1) := (blk_cell BK125.out 1).trans rfl
          have hfz15_0 := blk_frozen BK125.out 0
          have hfz15_1 := blk_frozen BK125.out 1
          have p129 : 0 ≤ (x5_1 : Int) := of_decide_eq_true (by first | (with_reducible assumption) | assumption)
          have q129 : x5_1 < (l0_0.length : Int) := of_decide_eq_true (by first | (with_reducible assumption) | assumption)
          obtain ⟨ad129, e129, hx129_0⟩ := Kd.at_bool HR0_0.out x5_1 p129 q129
          (try rw [← Nbq11.out] at hx129_0)
          cases e129
          replace hx129_0 := (HB.out.cell (World.block_lt_of_cell? w _ hx129_0)).trans hx129_0
          replace p129 := eq_true p129
          replace q129 := eq_true q129
          have p14 : 0 ≤ (x5_1 : Int) := of_decide_eq_true (by first | (with_reducible assumption) | assumption)
          have q14 : (x5_1 : Int) < ((x4_1.length : Int) : Int) := of_decide_eq_true (by first | (with_reducible assumption) | assumption)
          obtain ⟨go14, co14, eo14, gb14, gl14, cl14, HG14⟩ := Kd.R_form HO_4.out (by omega)
          (first | cases eo14 | (injection eo14 with ea_ en_ ec_; (first | subst ea_ | (injection ea_ with ea_; subst ea_)); subst ec_; clear en_))
          have GB14 := Aside0.mk gb14
          have GG14 := Aside0.mk HG14
          clear gb14 gl14 HG14
          obtain ⟨hx14_0, hf14_0⟩ := Kd.R_celln 0 HO_4.out (x5_1 : Int) p14 q14
          replace p14 := eq_true p14
          replace q14 := eq_true q14
          have HP16 := Kd.R_putg HO_4.out (x5_1 : Int) 1
          go_wp2_with (first | ((with_reducible refine gate_store (t := 3) (p := 27) rfl ?_); refine store_event (t := 3) (p := 27) (v := ?vo_w17) (w1 := (wr.setCell ⟨go14, (x5_1 : Int).toNat, none⟩ (.int .i64 1))) ?hg ?ho ?hn ?hr ?_; (case ho => rfl); (case hg => rfl); (case hn => rfl); (case hr => first | (go_simp; done) | (go_simp; rfl)); intro w17 hw; have hg : wr.grownBy w17 (some go14) := (by rw [hw]; exact HP16.2); have hp_ : Kd.R (Kd.int .i64) 3 w17 w.heap.size (fun _ => True) (.slice (some ⟨go14, 0, none⟩) x4_1.length co14) y130 := (by rw [hw, Ny130.out]; exact HP16.1); clear HP16; have n0_ := Aside0.mk (hp_); have n1_ := Aside0.mk (blk_grown (g := gb125) (o := .cells #[.slice (some ad129) l0_0.length c0_0, .slice A0_1 l0_1.length c0_1] 27 (0, 0)) (by (with_reducible repeat (first | refine blk_drewN ?_ _ | refine blk_drew ?_ | refine blk_alloc ?_ _)); exact BK125.out) hg (Kd.R_ne HO_4.out BK125.out (by decide))); have n2_ := Aside0.mk ((by rw [hw]; exact below_set (HB.out) GB14.out : Below w.heap.size w w17)); clear HO_4; clear BK125; clear HB; have HO_4 := n0_; have BK125 := n1_; have HB := n2_; clear n0_ n1_ n2_; clear hg hw hp_))
          go_roundg k1
          case measure => have := HK1.out; omega
          case rel => exact ⟨(y130), (wrap64 (x5_1 + 1)), (by first | rfl | (simp; done) | (simp [*]; done)), H', ⟨by have := HK1.out; omega⟩, ⟨by (with_reducible repeat (first | apply Kd.R_alloc | apply Kd.R_drewN | apply Kd.R_drew)); exact HO_4.out⟩, ⟨by (with_reducible repeat (first | refine blk_drewN ?_ _ | refine blk_drew ?_ | refine blk_alloc ?_ _)); exact BK125.out⟩, ⟨by repeat (first | (with_reducible first | exact HB.out | apply below_alloc | apply pw_below_drewN | apply below_drew1 | refine below_set ?_ GE125.out) | exact HB.out)⟩⟩
         ·rw [if_neg c13] at H
          exact absurd H (by simp)
        ·replace c12 := Bool.eq_false_iff.mpr c12
         subst c12
         have H1 : (spec_l5Classes.l0 k1 (l0_0.length : Int) x4_1 (wrap64 (x5_1 + 1)) l0_0 l0_1) = some r := by rw [if_neg (show ¬ (false = true) by decide)] at H; exact H
         clear H
         have H := H1
         clear H1
         have H' := Aside0.mk H
         clear H
         have hcz18_0 : wr.cell? ⟨gb125, 0, none⟩ = some (.slice A0_0 l0_0.length c0_0) := (blk_cell BK125.out 0).trans rfl
         have hcz18_1 : wr.cell? ⟨gb125, 1, none⟩ = some (.slice A0_1 l0_1.length c0_1) := (blk_cell BK125.out 1).trans rfl
         have hfz18_0 := blk_frozen BK125.out 0
         have hfz18_1 := blk_frozen BK125.out 1
         have p129 : 0 ≤ (x5_1 : Int) := of_decide_eq_true (by first | (with_reducible assumption) | assumption)
         have q129 : x5_1 < (l0_0.length : Int) := of_decide_eq_true (by first | (with_reducible assumption) | assumption)
         obtain ⟨ad129, e129, hx129_0⟩ := Kd.at_bool HR0_0.out x5_1 p129 q129
         (try rw [← Nbq11.out] at hx129_0)
         cases e129
         replace hx129_0 := (HB.out.cell (World.block_lt_of_cell? w _ hx129_0)).trans hx129_0
         replace p129 := eq_true p129
         replace q129 := eq_true q129
         go_wp2
         go_roundg k1
         case measure => have := HK1.out; omega
         case rel => exact ⟨(x4_1), (wrap64 (x5_1 + 1)), (by first | rfl | (simp; done) | (simp [*]; done)), H', ⟨by have := HK1.out; omega⟩, ⟨by (with_reducible repeat (first | apply Kd.R_alloc | apply Kd.R_drewN | apply Kd.R_drew)); exact HO_4.out⟩, ⟨by (with_reducible repeat (first | refine blk_drewN ?_ _ | refine blk_drew ?_ | refine blk_alloc ?_ _)); exact BK125.out⟩, ⟨by repeat (first | (with_reducible first | exact HB.out | apply below_alloc | apply pw_below_drewN | apply below_drew1 | refine below_set ?_ GE125.out) | exact HB.out)⟩⟩
       ·rw [if_neg c10] at H
        exact absurd H (by simp)
      ·rw [if_neg c9] at H
       exact absurd H (by simp)
     ·rw [if_neg c8] at H
      have c8b0 : decide (x5_1 < (l0_0.length : Int)) = false := decide_eq_false c8
      clear c8
      have H' := Aside0.mk H
      clear H
      go_wp2
      go_loopg [4, 6] k1 (fun kq v4 v6 w' => ∃ (x4_2 : List Int) (x6_2 : Int), v6 = .int .i64 x6_2 ∧ Aside0 (spec_l5Classes.l1 kq (l0_0.length : Int) x4_2 x6_2 l0_0 l0_1 = some r) ∧ Aside0 (kq ≤ k1) ∧ Aside0 (Kd.R (Kd.int .i64) 3 w' w.heap.size (fun _ => True) v4 x4_2) ∧ Aside0 (w'.heap[gb125]? = some (.cells #[(.slice A0_0 l0_0.length c0_0), (.slice A0_1 l0_1.length c0_1)] 27 (0, 0))) ∧ Aside0 (Below w.heap.size w w'))
      case atStart => exact ⟨(x4_1), (0), (by first | rfl | (simp; done) | (simp [*]; done)), H', ⟨Nat.le_refl _⟩, ⟨by (with_reducible repeat (first | apply Kd.R_alloc | apply Kd.R_drewN | apply Kd.R_drew)); exact HO_4.out⟩, ⟨by (with_reducible repeat (first | refine blk_drewN ?_ _ | refine blk_drew ?_ | refine blk_alloc ?_ _)); exact BK125.out⟩, ⟨by repeat (first | (with_reducible first | exact HB.out | apply below_alloc | apply pw_below_drewN | apply below_drew1 | refine below_set ?_ GE125.out) | exact HB.out)⟩⟩
      case round =>
       clear H'
       try clear c1
       try clear p1
       try clear q1
       try clear hx1
       try clear hf1
       try clear c2
       try clear c2b0
       try clear c2b1
       try clear p2
       try clear c3
       try clear c3b0
       try clear c3b1
       try clear p6
       try clear c8
       try clear c8b0
       try clear c9
       try clear c9b0
       try clear c10
       try clear c10b0
       try clear q11
       try clear c12
       try clear p12
       try clear q12
       try clear hx12
       try clear c13
       try clear c13b0
       try clear p14
       try clear q14
       try clear hx14
       try clear hf14
       try clear hcz15_0
       try clear hcz15_1
       try clear hcz18_0
       try clear hcz18_1
       try clear hcz5_0
       try clear hcz5_1
       try clear hfz15_0
       try clear hfz15_1
       try clear hfz18_0
       try clear hfz18_1
       try clear hfz5_0
       try clear hfz5_1
       try clear hx129_0
       try clear hx14_0
       try clear p129
       try clear p14
       try clear p2
       try clear q129
       try clear q14
       obtain ⟨x4_2, x6_2, rfl, HA, HK2, HO_4, BK125, HB⟩ := hrel
       cases gk with
       | zero => exact absurd HA.out (by simp [spec_l5Classes.l1])
       | succ k2 =>
        have H := HA.out
        clear HA
        simp only [spec_l5Classes.l1] at H
        by_cases c19 : x6_2 ≤ (l0_0.length : Int)
        ·rw [if_pos c19] at H
         have c19b0 : decide (x6_2 ≤ (l0_0.length : Int)) = true := decide_eq_true c19
         clear c19
         by_cases c20 : 0 ≤ (l0_0.length : Int)
         ·rw [if_pos c20] at H
          have c20b0 := eq_true c20
          have c20b1 : decide (0 ≤ (l0_0.length : Int)) = true := decide_eq_true c20
          clear c20
          by_cases c21 : ((l0_0.length : Int) : Int).toNat ≤ 35184372088832
          ·rw [if_pos c21] at H
           have c21b0 := eq_true c21
           have c21b1 : decide (((l0_0.length : Int) : Int).toNat ≤ 35184372088832) = true := decide_eq_true c21
           clear c21
           obtain ⟨y131, hy131⟩ : ∃ y_ : List Int, y_ = (List.replicate ((l0_0.length : Int) : Int).toNat 0) := ⟨_, rfl⟩
           replace H : (spec_l5Classes.l2 k2 (l0_0.length : Int) x4_2 x6_2 y131 0 l0_0 l0_1) = some r := by first | (rw [hy131]; with_reducible exact H) | (have H2_ := (Option.bind_some _ _).symm.trans H; rw [hy131]; with_reducible exact H2_) | (have H2_ := (Option.bind_some _ _).symm.trans H; with_reducible exact H2_) | with_reducible exact H | (rw [hy131]; exact H) | exact H
           have Ny131 := Aside0.mk hy131
           clear hy131
           have H' := Aside0.mk H
           clear H
           go_wp2_with (first | ((with_reducible refine gate_dst (N := 34) rfl ?_); refine Kd.R_make (Kd.int .i64) _ 3 rfl (N := 34) rfl 67 _ _ rfl (l0_0.length : Int) rfl rfl Try.underlying67 (.int .i64 0) 8 info3 rfl (by decide) (by omega) 0 (ok := fun _ => True) (okp := fun _ => True) rfl (fun _ hk => hk) trivial (of_decide_eq_true (by first | (with_reducible assumption) | assumption)) (Nat.le_trans (Nat.mul_le_mul_right _ (of_decide_eq_true (by first | (with_reducible assumption) | assumption) : (l0_0.length : Int).toNat ≤ 35184372088832)) (by omega)) (Below.refl _ _) (Nat.le_refl _) ?_; intro v132 w22 ho23 hb hg_ hnew_; clear hg_ hnew_; (first | rw [← Ny131.out] at ho23 | (simp only [Int.reduceToNat] at ho23; rw [← Ny131.out] at ho23)); have n0_ := Aside0.mk (Kd.R_elder' (by (with_reducible repeat (first | apply Kd.R_alloc | apply Kd.R_drewN | apply Kd.R_drew)); exact HO_4.out) (Kd.R_base ho23) hb); have n1_ := Aside0.mk (Kd.R_lower (Kd.R_new' ho23 (Kd.R_lt (by (with_reducible repeat (first | apply Kd.R_alloc | apply Kd.R_drewN | apply Kd.R_drew)); exact HO_4.out))) (below_size (by repeat (first | (with_reducible first | exact HB.out | apply below_alloc | apply pw_below_drewN | apply below_drew1 | refine below_set ?_ GE125.out) | exact HB.out)))); have n2_ := Aside0.mk (blk_below (g := gb125) (o := .cells #[.slice A0_0 l0_0.length c0_0, .slice A0_1 l0_1.length c0_1] 27 (0, 0)) (by (with_reducible repeat (first | refine blk_drewN ?_ _ | refine blk_drew ?_ | refine blk_alloc ?_ _)); exact BK125.out) hb); have n3_ := Aside0.mk (below_step (by repeat (first | (with_reducible first | exact HB.out | apply below_alloc | apply pw_below_drewN | apply below_drew1 | refine below_set ?_ GE125.out) | exact HB.out)) hb); clear HO_4; clear BK125; clear HB; have HO_4 := n0_; have HO133 := n1_; have BK125 := n2_; have HB := n3_; clear n0_ n1_ n2_ n3_; clear hb ho23))
           go_loopg [8] k2 (fun kq v8 w' => ∃ (x7_3 : List Int) (x8_3 : Int), v8 = .int .i64 x8_3 ∧ Aside0 (spec_l5Classes.l2 kq (l0_0.length : Int) x4_2 x6_2 x7_3 x8_3 l0_0 l0_1 = some r) ∧ Aside0 (kq ≤ k2) ∧ Aside0 (Kd.R (Kd.int .i64) 3 w' w.heap.size (fun k_ => some k_ ≠ (v132 : Value).ownBlock) u4 x4_2) ∧ Aside0 (Kd.R (Kd.int .i64) 3 w' w.heap.size (fun k_ => some k_ ≠ (u4 : Value).ownBlock) v132 x7_3) ∧ Aside0 (w'.heap[gb125]? = some (.cells #[(.slice A0_0 l0_0.length c0_0), (.slice A0_1 l0_1.length c0_1)] 27 (0, 0))) ∧ Aside0 (Below w.heap.size w w'))
           case atStart => exact ⟨(y131), (0), (by first | rfl | (simp; done) | (simp [*]; done)), H', ⟨Nat.le_refl _⟩, ⟨by (with_reducible repeat (first | apply Kd.R_alloc | apply Kd.R_drewN | apply Kd.R_drew)); exact Kd.R_mono HO_4.out (fun _ hk => hk.2)⟩, ⟨by (with_reducible repeat (first | apply Kd.R_alloc | apply Kd.R_drewN | apply Kd.R_drew)); exact Kd.R_mono HO133.out (fun _ hk => hk.2)⟩, ⟨by (with_reducible repeat (first | refine blk_drewN ?_ _ | refine blk_drew ?_ | refine blk_alloc ?_ _)); exact BK125.out⟩, ⟨by repeat (first | (with_reducible first | exact HB.out | apply below_alloc | apply pw_below_drewN | apply below_drew1 | refine below_set ?_ GE125.out) | exact HB.out)⟩⟩
           case round =>
            clear H'
            try clear c1
            try clear p1
            try clear q1
            try clear hx1
            try clear hf1
            try clear c2
            try clear c2b0
            try clear c2b1
            try clear p2
            try clear c3
            try clear c3b0
            try clear c3b1
            try clear p6
            try clear c8
            try clear c8b0
            try clear c9
            try clear c9b0
            try clear c10
            try clear c10b0
            try clear q11
            try clear c12
            try clear p12
            try clear q12
            try clear hx12
            try clear c13
            try clear c13b0
            try clear p14
            try clear q14
            try clear hx14
            try clear hf14
            try clear c19
            try clear c19b0
            try clear c20
            try clear c20b0
            try clear c20b1
            try clear c21
            try clear c21b0
            try clear c21b1
            try clear hcz15_0
            try clear hcz15_1
            try clear hcz18_0
            try clear hcz18_1
            try clear hcz5_0
            try clear hcz5_1
            try clear hfz15_0
            try clear hfz15_1
            try clear hfz18_0
            try clear hfz18_1
            try clear hfz5_0
            try clear hfz5_1
            try clear hx129_0
            try clear hx14_0
            try clear p1
            try clear p12
            try clear p129
            try clear p14
            try clear p2
            try clear p6
            try clear q1
            try clear q11
            try clear q12
            try clear q129
            try clear q14
            obtain ⟨x7_3, x8_3, rfl, HA, HK3, HO_4, HO_7, BK125, HB⟩ := hrel
            cases gk with
            | zero => exact absurd HA.out (by simp [spec_l5Classes.l2])
            | succ k3 =>
             have H := HA.out
             clear HA
             simp only [spec_l5Classes.l2] at H
             by_cases c24 : x8_3 < (l0_0.length : Int)
             ·rw [if_pos c24] at H
              have c24b0 : decide (x8_3 < (l0_0.length : Int)) = true := decide_eq_true c24
              clear c24
              by_cases c25 : 0 ≤ x8_3
              ·rw [if_pos c25] at H
               have c25b0 : decide (0 ≤ x8_3) = true := decide_eq_true c25
               clear c25
               by_cases c26 : x8_3 < (x7_3.length : Int)
               ·rw [if_pos c26] at H
                have c26b0 : decide (x8_3 < (x7_3.length : Int)) = true := decide_eq_true c26
                clear c26
                obtain ⟨y134, hy134⟩ : ∃ y_ : List Int, y_ = (x7_3.set (x8_3 : Int).toNat x8_3) := ⟨_, rfl⟩
                replace H : (spec_l5Classes.l3 k3 (l0_0.length : Int) x4_2 x6_2 y134 x8_3 0 l0_0 l0_1) = some r := by first | (rw [hy134]; with_reducible exact H) | (have H2_ := (Option.bind_some _ _).symm.trans H; rw [hy134]; with_reducible exact H2_) | (have H2_ := (Option.bind_some _ _).symm.trans H; with_reducible exact H2_) | with_reducible exact H | (rw [hy134]; exact H) | exact H
                have Ny134 := Aside0.mk hy134
                clear hy134
                have H' := Aside0.mk H
                clear H
                have p27 : 0 ≤ (x8_3 : Int) := of_decide_eq_true (by first | (with_reducible assumption) | assumption)
                have q27 : (x8_3 : Int) < ((x7_3.length : Int) : Int) := of_decide_eq_true (by first | (with_reducible assumption) | assumption)
                obtain ⟨go27, co27, eo27, gb27, gl27, cl27, HG27⟩ := Kd.R_form HO_7.out (by omega)
                (first | cases eo27 | (injection eo27 with ea_ en_ ec_; (first | subst ea_ | (injection ea_ with ea_; subst ea_)); subst ec_; clear en_))
                have GB27 := Aside0.mk gb27
                have GG27 := Aside0.mk HG27
                clear gb27 gl27 HG27
                obtain ⟨hx27_0, hf27_0⟩ := Kd.R_celln 0 HO_7.out (x8_3 : Int) p27 q27
                replace p27 := eq_true p27
                replace q27 := eq_true q27
                have HP28 := Kd.R_putg HO_7.out (x8_3 : Int) x8_3
                go_wp2_with (first | ((with_reducible refine gate_store (t := 3) (p := 43) rfl ?_); refine store_event (t := 3) (p := 43) (v := ?vo_w29) (w1 := (wr.setCell ⟨go27, (x8_3 : Int).toNat, none⟩ (.int .i64 x8_3))) ?hg ?ho ?hn ?hr ?_; (case ho => rfl); (case hg => rfl); (case hn => rfl); (case hr => first | (go_simp; done) | (go_simp; rfl)); intro w29 hw; have hg : wr.grownBy w29 (some go27) := (by rw [hw]; exact HP28.2); have hp_ : Kd.R (Kd.int .i64) 3 w29 w.heap.size (fun k_ => some k_ ≠ (u4 : Value).ownBlock) (.slice (some ⟨go27, 0, none⟩) x7_3.length co27) y134 := (by rw [hw, Ny134.out]; exact HP28.1); clear HP28; have n0_ := Aside0.mk (Kd.R_after (v := (.slice (some ⟨go27, 0, none⟩) x7_3.length co27)) (v1 := (.slice (some ⟨go27, 0, none⟩) x7_3.length co27)) (ok := (fun _ => True)) (by (with_reducible repeat (first | apply Kd.R_alloc | apply Kd.R_drewN | apply Kd.R_drew)); exact Kd.R_mono HO_4.out (fun _ hk => ⟨trivial, hk⟩)) hg (.inl rfl)); have n1_ := Aside0.mk (hp_); have n2_ := Aside0.mk (blk_grown (g := gb125) (o := .cells #[.slice A0_0 l0_0.length c0_0, .slice A0_1 l0_1.length c0_1] 27 (0, 0)) (by (with_reducible repeat (first | refine blk_drewN ?_ _ | refine blk_drew ?_ | refine blk_alloc ?_ _)); exact BK125.out) hg (Kd.R_ne HO_7.out BK125.out (by decide))); have n3_ := Aside0.mk ((by rw [hw]; exact below_set (HB.out) GB27.out : Below w.heap.size w w29)); clear HO_4; clear HO_7; clear BK125; clear HB; have HO_4 := n0_; have HO_7 := n1_; have BK125 := n2_; have HB := n3_; clear n0_ n1_ n2_ n3_; clear hg hw hp_))
                go_loopg [9] k3 (fun kq v9 w' => ∃ (x7_4 : List Int) (x9_4 : Int), v9 = .int .i64 x9_4 ∧ Aside0 (spec_l5Classes.l3 kq (l0_0.length : Int) x4_2 x6_2 x7_4 x8_3 x9_4 l0_0 l0_1 = some r) ∧ Aside0 (kq ≤ k3) ∧ Aside0 (Kd.R (Kd.int .i64) 3 w' w.heap.size (fun k_ => some k_ ≠ ((.slice (some ⟨go27, 0, none⟩) x7_3.length co27) : Value).ownBlock) u4 x4_2) ∧ Aside0 (Kd.R (Kd.int .i64) 3 w' w.heap.size (fun k_ => some k_ ≠ (u4 : Value).ownBlock) (.slice (some ⟨go27, 0, none⟩) x7_3.length co27) x7_4) ∧ Aside0 (w'.heap[gb125]? = some (.cells #[(.slice A0_0 l0_0.length c0_0), (.slice A0_1 l0_1.length c0_1)] 27 (0, 0))) ∧ Aside0 (Below w.heap.size w w'))
                case atStart => exact ⟨(y134), (0), (by first | rfl | (simp; done) | (simp [*]; done)), H', ⟨Nat.le_refl _⟩, ⟨by (with_reducible repeat (first | apply Kd.R_alloc | apply Kd.R_drewN | apply Kd.R_drew)); exact Kd.R_mono HO_4.out (fun _ hk => hk.2)⟩, ⟨by (with_reducible repeat (first | apply Kd.R_alloc | apply Kd.R_drewN | apply Kd.R_drew)); exact HO_7.out⟩, ⟨by (with_reducible repeat (first | refine blk_drewN ?_ _ | refine blk_drew ?_ | refine blk_alloc ?_ _)); exact BK125.out⟩, ⟨by repeat (first | (with_reducible first | exact HB.out | apply below_alloc | apply pw_below_drewN | apply below_drew1 | refine below_set ?_ GE125.out) | exact HB.out)⟩⟩
                case round =>
                 clear H'
                 try clear c1
                 try clear p1
                 try clear q1
                 try clear hx1
                 try clear hf1
                 try clear c2
                 try clear c2b0
                 try clear c2b1
                 try clear p2
                 try clear q2
                 try clear hx2
                 try clear hf2
                 try clear c3
                 try clear c3b0
                 try clear c3b1
                 try clear p6
                 try clear c8
                 try clear c8b0
                 try clear c9
                 try clear c9b0
                 try clear c10
                 try clear c10b0
                 try clear q11
                 try clear c12
                 try clear p12
                 try clear q12
                 try clear hx12
                 try clear c13
                 try clear c13b0
                 try clear p14
                 try clear q14
                 try clear hx14
                 try clear hf14
                 try clear c19
                 try clear c19b0
                 try clear c20
                 try clear c20b0
                 try clear c20b1
                 try clear c21
                 try clear c21b0
                 try clear c21b1
                 try clear c24
                 try clear c24b0
                 try clear c25
                 try clear c25b0
                 try clear c26
                 try clear c26b0
                 try clear p27
                 try clear q27
                 try clear hx27
                 try clear hf27
                 try clear hcz15_0
                 try clear hcz15_1
                 try clear hcz18_0
                 try clear hcz18_1
                 try clear hcz5_0
                 try clear hcz5_1
                 try clear hfz15_0
                 try clear hfz15_1
                 try clear hfz18_0
                 try clear hfz18_1
                 try clear hfz5_0
                 try clear hfz5_1
                 try clear hx129_0
                 try clear hx14_0
                 try clear hx27_0
                 try clear p1
                 try clear p12
                 try clear p129
                 try clear p14
                 try clear p2
                 try clear p27
                 try clear p6
                 try clear q1
                 try clear q11
                 try clear q12
                 try clear q129
                 try clear q14
                 try clear q27
                 obtain ⟨x7_4, x9_4, rfl, HA, HK4, HO_4, HO_7, BK125, HB⟩ := hrel
                 have hl7_4 := (Kd.R_reads' HO_7.out).1
                 rw [hl7_4] at HO_7
                 (try simp only [hl7_4])
                 (try simp only [hl7_4] at BK125)
                 (try simp only [hl7_4] at HO_4)
                 cases gk with
                 | zero => exact absurd HA.out (by simp [spec_l5Classes.l3])
                 | succ k4 =>
                  have H := HA.out
                  clear HA
                  simp only [spec_l5Classes.l3] at H
                  by_cases c30 : x9_4 < x8_3
                  ·rw [if_pos c30] at H
                   have c30b0 : decide (x9_4 < x8_3) = true := decide_eq_true c30
                   clear c30
                   replace H := Option.bind_eq_some_iff.mp H
                   obtain ⟨t135, A310, H⟩ := H
                   replace H : (if t135 = true then (if 0 ≤ x8_3 then (if x8_3 < (x7_4.length : Int) then (spec_l5Classes.l2 k4 (l0_0.length : Int) x4_2 x6_2 (x7_4.set (x8_3 : Int).toNat x9_4) (wrap64 (x8_3 + 1)) l0_0 l0_1) else (none)) else (none)) else (spec_l5Classes.l3 k4 (l0_0.length : Int) x4_2 x6_2 x7_4 x8_3 (wrap64 (x9_4 + 1)) l0_0 l0_1)) = some r := H
                   have A31 := Aside0.mk A310
                   clear A310
                   by_cases c32 : t135 = true
                   ·subst c32
                    have H1 : (if 0 ≤ x8_3 then (if x8_3 < (x7_4.length : Int) then (spec_l5Classes.l2 k4 (l0_0.length : Int) x4_2 x6_2 (x7_4.set (x8_3 : Int).toNat x9_4) (wrap64 (x8_3 + 1)) l0_0 l0_1) else (none)) else (none)) = some r := by rw [if_pos rfl] at H; exact H
                    clear H
                    have H := H1
                    clear H1
                    by_cases c33 : 0 ≤ x8_3
                    ·rw [if_pos c33] at H
                     have c33b0 : decide (0 ≤ x8_3) = true := decide_eq_true c33
                     clear c33
                     by_cases c34 : x8_3 < (x7_4.length : Int)
                     ·rw [if_pos c34] at H
                      have c34b0 : decide (x8_3 < (x7_4.length : Int)) = true := decide_eq_true c34
                      clear c34
                      obtain ⟨y136, hy136⟩ : ∃ y_ : List Int, y_ = (x7_4.set (x8_3 : Int).toNat x9_4) := ⟨_, rfl⟩
                      replace H : (spec_l5Classes.l2 k4 (l0_0.length : Int) x4_2 x6_2 y136 (wrap64 (x8_3 + 1)) l0_0 l0_1) = some r := by first | (rw [hy136]; with_reducible exact H) | (have H2_ := (Option.bind_some _ _).symm.trans H; rw [hy136]; with_reducible exact H2_) | (have H2_ := (Option.bind_some _ _).symm.trans H; with_reducible exact H2_) | with_reducible exact H | (rw [hy136]; exact H) | exact H
                      have Ny136 := Aside0.mk hy136
                      clear hy136
                      have H' := Aside0.mk H
                      clear H
                      have hcz36_0 : wr.cell? ⟨gb125, 0, none⟩ = some (.slice A0_0 l0_0.length c0_0) := (blk_cell BK125.out 0).trans rfl
                      have hcz36_1 : wr.cell? ⟨gb125, 1, none⟩ = some (.slice A0_1 l0_1.length c0_1) := (blk_cell BK125.out 1).trans rfl
                      have hfz36_0 := blk_frozen BK125.out 0
                      have hfz36_1 := blk_frozen BK125.out 1
                      obtain ⟨Ao37, co37, eo37⟩ := Kd.R_slice HO_4.out
                      subst eo37
                      go_wp2_with (first | ((with_reducible refine gate_callee (f := 133) rfl ?_); refine goesL_ (some 53) rfl rfl Try.func133 (by kernel_rfl) rfl #[.agg #[.slice A0_0 l0_0.length c0_0, .slice A0_1 l0_1.length c0_1], .slice Ao37 x4_2.length co37, .int .i64 x9_4, .int .i64 x8_3] rfl (by (try simp only [List.map_toArray, List.map_cons, List.map_nil]); first | done | rfl | (simp only [List.length_drop, List.length_take]; rfl)) ?_; (with_reducible refine (spec_l5Same.calls k4 _ _ l0_0 _ _ l0_1 _ _ x4_2 x9_4 x8_3 true _ ?side1 ?side2 ?side3 ?side4 ?side5 ?side6 A31.out).mono ?_); (case side1 => repeat (first | exact (Kd.C_below HR0_0.out HB.out) | (with_reducible refine Kd.C_alloc ?_ _) | (with_reducible refine Kd.C_drewN ?_ _) | (with_reducible refine Kd.C_drew ?_))); (case side2 => exact HC0_0.out); (case side3 => repeat (first | exact (Kd.C_below HR0_1.out HB.out) | (with_reducible refine Kd.C_alloc ?_ _) | (with_reducible refine Kd.C_drewN ?_ _) | (with_reducible refine Kd.C_drew ?_))); (case side4 => exact HC0_1.out); (case side5 => repeat (first | exact (Kd.R_reads' HO_4.out).2.2 | (with_reducible refine Kd.C_alloc ?_ _) | (with_reducible refine Kd.C_drewN ?_ _) | (with_reducible refine Kd.C_drew ?_))); (case side6 => exact (Kd.R_reads' HO_4.out).2.1); rintro e w38 ⟨rfl, hb⟩; refine ⟨_, rfl, ?_⟩; have n0_ := Aside0.mk (Kd.R_below (by (with_reducible repeat (first | apply Kd.R_alloc | apply Kd.R_drewN | apply Kd.R_drew)); exact HO_4.out) hb); have n1_ := Aside0.mk (Kd.R_below (by (with_reducible repeat (first | apply Kd.R_alloc | apply Kd.R_drewN | apply Kd.R_drew)); exact HO_7.out) hb); have n2_ := Aside0.mk (blk_below (g := gb125) (o := .cells #[.slice A0_0 l0_0.length c0_0, .slice A0_1 l0_1.length c0_1] 27 (0, 0)) (by (with_reducible repeat (first | refine blk_drewN ?_ _ | refine blk_drew ?_ | refine blk_alloc ?_ _)); exact BK125.out) hb); have n3_ := Aside0.mk (below_step (by repeat (first | (with_reducible first | exact HB.out | apply below_alloc | apply pw_below_drewN | apply below_drew1 | refine below_set ?_ GE125.out) | exact HB.out)) hb); clear HO_4; clear HO_7; clear BK125; clear HB; have HO_4 := n0_; have HO_7 := n1_; have BK125 := n2_; have HB := n3_; clear n0_ n1_ n2_ n3_; (try clear hb); (try clear hb2); (try clear hk); (try clear hi); have p35 : 0 ≤ (x8_3 : Int) := of_decide_eq_true (by first | (with_reducible assumption) | assumption); have q35 : (x8_3 : Int) < ((x7_4.length : Int) : Int) := of_decide_eq_true (by first | (with_reducible assumption) | assumption); obtain ⟨hx35_0, hf35_0⟩ := Kd.R_celln 0 HO_7.out (x8_3 : Int) p35 q35; replace p35 := eq_true p35; replace q35 := eq_true q35; obtain ⟨hy39_, hz39_⟩ := Kd.R_celln 0 HO_7.out (x8_3 : Int) (of_decide_eq_true (by first | (with_reducible assumption) | assumption)) (of_decide_eq_true (by first | (with_reducible assumption) | assumption)); have HP39 := Kd.R_putg HO_7.out (x8_3 : Int) x9_4) | ((with_reducible refine gate_store (t := 3) (p := 57) rfl ?_); refine store_event (t := 3) (p := 57) (v := ?vo_w40) (w1 := (w38.setCell ⟨go27, (x8_3 : Int).toNat, none⟩ (.int .i64 x9_4))) ?hg ?ho ?hn ?hr ?_; (case ho => rfl); (case hg => rfl); (case hn => rfl); (case hr => first | (go_simp; done) | (go_simp; rfl)); intro w40 hw; have hg : w38.grownBy w40 (some go27) := (by rw [hw]; exact HP39.2); have hp_ : Kd.R (Kd.int .i64) 3 w40 w.heap.size (fun k_ => some k_ ≠ (.slice Ao37 x4_2.length co37 : Value).ownBlock) (.slice (some ⟨go27, 0, none⟩) x7_4.length co27) y136 := (by rw [hw, Ny136.out]; exact HP39.1); clear HP39; have n0_ := Aside0.mk (Kd.R_after (v := (.slice (some ⟨go27, 0, none⟩) x7_4.length co27)) (v1 := (.slice (some ⟨go27, 0, none⟩) x7_4.length co27)) (ok := (fun _ => True)) (by (with_reducible repeat (first | apply Kd.R_alloc | apply Kd.R_drewN | apply Kd.R_drew)); exact Kd.R_mono HO_4.out (fun _ hk => ⟨trivial, hk⟩)) hg (.inl rfl)); have n1_ := Aside0.mk (hp_); have n2_ := Aside0.mk (blk_grown (g := gb125) (o := .cells #[.slice A0_0 l0_0.length c0_0, .slice A0_1 l0_1.length c0_1] 27 (0, 0)) (by (with_reducible repeat (first | refine blk_drewN ?_ _ | refine blk_drew ?_ | refine blk_alloc ?_ _)); exact BK125.out) hg (Kd.R_ne HO_7.out BK125.out (by decide))); have n3_ := Aside0.mk ((by rw [hw]; exact below_set (HB.out) GB27.out : Below w.heap.size w w40)); clear HO_4; clear HO_7; clear BK125; clear HB; have HO_4 := n0_; have HO_7 := n1_; have BK125 := n2_; have HB := n3_; clear n0_ n1_ n2_ n3_; clear hg hw hp_))
                      (try simp only [← hl7_4])
                      go_roundg k4
                      case measure => have := HK1.out; have := HK2.out; have := HK3.out; have := HK4.out; omega
                      case rel => exact ⟨(y136), (wrap64 (x8_3 + 1)), (by first | rfl | (simp; done) | (simp [*]; done)), H', ⟨by have := HK1.out; have := HK2.out; have := HK3.out; have := HK4.out; omega⟩, ⟨by (try simp only [hl7_4]); (with_reducible repeat (first | apply Kd.R_alloc | apply Kd.R_drewN | apply Kd.R_drew)); exact Kd.R_mono HO_4.out (fun _ hk => hk.2)⟩, ⟨by (try simp only [hl7_4]); (with_reducible repeat (first | apply Kd.R_alloc | apply Kd.R_drewN | apply Kd.R_drew)); exact HO_7.out⟩, ⟨by (try simp only [hl7_4]); (with_reducible repeat (first | refine blk_drewN ?_ _ | refine blk_drew ?_ | refine blk_alloc ?_ _)); exact BK125.out⟩, ⟨by repeat (first | (with_reducible first | exact HB.out | apply below_alloc | apply pw_below_drewN | apply below_drew1 | refine below_set ?_ GE125.out) | exact HB.out)⟩⟩
                     ·rw [if_neg c34] at H
                      exact absurd H (by simp)
                    ·rw [if_neg c33] at H
                     exact absurd H (by simp)
                   ·replace c32 := Bool.eq_false_iff.mpr c32
                    subst c32
                    have H1 : (spec_l5Classes.l3 k4 (l0_0.length : Int) x4_2 x6_2 x7_4 x8_3 (wrap64 (x9_4 + 1)) l0_0 l0_1) = some r := by rw [if_neg (show ¬ (false = true) by decide)] at H; exact H
                    clear H
                    have H := H1
                    clear H1
                    have H' := Aside0.mk H
                    clear H
                    have hcz41_0 : wr.cell? ⟨gb125, 0, none⟩ = some (.slice A0_0 l0_0.length c0_0) := (blk_cell BK125.out 0).trans rfl
                    have hcz41_1 : wr.cell? ⟨gb125, 1, none⟩ = some (.slice A0_1 l0_1.length c0_1) := (blk_cell BK125.out 1).trans rfl
                    have hfz41_0 := blk_frozen BK125.out 0
                    have hfz41_1 := blk_frozen BK125.out 1
                    obtain ⟨Ao42, co42, eo42⟩ := Kd.R_slice HO_4.out
                    subst eo42
                    go_wp2_with (first | ((with_reducible refine gate_callee (f := 133) rfl ?_); refine goesL_ (some 53) rfl rfl Try.func133 (by kernel_rfl) rfl #[.agg #[.slice A0_0 l0_0.length c0_0, .slice A0_1 l0_1.length c0_1], .slice Ao42 x4_2.length co42, .int .i64 x9_4, .int .i64 x8_3] rfl (by (try simp only [List.map_toArray, List.map_cons, List.map_nil]); first | done | rfl | (simp only [List.length_drop, List.length_take]; rfl)) ?_; (with_reducible refine (spec_l5Same.calls k4 _ _ l0_0 _ _ l0_1 _ _ x4_2 x9_4 x8_3 false _ ?side1 ?side2 ?side3 ?side4 ?side5 ?side6 A31.out).mono ?_); (case side1 => repeat (first | exact (Kd.C_below HR0_0.out HB.out) | (with_reducible refine Kd.C_alloc ?_ _) | (with_reducible refine Kd.C_drewN ?_ _) | (with_reducible refine Kd.C_drew ?_))); (case side2 => exact HC0_0.out); (case side3 => repeat (first | exact (Kd.C_below HR0_1.out HB.out) | (with_reducible refine Kd.C_alloc ?_ _) | (with_reducible refine Kd.C_drewN ?_ _) | (with_reducible refine Kd.C_drew ?_))); (case side4 => exact HC0_1.out); (case side5 => repeat (first | exact (Kd.R_reads' HO_4.out).2.2 | (with_reducible refine Kd.C_alloc ?_ _) | (with_reducible refine Kd.C_drewN ?_ _) | (with_reducible refine Kd.C_drew ?_))); (case side6 => exact (Kd.R_reads' HO_4.out).2.1); rintro e w43 ⟨rfl, hb⟩; refine ⟨_, rfl, ?_⟩; have n0_ := Aside0.mk (Kd.R_below (by (with_reducible repeat (first | apply Kd.R_alloc | apply Kd.R_drewN | apply Kd.R_drew)); exact HO_4.out) hb); have n1_ := Aside0.mk (Kd.R_below (by (with_reducible repeat (first | apply Kd.R_alloc | apply Kd.R_drewN | apply Kd.R_drew)); exact HO_7.out) hb); have n2_ := Aside0.mk (blk_below (g := gb125) (o := .cells #[.slice A0_0 l0_0.length c0_0, .slice A0_1 l0_1.length c0_1] 27 (0, 0)) (by (with_reducible repeat (first | refine blk_drewN ?_ _ | refine blk_drew ?_ | refine blk_alloc ?_ _)); exact BK125.out) hb); have n3_ := Aside0.mk (below_step (by repeat (first | (with_reducible first | exact HB.out | apply below_alloc | apply pw_below_drewN | apply below_drew1 | refine below_set ?_ GE125.out) | exact HB.out)) hb); clear HO_4; clear HO_7; clear BK125; clear HB; have HO_4 := n0_; have HO_7 := n1_; have BK125 := n2_; have HB := n3_; clear n0_ n1_ n2_ n3_; (try clear hb); (try clear hb2); (try clear hk); (try clear hi)))
                    (try simp only [← hl7_4])
                    go_roundg k4
                    case measure => have := HK1.out; have := HK2.out; have := HK3.out; have := HK4.out; omega
                    case rel => exact ⟨(x7_4), (wrap64 (x9_4 + 1)), (by first | rfl | (simp; done) | (simp [*]; done)), H', ⟨by have := HK1.out; have := HK2.out; have := HK3.out; have := HK4.out; omega⟩, ⟨by (try simp only [hl7_4]); (with_reducible repeat (first | apply Kd.R_alloc | apply Kd.R_drewN | apply Kd.R_drew)); exact HO_4.out⟩, ⟨by (try simp only [hl7_4]); (with_reducible repeat (first | apply Kd.R_alloc | apply Kd.R_drewN | apply Kd.R_drew)); exact HO_7.out⟩, ⟨by (try simp only [hl7_4]); (with_reducible repeat (first | refine blk_drewN ?_ _ | refine blk_drew ?_ | refine blk_alloc ?_ _)); exact BK125.out⟩, ⟨by repeat (first | (with_reducible first | exact HB.out | apply below_alloc | apply pw_below_drewN | apply below_drew1 | refine below_set ?_ GE125.out) | exact HB.out)⟩⟩
                  ·rw [if_neg c30] at H
                   have c30b0 : decide (x9_4 < x8_3) = false := decide_eq_false c30
                   clear c30
                   have H' := Aside0.mk H
                   clear H
                   go_wp2
                   (try simp only [← hl7_4])
                   go_roundg k4
                   case measure => have := HK1.out; have := HK2.out; have := HK3.out; have := HK4.out; omega
                   case rel => exact ⟨(x7_4), (wrap64 (x8_3 + 1)), (by first | rfl | (simp; done) | (simp [*]; done)), H', ⟨by have := HK1.out; have := HK2.out; have := HK3.out; have := HK4.out; omega⟩, ⟨by (try simp only [hl7_4]); (with_reducible repeat (first | apply Kd.R_alloc | apply Kd.R_drewN | apply Kd.R_drew)); exact HO_4.out⟩, ⟨by (try simp only [hl7_4]); (with_reducible repeat (first | apply Kd.R_alloc | apply Kd.R_drewN | apply Kd.R_drew)); exact HO_7.out⟩, ⟨by (try simp only [hl7_4]); (with_reducible repeat (first | refine blk_drewN ?_ _ | refine blk_drew ?_ | refine blk_alloc ?_ _)); exact BK125.out⟩, ⟨by repeat (first | (with_reducible first | exact HB.out | apply below_alloc | apply pw_below_drewN | apply below_drew1 | refine below_set ?_ GE125.out) | exact HB.out)⟩⟩
               ·rw [if_neg c26] at H
                exact absurd H (by simp)
              ·rw [if_neg c25] at H
               exact absurd H (by simp)
             ·rw [if_neg c24] at H
              have c24b0 : decide (x8_3 < (l0_0.length : Int)) = false := decide_eq_false c24
              clear c24
              have H' := Aside0.mk H
              clear H
              go_wp2
              go_roundg k3
              case measure => have := HK1.out; have := HK2.out; have := HK3.out; omega
              case rel => exact ⟨(x7_3), (wrap64 (x6_2 + 1)), (by first | rfl | (simp; done) | (simp [*]; done)), H', ⟨by have := HK1.out; have := HK2.out; have := HK3.out; omega⟩, ⟨by (with_reducible repeat (first | apply Kd.R_alloc | apply Kd.R_drewN | apply Kd.R_drew)); exact Kd.R_mono HO_7.out (fun _ hk => trivial)⟩, ⟨by (with_reducible repeat (first | refine blk_drewN ?_ _ | refine blk_drew ?_ | refine blk_alloc ?_ _)); exact BK125.out⟩, ⟨by repeat (first | (with_reducible first | exact HB.out | apply below_alloc | apply pw_below_drewN | apply below_drew1 | refine below_set ?_ GE125.out) | exact HB.out)⟩⟩
          ·rw [if_neg c21] at H
           exact absurd H (by simp)
         ·rw [if_neg c20] at H
          exact absurd H (by simp)
        ·rw [if_neg c19] at H
         have c19b0 : decide (x6_2 ≤ (l0_0.length : Int)) = false := decide_eq_false c19
         clear c19
         obtain rfl := Option.some.inj H
         simp only [Option.some.injEq, Prod.mk.injEq] at H
         obtain ⟨rfl⟩ := H
         go_wp2
         go_ret
         exact ⟨_, by first | rfl | (simp [errW_none, errW_some] <;> rfl) | (simp [*, errW_none, errW_some] <;> rfl), by (with_reducible repeat (first | apply Kd.R_alloc | apply Kd.R_drewN | apply Kd.R_drew)); exact HO_4.out, by repeat (first | (with_reducible first | exact HB.out | apply below_alloc | apply pw_below_drewN | apply below_drew1 | refine below_set ?_ GE125.out) | exact HB.out)⟩
  ·rw [if_neg c3] at H
   exact absurd H (by simp)
 ·rw [if_neg c2] at H
  exact absurd H (by simp)
end Go.Proofs.Ytogamkblkoobkaa.P
end
section
namespace Go.Proofs.Ytogamkblkoobkaa.Can
open Go.RowKit Go.Proofs.Ytogamkblkoobkaa Go.Proofs.Ytogamkblkoobkaa.P Go.Proofs.Ytogamkblkoobkaa.Lg Go.Proofs.Ytogamkblkoobkaa.Pl Go.Proofs.Ytogamkblkoobkaa.Mp Go.Proofs.Ytogamkblkoobkaa.Bf Go.Proofs.Ytogamkblkoobkaa.Mn Go.Proofs.YtogamkblkoobkaaW.PrintWords Go.Proofs.YtogamkblkoobkaaW.PrintLast Go.Proofs.YtogamkblkoobkaaW.PrintMore
set_option linter.unusedVariables false
set_option linter.unusedSimpArgs false
set_option linter.unusedSectionVars false
def findOf (l : List Int) (x : Int) : Int := if x ∈ l then (l.idxOf x : Int) else -1
theorem find_l0 (l : List Int) (x : Int) (hl : l.length ≤ 2000000) : ∀ d i : Nat, i + d = l.length → x ∉ l.take i → Ev (fun k => spec_l5Find.l0 k l x i) (findOf l x) := by
  intro d
  induction d with
  | zero =>
    intro i h hx
    refine next ?_
    simp only [spec_l5Find.l0, if_neg (show ¬ (i : Int) < (l.length : Int) by omega)]
    rw [List.take_of_length_le (by omega)] at hx
    exact ev_some (by unfold findOf; rw [if_neg hx])
  | succ d ih =>
    intro i h hx
    have hi : i < l.length := by omega
    refine next ?_
    simp only [spec_l5Find.l0, if_pos (show (i : Int) < (l.length : Int) by omega), if_pos (show (0 : Int) ≤ (i : Int) by omega), rd_get l i hi]
    by_cases e : l[i] = x
    · simp only [if_pos e]
      refine ev_some ?_
      have hm : x ∈ l := e ▸ List.getElem_mem hi
      unfold findOf
      rw [if_pos hm]
      have : l.idxOf x = i := by
        conv => lhs; rw [← List.take_append_drop i l, List.drop_eq_getElem_cons hi]
        rw [List.idxOf_append, if_neg hx, e, List.idxOf_cons_self]
        simp
        omega
      rw [this]
    · simp only [if_neg e]
      rw [up1 (by omega)]
      refine ih (i + 1) (by omega) ?_
      rw [List.take_succ_eq_append_getElem hi]
      intro hm
      rcases List.mem_append.mp hm with q | q
      · exact hx q
      · rw [List.mem_singleton] at q
        exact e q.symm
theorem find_ev (l : List Int) (x : Int) (hl : l.length ≤ 2000000) : Ev (fun k => spec_l5Find.f k l x) (findOf l x) := find_l0 l x hl l.length 0 (by omega) (by simp)
def eqAt (nx : List (List Int)) (cl : List Int) (p q : Int) (j : Int) : Bool := rd cl (rd (rowOf nx p) j) == rd cl (rd (rowOf nx q) j)
def sameB (nx : List (List Int)) (cl : List Int) (p q : Int) : Bool := (((rd cl p == rd cl q) && eqAt nx cl p q 0) && eqAt nx cl p q 1) && eqAt nx cl p q 2
theorem sameB_iff {nx : List (List Int)} {cl : List Int} {p q : Int} : sameB nx cl p q = true ↔ rd cl p = rd cl q ∧ ∀ k : Fin 3, rd cl (rd (rowOf nx p) (k.val : Int)) = rd cl (rd (rowOf nx q) (k.val : Int)) := by
  unfold sameB eqAt
  simp only [Bool.and_eq_true, beq_iff_eq]
  constructor
  · rintro ⟨⟨⟨h, h0⟩, h1⟩, h2⟩
    refine ⟨h, fun k => ?_⟩
    match k with
    | 0 => exact h0
    | 1 => exact h1
    | 2 => exact h2
  · rintro ⟨h, hk⟩
    exact ⟨⟨⟨h, hk 0⟩, hk 1⟩, hk 2⟩
section
variable {acc : List Bool} {nx : List (List Int)} {cl : List Int}
theorem same_step (hf : Fits acc nx) (hcl : cl.length = acc.length) {p q : Int} (hp : 0 ≤ p ∧ p < (acc.length : Int)) (hq : 0 ≤ q ∧ q < (acc.length : Int)) (b : Bool) (j : Nat) (hj : j < 3) {r : Bool}
    (h : Ev (fun k => spec_l5Same.l0 k cl p q (b && eqAt nx cl p q j) ((j + 1 : Nat) : Int) acc nx) r) : Ev (fun k => spec_l5Same.l0 k cl p q b (j : Int) acc nx) r := by
  refine next ?_
  have h1 : (rd_L2 nx p).length = 3 ∧ ∀ x ∈ rd_L2 nx p, 0 ≤ x ∧ x < (acc.length : Int) := hf.row p hp
  have h2 : (rd_L2 nx q).length = 3 ∧ ∀ x ∈ rd_L2 nx q, 0 ≤ x ∧ x < (acc.length : Int) := hf.row q hq
  have hl := hf.len
  have e1 := h1.2 _ (rd_mem h1.1 ⟨j, hj⟩)
  have e2 := h2.2 _ (rd_mem h2.1 ⟨j, hj⟩)
  dsimp only at e1 e2
  cases b with
  | true =>
    simp only [spec_l5Same.l0, if_pos (show (j : Int) < 3 by omega), if_pos hp.1, if_pos hq.1, if_pos (show p < (nx.length : Int) by omega), if_pos (show q < (nx.length : Int) by omega), if_pos (show (0 : Int) ≤ (j : Int) by omega), if_pos (show (j : Int) < ((rd_L2 nx p).length : Int) by omega), if_pos (show (j : Int) < ((rd_L2 nx q).length : Int) by omega), if_pos e1.1, if_pos e2.1, if_pos (show rd (rd_L2 nx p) (j : Int) < (cl.length : Int) by omega), if_pos (show rd (rd_L2 nx q) (j : Int) < (cl.length : Int) by omega), if_true]
    rw [up1 (by omega)]
    exact h
  | false =>
    simp only [spec_l5Same.l0, if_pos (show (j : Int) < 3 by omega), if_neg (show ¬ false = true by decide)]
    rw [up1 (by omega)]
    exact h
theorem same_ev (hf : Fits acc nx) (hcl : cl.length = acc.length) {p q : Int} (hp : 0 ≤ p ∧ p < (acc.length : Int)) (hq : 0 ≤ q ∧ q < (acc.length : Int)) : Ev (fun k => spec_l5Same.f k acc nx cl p q) (sameB nx cl p q) := by
  have hl := hf.len
  have h0 : Ev (fun k => spec_l5Same.l0 k cl p q (rd cl p == rd cl q) ((0 : Nat) : Int) acc nx) (sameB nx cl p q) := by
    refine same_step hf hcl hp hq _ 0 (by omega) (same_step hf hcl hp hq _ 1 (by omega) (same_step hf hcl hp hq _ 2 (by omega) ?_))
    refine next ?_
    simp only [spec_l5Same.l0, if_neg (show ¬ ((2 + 1 : Nat) : Int) < 3 by decide)]
    exact ev_some rfl
  refine h0.congr fun k => ?_
  simp only [spec_l5Same.f, if_pos hp.1, if_pos hq.1, if_pos (show p < (cl.length : Int) by omega), if_pos (show q < (cl.length : Int) by omega)]
  rfl
def cl0 (acc : List Bool) : List Int := acc.map fun b => if b = true then 1 else 0
def leastF (nx : List (List Int)) (cl : List Int) (q : Nat) : Int := (((List.range q).find? (fun p : Nat => sameB nx cl (p : Int) (q : Int))).getD q : Nat)
def refS (nx : List (List Int)) (cl : List Int) : List Int := (List.range cl.length).map (leastF nx cl)
def iterS (nx : List (List Int)) : Nat → List Int → List Int
  | 0, cl => cl
  | d + 1, cl => iterS nx d (refS nx cl)
theorem set_at {n i : Nat} (hi : i < n) (A : List Int) (hA : A.length = i) (y : Int) : (A ++ List.replicate (n - i) (0 : Int)).set i y = (A ++ [y]) ++ List.replicate (n - (i + 1)) 0 := by
  have := set_mid A (0 : Int) y (List.replicate (n - (i + 1)) 0)
  rw [hA] at this
  rw [show n - i = (n - (i + 1)) + 1 by omega, List.replicate_succ]
  exact this
theorem cls_l3 (hf : Fits acc nx) (hcl : cl.length = acc.length) (hb : acc.length ≤ 1100000) (t : Int) (X : List Int) (hX : X.length = acc.length) (i : Nat) (hi : i < acc.length) {r : List Int}
    (h : Ev (fun k => spec_l5Classes.l2 k (acc.length : Int) cl t (X.set i (leastF nx cl i)) ((i + 1 : Nat) : Int) acc nx) r) :
    ∀ d p : Nat, p + d = i → (∀ p' : Nat, p' < p → sameB nx cl p' i = false) → Ev (fun k => spec_l5Classes.l3 k (acc.length : Int) cl t (X.set i (i : Int)) (i : Int) (p : Int) acc nx) r := by
  intro d
  induction d with
  | zero =>
    intro p hp hno
    refine next ?_
    simp only [spec_l5Classes.l3, if_neg (show ¬ (p : Int) < (i : Int) by omega)]
    rw [up1 (by omega)]
    have e : leastF nx cl i = (i : Int) := by
      unfold leastF
      have : (List.range i).find? (fun p : Nat => sameB nx cl (p : Int) (i : Int)) = none := by
        rw [List.find?_eq_none]
        intro x hx
        rw [List.mem_range] at hx
        rw [hno x (by omega)]
        decide
      rw [this]
      rfl
    rw [← e]
    exact h
  | succ d ih =>
    intro p hp hno
    refine next ?_
    simp only [spec_l5Classes.l3, if_pos (show (p : Int) < (i : Int) by omega)]
    refine (same_ev hf hcl (p := (p : Int)) (q := (i : Int)) (by omega) (by omega)).bind ?_
    cases hs : sameB nx cl (p : Int) (i : Int) with
    | true =>
      simp only [if_true, if_pos (show (0 : Int) ≤ (i : Int) by omega), if_pos (show (i : Int) < ((X.set i (i : Int)).length : Int) by rw [List.length_set]; omega), Int.toNat_natCast, List.set_set]
      rw [up1 (by omega)]
      have e : leastF nx cl i = (p : Int) := by
        unfold leastF
        have : (List.range i).find? (fun p : Nat => sameB nx cl (p : Int) (i : Int)) = some p := by
          rw [List.find?_eq_some_iff_getElem]
          refine ⟨hs, p, by simp; omega, by simp, fun j hj => ?_⟩
          rw [List.getElem_range, hno j hj]
          rfl
        rw [this]
        rfl
      rw [← e]
      exact h
    | false =>
      simp only [if_neg (show ¬ false = true by decide)]
      rw [up1 (by omega)]
      refine ih (p + 1) (by omega) fun p' hp' => ?_
      by_cases e : p' = p
      · subst e; exact hs
      · exact hno p' (by omega)
theorem cls_l2 (hf : Fits acc nx) (hcl : cl.length = acc.length) (hb : acc.length ≤ 1100000) (t : Nat) (ht : t ≤ 1100000) {r : List Int}
    (h : Ev (fun k => spec_l5Classes.l1 k (acc.length : Int) (refS nx cl) ((t + 1 : Nat) : Int) acc nx) r) :
    ∀ d i : Nat, i + d = acc.length → Ev (fun k => spec_l5Classes.l2 k (acc.length : Int) cl (t : Int) ((List.range i).map (leastF nx cl) ++ List.replicate (acc.length - i) 0) (i : Int) acc nx) r := by
  intro d
  induction d with
  | zero =>
    intro i hi
    refine next ?_
    simp only [spec_l5Classes.l2, if_neg (show ¬ (i : Int) < (acc.length : Int) by omega)]
    rw [up1 (by omega)]
    have e : (List.range i).map (leastF nx cl) ++ List.replicate (acc.length - i) 0 = refS nx cl := by
      unfold refS
      rw [hcl, show i = acc.length by omega]
      simp
    rw [e]
    exact h
  | succ d ih =>
    intro i hi
    refine next ?_
    have hlen : ((List.range i).map (leastF nx cl) ++ List.replicate (acc.length - i) (0 : Int)).length = acc.length := by simp; omega
    simp only [spec_l5Classes.l2, if_pos (show (i : Int) < (acc.length : Int) by omega), if_pos (show (0 : Int) ≤ (i : Int) by omega), if_pos (show (i : Int) < (((List.range i).map (leastF nx cl) ++ List.replicate (acc.length - i) (0 : Int)).length : Int) by omega), Int.toNat_natCast]
    refine cls_l3 hf hcl hb (t : Int) _ hlen i (by omega) ?_ i 0 (by omega) (fun _ h => by omega)
    rw [set_at (by omega) _ (by simp), ← List.map_singleton, ← List.map_append, ← List.range_succ]
    exact ih (i + 1) (by omega)
theorem refS_len (nx : List (List Int)) (cl : List Int) : (refS nx cl).length = cl.length := by simp [refS]
theorem cls_l1 (hf : Fits acc nx) (hb : acc.length ≤ 1100000) : ∀ (d t : Nat) (cl : List Int), cl.length = acc.length → t + d = acc.length + 1 → Ev (fun k => spec_l5Classes.l1 k (acc.length : Int) cl (t : Int) acc nx) (iterS nx d cl) := by
  intro d
  induction d with
  | zero =>
    intro t cl hcl ht
    refine next ?_
    simp only [spec_l5Classes.l1, if_neg (show ¬ (t : Int) ≤ (acc.length : Int) by omega)]
    exact ev_some rfl
  | succ d ih =>
    intro t cl hcl ht
    refine next ?_
    simp only [spec_l5Classes.l1, if_pos (show (t : Int) ≤ (acc.length : Int) by omega), if_pos (show (0 : Int) ≤ (acc.length : Int) by omega), Int.toNat_natCast, if_pos (show acc.length ≤ 35184372088832 by omega)]
    show Ev _ (iterS nx d (refS nx cl))
    have := cls_l2 hf hcl hb t (by omega) (ih (t + 1) (refS nx cl) (by rw [refS_len]; exact hcl) (by omega)) acc.length 0 (by omega)
    simpa using this
theorem cls_l0 (hf : Fits acc nx) (hb : acc.length ≤ 1100000) {r : List Int} (h : Ev (fun k => spec_l5Classes.l1 k (acc.length : Int) (cl0 acc) 0 acc nx) r) :
    ∀ d i : Nat, i + d = acc.length → Ev (fun k => spec_l5Classes.l0 k (acc.length : Int) ((acc.take i).map (fun b => if b = true then (1 : Int) else 0) ++ List.replicate (acc.length - i) 0) (i : Int) acc nx) r := by
  intro d
  induction d with
  | zero =>
    intro i hi
    refine next ?_
    simp only [spec_l5Classes.l0, if_neg (show ¬ (i : Int) < (acc.length : Int) by omega)]
    rw [List.take_of_length_le (by omega), show acc.length - i = 0 by omega]
    simpa [cl0] using h
  | succ d ih =>
    intro i hi
    refine next ?_
    have hii : i < acc.length := by omega
    have hlen : (((acc.take i).map (fun b => if b = true then (1 : Int) else 0) ++ List.replicate (acc.length - i) (0 : Int)).length : Int) = (acc.length : Int) := by simp; omega
    have hs : ∀ y, ((acc.take i).map (fun b => if b = true then (1 : Int) else 0) ++ List.replicate (acc.length - i) (0 : Int)).set i y = ((acc.take i).map (fun b => if b = true then (1 : Int) else 0) ++ [y]) ++ List.replicate (acc.length - (i + 1)) 0 := fun y => set_at hii _ (by simp; omega) y
    have hz := hs 0
    have hsame : ((acc.take i).map (fun b => if b = true then (1 : Int) else 0) ++ List.replicate (acc.length - i) (0 : Int)).set i 0 = (acc.take i).map (fun b => if b = true then (1 : Int) else 0) ++ List.replicate (acc.length - i) (0 : Int) := by
      rw [hz, show acc.length - i = (acc.length - (i + 1)) + 1 by omega, List.replicate_succ]
      simp
    have IH := ih (i + 1) (by omega)
    rw [List.take_succ_eq_append_getElem hii, List.map_append, List.map_singleton] at IH
    simp only [spec_l5Classes.l0, if_pos (show (i : Int) < (acc.length : Int) by omega), if_pos (show (0 : Int) ≤ (i : Int) by omega), rdOf_get false acc i hii]
    rw [up1 (by omega)]
    cases hb2 : acc[i] with
    | true =>
      rw [hb2] at IH
      simp only [if_true] at IH ⊢
      simp only [hlen, if_pos (show (i : Int) < (acc.length : Int) by omega), Int.toNat_natCast, hs]
      exact IH
    | false =>
      rw [hb2] at IH
      simp only [if_neg (show ¬ false = true by decide)] at IH ⊢
      rw [← hsame, hz]
      exact IH
theorem cls_ev (hf : Fits acc nx) (hb : acc.length ≤ 1100000) : Ev (fun k => spec_l5Classes.f k acc nx) (iterS nx (acc.length + 1) (cl0 acc)) := by
  have h1 := cls_l1 hf hb (acc.length + 1) 0 (cl0 acc) (by simp [cl0]) (by omega)
  have h0 := cls_l0 hf hb h1 acc.length 0 (by omega)
  refine h0.congr fun k => ?_
  simp only [spec_l5Classes.f, if_pos (show (0 : Int) ≤ (acc.length : Int) by omega), Int.toNat_natCast, if_pos (show acc.length ≤ 35184372088832 by omega)]
  simp
end
end Go.Proofs.Ytogamkblkoobkaa.Can
end
