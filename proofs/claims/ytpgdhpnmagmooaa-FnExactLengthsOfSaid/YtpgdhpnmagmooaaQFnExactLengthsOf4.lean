/- Texts of the proof of FnExactLengthsOf, put together. No condition. -/
import Derived.Test.YtpgdhpnmagmooaaQFnExactLengthsOf2
import Derived.Test.YtpgdhpnmagmooaaQFnExactLengthsOf3
section
namespace Go.Proofs.Ytpgdhpnmagmooaa.P
open Go.RowKit Go.Proofs.YtpgdhpnmagmooaaW.PrintWords Go.Proofs.YtpgdhpnmagmooaaW.PrintLast Go.Proofs.YtpgdhpnmagmooaaW.PrintMore
attribute [local go_sem] max2_int min2_int max_two min_two max_three min_three max_four min_four
set_option linter.unusedVariables false
set_option linter.unusedSimpArgs false
def laws_eqBoolS.l0 : Nat → List Bool → List Bool → Int → Option (Bool)
  | 0, _, _, _ => none
  | k + 1, x0, x1, x5 => if x5 < (x0.length : Int) then (if 0 ≤ x5 then (if x5 < (x1.length : Int) then (if ((rdOf false x0 x5) != (rdOf false x1 x5)) = true then (some false) else (laws_eqBoolS.l0 k x0 x1 (wrap64 (x5 + 1)))) else (none)) else (none)) else (some true)
def laws_eqBoolS.f (k : Nat) (l0 : List Bool) (l1 : List Bool) : Option (Bool) := if (l0.length : Int) = (l1.length : Int) then (laws_eqBoolS.l0 k l0 l1 0) else (some false)
theorem laws_eqBoolS.mono_l : ∀ k, (∀ y0 y1 y2, LeO (laws_eqBoolS.l0 k y0 y1 y2) (laws_eqBoolS.l0 (k + 1) y0 y1 y2))
  | 0 => fun _ _ _ r h => by simp [laws_eqBoolS.l0] at h
  | k + 1 => by
    have ih0 := laws_eqBoolS.mono_l k
    · intro y0 y1 y2
      unfold laws_eqBoolS.l0
      repeat' first
      | (with_reducible exact ih0 _ _ _)
      | (with_reducible exact LeO.refl _)
      | (with_reducible exact LeO.none _)
      | (with_reducible refine LeO.ite ?_ ?_)
      | (with_reducible refine LeO.bind ?_ (fun _ => ?_))
      | exact ih0 _ _ _
      | exact LeO.none _
      | refine LeO.ite ?_ ?_
      | refine LeO.bind ?_ (fun _ => ?_)
theorem laws_eqBoolS.mono : ∀ a0 a1 k, LeO (laws_eqBoolS.f k a0 a1) (laws_eqBoolS.f (k + 1) a0 a1) := by
  intro a0 a1 k
  have ih0 := laws_eqBoolS.mono_l k
  unfold laws_eqBoolS.f
  repeat' first
      | (with_reducible exact ih0 _ _ _)
      | (with_reducible exact LeO.refl _)
      | (with_reducible exact LeO.none _)
      | (with_reducible refine LeO.ite ?_ ?_)
      | (with_reducible refine LeO.bind ?_ (fun _ => ?_))
      | exact ih0 _ _ _
      | exact LeO.none _
      | refine LeO.ite ?_ ?_
      | refine LeO.bind ?_ (fun _ => ?_)
set_option maxHeartbeats 8000000 in
set_option maxRecDepth 100000 in
theorem laws_eqBoolS.calls (k : Nat) (A0 : Option Addr) (c0 : Nat) (l0 : List Bool) (A1 : Option Addr) (c1 : Nat) (l1 : List Bool) (r : Bool) (w : World) (hr0 : Kd.C Kd.bool w A0 l0.length l0) (hc0 : l0.length ≤ c0) (hr1 : Kd.C Kd.bool w A1 l1.length l1) (hc1 : l1.length ≤ c1) (h : laws_eqBoolS.f k l0 l1 = some r) :
    Calls Try.prog 13 #[.slice A0 l0.length c0, .slice A1 l1.length c1] w fun e w' => e = .returned (.bool r) ∧ Drawn0 w w' := by
  have HR0 := am_ hr0
  have HC0 := am_ hc0
  clear hr0 hc0
  have HR1 := am_ hr1
  have HC1 := am_ hc1
  clear hr1 hc1
  have H : (if (l0.length : Int) = (l1.length : Int) then (laws_eqBoolS.l0 k l0 l1 0) else (some false)) = some r := h
  clear h
  by_cases c3 : (l0.length : Int) = (l1.length : Int)
  · rw [if_pos c3] at H
    have c3b0 : ((l0.length : Int) == (l1.length : Int)) = true := beq_iff_eq.mpr c3
    have c3b1 : ((l0.length : Int) != (l1.length : Int)) = false := bne_eq_false_iff_eq.mpr c3
    have c3b2 : (l0.length == l1.length) = true := by first | simpa using c3 | (simp at c3 ⊢; omega)
    clear c3
    have H' := am_ H
    clear H
    go_enter Try.func13, Try.ntmps13
    go_wp2
    repeat (go_quiet (fail); try go_wp2)
    go_loopg [5] k (fun kq v5 w' => ∃ (aa : Int), v5 = .int .i64 aa ∧ Aside0 (laws_eqBoolS.l0 kq l0 l1 aa = some r) ∧ Aside0 (kq ≤ k) ∧ Drawn0 w w')
    case atStart => exact ⟨(0), (by first | rfl | (simp; done) | (simp [*]; done)), H', ⟨Nat.le_refl _⟩, by repeat (first | exact Drawn0.refl _ | apply Drawn0.step)⟩
    case round =>
      clear H'
      try clear c1
      try clear p2
      try clear c3
      try clear c3b0
      try clear c3b1
      try clear c3b2
      obtain ⟨aa, rfl, HA, HK1, ⟨m1, rfl⟩⟩ := hrel
      cases gk with
      | zero => exact absurd HA.out (by simp [laws_eqBoolS.l0])
      | succ k1 =>
        have H := HA.out
        clear HA
        simp only [laws_eqBoolS.l0] at H
        by_cases c4 : aa < (l0.length : Int)
        · rw [if_pos c4] at H
          have c4b0 : decide (aa < (l0.length : Int)) = true := decide_eq_true c4
          clear c4
          by_cases c5 : 0 ≤ aa
          · rw [if_pos c5] at H
            have c5b0 : decide (0 ≤ aa) = true := decide_eq_true c5
            clear c5
            by_cases c6 : aa < (l1.length : Int)
            · rw [if_pos c6] at H
              have c6b0 : decide (aa < (l1.length : Int)) = true := decide_eq_true c6
              clear c6
              by_cases c7 : ((rdOf false l0 aa) != (rdOf false l1 aa)) = true
              · rw [if_pos c7] at H
                have c7b0 : ((rdOf false l0 aa) != (rdOf false l1 aa)) = true := c7
                (try (have c7b1 : decide ((rdOf false l0 aa) = (rdOf false l1 aa)) = false := by simpa using c7))
                (try (have c7b2 : ((rdOf false l0 aa) == (rdOf false l1 aa)) = false := by simpa using c7))
                (try (have c7b3 : ¬ ((rdOf false l0 aa) = (rdOf false l1 aa)) := by simpa using c7))
                clear c7
                obtain rfl := Option.some.inj H
                simp only [Option.some.injEq, Prod.mk.injEq] at H
                obtain ⟨rfl⟩ := H
                have p230 : 0 ≤ (aa : Int) := of_decide_eq_true ah_
                have q230 : aa < (l0.length : Int) := of_decide_eq_true ah_
                obtain ⟨aJ, e230, aD⟩ := Kd.at_bool HR0.out aa p230 q230
                cases e230
                replace p230 := eq_true p230
                replace q230 := eq_true q230
                have p231 : 0 ≤ (aa : Int) := of_decide_eq_true ah_
                have q231 : aa < (l1.length : Int) := of_decide_eq_true ah_
                obtain ⟨aK, e231, aE⟩ := Kd.at_bool HR1.out aa p231 q231
                cases e231
                replace p231 := eq_true p231
                replace q231 := eq_true q231
                go_wp2
                repeat (go_quiet (fail); try go_wp2)
                go_ret
                exact ⟨by first | rfl | (simp; done) | (simp [*]; done), by repeat (first | exact Drawn0.refl _ | apply Drawn0.step)⟩
              · rw [if_neg c7] at H
                have c7b0 : ((rdOf false l0 aa) != (rdOf false l1 aa)) = false := by simpa using c7
                (try (have c7b1 : decide ((rdOf false l0 aa) = (rdOf false l1 aa)) = true := by simpa using c7))
                (try (have c7b2 : ((rdOf false l0 aa) == (rdOf false l1 aa)) = true := by simpa using c7))
                clear c7
                have H' := am_ H
                clear H
                have p230 : 0 ≤ (aa : Int) := of_decide_eq_true ah_
                have q230 : aa < (l0.length : Int) := of_decide_eq_true ah_
                obtain ⟨aJ, e230, aD⟩ := Kd.at_bool HR0.out aa p230 q230
                cases e230
                replace p230 := eq_true p230
                replace q230 := eq_true q230
                have p231 : 0 ≤ (aa : Int) := of_decide_eq_true ah_
                have q231 : aa < (l1.length : Int) := of_decide_eq_true ah_
                obtain ⟨aK, e231, aE⟩ := Kd.at_bool HR1.out aa p231 q231
                cases e231
                replace p231 := eq_true p231
                replace q231 := eq_true q231
                go_wp2
                repeat (go_quiet (fail); try go_wp2)
                go_roundg k1
                case measure => have := HK1.out; omega
                case rel => exact ⟨(wrap64 (aa + 1)), (by first | rfl | (simp; done) | (simp [*]; done)), H', ⟨by have := HK1.out; omega⟩, by repeat (first | exact Drawn0.refl _ | apply Drawn0.step)⟩
            · rw [if_neg c6] at H
              exact absurd H (by simp)
          · rw [if_neg c5] at H
            exact absurd H (by simp)
        · rw [if_neg c4] at H
          have c4b0 : decide (aa < (l0.length : Int)) = false := decide_eq_false c4
          clear c4
          obtain rfl := Option.some.inj H
          simp only [Option.some.injEq, Prod.mk.injEq] at H
          obtain ⟨rfl⟩ := H
          go_wp2
          repeat (go_quiet (fail); try go_wp2)
          go_ret
          exact ⟨by first | rfl | (simp; done) | (simp [*]; done), by repeat (first | exact Drawn0.refl _ | apply Drawn0.step)⟩
  · rw [if_neg c3] at H
    have c3b0 : ((l0.length : Int) == (l1.length : Int)) = false := beq_eq_false_iff_ne.mpr c3
    have c3b1 : ((l0.length : Int) != (l1.length : Int)) = true := bne_iff_ne.mpr c3
    have c3b2 : (l0.length == l1.length) = false := by first | simpa using c3 | (simp at c3 ⊢; omega)
    obtain rfl := Option.some.inj H
    simp only [Option.some.injEq, Prod.mk.injEq] at H
    obtain ⟨rfl⟩ := H
    go_enter Try.func13, Try.ntmps13
    go_wp2
    repeat (go_quiet (fail); try go_wp2)
    go_ret
    exact ⟨by first | rfl | (simp; done) | (simp [*]; done), by repeat (first | exact Drawn0.refl _ | apply Drawn0.step)⟩
def laws_eqIntS.l0 : Nat → List Int → List Int → Int → Option (Bool)
  | 0, _, _, _ => none
  | k + 1, x0, x1, x5 => if x5 < (x0.length : Int) then (if 0 ≤ x5 then (if x5 < (x1.length : Int) then (if (rd x0 x5) = (rd x1 x5) then (laws_eqIntS.l0 k x0 x1 (wrap64 (x5 + 1))) else (some false)) else (none)) else (none)) else (some true)
def laws_eqIntS.f (k : Nat) (l0 : List Int) (l1 : List Int) : Option (Bool) := if (l0.length : Int) = (l1.length : Int) then (laws_eqIntS.l0 k l0 l1 0) else (some false)
theorem laws_eqIntS.mono_l : ∀ k, (∀ y0 y1 y2, LeO (laws_eqIntS.l0 k y0 y1 y2) (laws_eqIntS.l0 (k + 1) y0 y1 y2))
  | 0 => fun _ _ _ r h => by simp [laws_eqIntS.l0] at h
  | k + 1 => by
    have ih0 := laws_eqIntS.mono_l k
    · intro y0 y1 y2
      unfold laws_eqIntS.l0
      repeat' first
      | (with_reducible exact ih0 _ _ _)
      | (with_reducible exact LeO.refl _)
      | (with_reducible exact LeO.none _)
      | (with_reducible refine LeO.ite ?_ ?_)
      | (with_reducible refine LeO.bind ?_ (fun _ => ?_))
      | exact ih0 _ _ _
      | exact LeO.none _
      | refine LeO.ite ?_ ?_
      | refine LeO.bind ?_ (fun _ => ?_)
theorem laws_eqIntS.mono : ∀ a0 a1 k, LeO (laws_eqIntS.f k a0 a1) (laws_eqIntS.f (k + 1) a0 a1) := by
  intro a0 a1 k
  have ih0 := laws_eqIntS.mono_l k
  unfold laws_eqIntS.f
  repeat' first
      | (with_reducible exact ih0 _ _ _)
      | (with_reducible exact LeO.refl _)
      | (with_reducible exact LeO.none _)
      | (with_reducible refine LeO.ite ?_ ?_)
      | (with_reducible refine LeO.bind ?_ (fun _ => ?_))
      | exact ih0 _ _ _
      | exact LeO.none _
      | refine LeO.ite ?_ ?_
      | refine LeO.bind ?_ (fun _ => ?_)
set_option maxHeartbeats 8000000 in
set_option maxRecDepth 100000 in
theorem laws_eqIntS.calls (k : Nat) (A0 : Option Addr) (c0 : Nat) (l0 : List Int) (A1 : Option Addr) (c1 : Nat) (l1 : List Int) (r : Bool) (w : World) (hr0 : Kd.C (Kd.int .i64) w A0 l0.length l0) (hc0 : l0.length ≤ c0) (hr1 : Kd.C (Kd.int .i64) w A1 l1.length l1) (hc1 : l1.length ≤ c1) (h : laws_eqIntS.f k l0 l1 = some r) :
    Calls Try.prog 54 #[.slice A0 l0.length c0, .slice A1 l1.length c1] w fun e w' => e = .returned (.bool r) ∧ Drawn0 w w' := by
  have HR0 := am_ hr0
  have HC0 := am_ hc0
  clear hr0 hc0
  have HR1 := am_ hr1
  have HC1 := am_ hc1
  clear hr1 hc1
  have H : (if (l0.length : Int) = (l1.length : Int) then (laws_eqIntS.l0 k l0 l1 0) else (some false)) = some r := h
  clear h
  by_cases c3 : (l0.length : Int) = (l1.length : Int)
  · rw [if_pos c3] at H
    have c3b0 : ((l0.length : Int) == (l1.length : Int)) = true := beq_iff_eq.mpr c3
    have c3b1 : ((l0.length : Int) != (l1.length : Int)) = false := bne_eq_false_iff_eq.mpr c3
    have c3b2 : (l0.length == l1.length) = true := by first | simpa using c3 | (simp at c3 ⊢; omega)
    clear c3
    have H' := am_ H
    clear H
    go_enter Try.func54, Try.ntmps54
    go_wp2
    repeat (go_quiet (fail); try go_wp2)
    go_loopg [5] k (fun kq v5 w' => ∃ (aa : Int), v5 = .int .i64 aa ∧ Aside0 (laws_eqIntS.l0 kq l0 l1 aa = some r) ∧ Aside0 (kq ≤ k) ∧ Drawn0 w w')
    case atStart => exact ⟨(0), (by first | rfl | (simp; done) | (simp [*]; done)), H', ⟨Nat.le_refl _⟩, by repeat (first | exact Drawn0.refl _ | apply Drawn0.step)⟩
    case round =>
      clear H'
      try clear c1
      try clear p2
      try clear c3
      try clear c3b0
      try clear c3b1
      try clear c3b2
      obtain ⟨aa, rfl, HA, HK1, ⟨m1, rfl⟩⟩ := hrel
      cases gk with
      | zero => exact absurd HA.out (by simp [laws_eqIntS.l0])
      | succ k1 =>
        have H := HA.out
        clear HA
        simp only [laws_eqIntS.l0] at H
        by_cases c4 : aa < (l0.length : Int)
        · rw [if_pos c4] at H
          have c4b0 : decide (aa < (l0.length : Int)) = true := decide_eq_true c4
          clear c4
          by_cases c5 : 0 ≤ aa
          · rw [if_pos c5] at H
            have c5b0 : decide (0 ≤ aa) = true := decide_eq_true c5
            clear c5
            by_cases c6 : aa < (l1.length : Int)
            · rw [if_pos c6] at H
              have c6b0 : decide (aa < (l1.length : Int)) = true := decide_eq_true c6
              clear c6
              by_cases c7 : (rd l0 aa) = (rd l1 aa)
              · rw [if_pos c7] at H
                have c7b0 : ((rd l0 aa) == (rd l1 aa)) = true := beq_iff_eq.mpr c7
                have c7b1 : ((rd l0 aa) != (rd l1 aa)) = false := bne_eq_false_iff_eq.mpr c7
                clear c7
                have H' := am_ H
                clear H
                have p232 : 0 ≤ (aa : Int) := of_decide_eq_true ah_
                have q232 : aa < (l0.length : Int) := of_decide_eq_true ah_
                obtain ⟨aL, e232, aF⟩ := Kd.at_int HR0.out aa p232 q232
                cases e232
                replace p232 := eq_true p232
                replace q232 := eq_true q232
                have p233 : 0 ≤ (aa : Int) := of_decide_eq_true ah_
                have q233 : aa < (l1.length : Int) := of_decide_eq_true ah_
                obtain ⟨aM, e233, aG⟩ := Kd.at_int HR1.out aa p233 q233
                cases e233
                replace p233 := eq_true p233
                replace q233 := eq_true q233
                go_wp2
                repeat (go_quiet (fail); try go_wp2)
                go_roundg k1
                case measure => have := HK1.out; omega
                case rel => exact ⟨(wrap64 (aa + 1)), (by first | rfl | (simp; done) | (simp [*]; done)), H', ⟨by have := HK1.out; omega⟩, by repeat (first | exact Drawn0.refl _ | apply Drawn0.step)⟩
              · rw [if_neg c7] at H
                have c7b0 : ((rd l0 aa) == (rd l1 aa)) = false := beq_eq_false_iff_ne.mpr c7
                have c7b1 : ((rd l0 aa) != (rd l1 aa)) = true := bne_iff_ne.mpr c7
                obtain rfl := Option.some.inj H
                simp only [Option.some.injEq, Prod.mk.injEq] at H
                obtain ⟨rfl⟩ := H
                have p232 : 0 ≤ (aa : Int) := of_decide_eq_true ah_
                have q232 : aa < (l0.length : Int) := of_decide_eq_true ah_
                obtain ⟨aL, e232, aF⟩ := Kd.at_int HR0.out aa p232 q232
                cases e232
                replace p232 := eq_true p232
                replace q232 := eq_true q232
                have p233 : 0 ≤ (aa : Int) := of_decide_eq_true ah_
                have q233 : aa < (l1.length : Int) := of_decide_eq_true ah_
                obtain ⟨aM, e233, aG⟩ := Kd.at_int HR1.out aa p233 q233
                cases e233
                replace p233 := eq_true p233
                replace q233 := eq_true q233
                go_wp2
                repeat (go_quiet (fail); try go_wp2)
                go_ret
                exact ⟨by first | rfl | (simp; done) | (simp [*]; done), by repeat (first | exact Drawn0.refl _ | apply Drawn0.step)⟩
            · rw [if_neg c6] at H
              exact absurd H (by simp)
          · rw [if_neg c5] at H
            exact absurd H (by simp)
        · rw [if_neg c4] at H
          have c4b0 : decide (aa < (l0.length : Int)) = false := decide_eq_false c4
          clear c4
          obtain rfl := Option.some.inj H
          simp only [Option.some.injEq, Prod.mk.injEq] at H
          obtain ⟨rfl⟩ := H
          go_wp2
          repeat (go_quiet (fail); try go_wp2)
          go_ret
          exact ⟨by first | rfl | (simp; done) | (simp [*]; done), by repeat (first | exact Drawn0.refl _ | apply Drawn0.step)⟩
  · rw [if_neg c3] at H
    have c3b0 : ((l0.length : Int) == (l1.length : Int)) = false := beq_eq_false_iff_ne.mpr c3
    have c3b1 : ((l0.length : Int) != (l1.length : Int)) = true := bne_iff_ne.mpr c3
    have c3b2 : (l0.length == l1.length) = false := by first | simpa using c3 | (simp at c3 ⊢; omega)
    obtain rfl := Option.some.inj H
    simp only [Option.some.injEq, Prod.mk.injEq] at H
    obtain ⟨rfl⟩ := H
    go_enter Try.func54, Try.ntmps54
    go_wp2
    repeat (go_quiet (fail); try go_wp2)
    go_ret
    exact ⟨by first | rfl | (simp; done) | (simp [*]; done), by repeat (first | exact Drawn0.refl _ | apply Drawn0.step)⟩
def laws_eqIntSS.l0 : Nat → List (List Int) → List (List Int) → Int → Option (Bool)
  | 0, _, _, _ => none
  | k + 1, x0, x1, x5 => if x5 < (x0.length : Int) then (if 0 ≤ x5 then (if x5 < (x1.length : Int) then ((laws_eqIntS.f k (rd_L1 x0 x5) (rd_L1 x1 x5)).bind fun aw => (if aw = true then (laws_eqIntSS.l0 k x0 x1 (wrap64 (x5 + 1))) else (some false))) else (none)) else (none)) else (some true)
def laws_eqIntSS.f (k : Nat) (l0 : List (List Int)) (l1 : List (List Int)) : Option (Bool) := if (l0.length : Int) = (l1.length : Int) then (laws_eqIntSS.l0 k l0 l1 0) else (some false)
theorem laws_eqIntSS.mono_l : ∀ k, (∀ y0 y1 y2, LeO (laws_eqIntSS.l0 k y0 y1 y2) (laws_eqIntSS.l0 (k + 1) y0 y1 y2))
  | 0 => fun _ _ _ r h => by simp [laws_eqIntSS.l0] at h
  | k + 1 => by
    have ih0 := laws_eqIntSS.mono_l k
    · intro y0 y1 y2
      unfold laws_eqIntSS.l0
      repeat' first
      | (with_reducible exact ih0 _ _ _)
      | (with_reducible exact laws_eqIntS.mono _ _ _)
      | (with_reducible exact LeO.refl _)
      | (with_reducible exact LeO.none _)
      | (with_reducible refine LeO.ite ?_ ?_)
      | (with_reducible refine LeO.bind ?_ (fun _ => ?_))
      | exact ih0 _ _ _
      | exact laws_eqIntS.mono _ _ _
      | exact LeO.none _
      | refine LeO.ite ?_ ?_
      | refine LeO.bind ?_ (fun _ => ?_)
theorem laws_eqIntSS.mono : ∀ a0 a1 k, LeO (laws_eqIntSS.f k a0 a1) (laws_eqIntSS.f (k + 1) a0 a1) := by
  intro a0 a1 k
  have ih0 := laws_eqIntSS.mono_l k
  unfold laws_eqIntSS.f
  repeat' first
      | (with_reducible exact ih0 _ _ _)
      | (with_reducible exact laws_eqIntS.mono _ _ _)
      | (with_reducible exact LeO.refl _)
      | (with_reducible exact LeO.none _)
      | (with_reducible refine LeO.ite ?_ ?_)
      | (with_reducible refine LeO.bind ?_ (fun _ => ?_))
      | exact ih0 _ _ _
      | exact laws_eqIntS.mono _ _ _
      | exact LeO.none _
      | refine LeO.ite ?_ ?_
      | refine LeO.bind ?_ (fun _ => ?_)
set_option maxHeartbeats 8000000 in
set_option maxRecDepth 100000 in
theorem laws_eqIntSS.calls (k : Nat) (A0 : Option Addr) (c0 : Nat) (l0 : List (List Int)) (A1 : Option Addr) (c1 : Nat) (l1 : List (List Int)) (r : Bool) (w : World) (hr0 : Kd.C (Kd.slice 3 (Kd.int .i64)) w A0 l0.length l0) (hc0 : l0.length ≤ c0) (hr1 : Kd.C (Kd.slice 3 (Kd.int .i64)) w A1 l1.length l1) (hc1 : l1.length ≤ c1) (h : laws_eqIntSS.f k l0 l1 = some r) :
    Calls Try.prog 34 #[.slice A0 l0.length c0, .slice A1 l1.length c1] w fun e w' => e = .returned (.bool r) ∧ Drawn0 w w' := by
  have HR0 := am_ hr0
  have HC0 := am_ hc0
  clear hr0 hc0
  have HR1 := am_ hr1
  have HC1 := am_ hc1
  clear hr1 hc1
  have H : (if (l0.length : Int) = (l1.length : Int) then (laws_eqIntSS.l0 k l0 l1 0) else (some false)) = some r := h
  clear h
  by_cases c3 : (l0.length : Int) = (l1.length : Int)
  · rw [if_pos c3] at H
    have c3b0 : ((l0.length : Int) == (l1.length : Int)) = true := beq_iff_eq.mpr c3
    have c3b1 : ((l0.length : Int) != (l1.length : Int)) = false := bne_eq_false_iff_eq.mpr c3
    have c3b2 : (l0.length == l1.length) = true := by first | simpa using c3 | (simp at c3 ⊢; omega)
    clear c3
    have H' := am_ H
    clear H
    go_enter Try.func34, Try.ntmps34
    go_wp2
    repeat (go_quiet (fail); try go_wp2)
    go_loopg [5] k (fun kq v5 w' => ∃ (aa : Int), v5 = .int .i64 aa ∧ Aside0 (laws_eqIntSS.l0 kq l0 l1 aa = some r) ∧ Aside0 (kq ≤ k) ∧ Drawn0 w w')
    case atStart => exact ⟨(0), (by first | rfl | (simp; done) | (simp [*]; done)), H', ⟨Nat.le_refl _⟩, by repeat (first | exact Drawn0.refl _ | apply Drawn0.step)⟩
    case round =>
      clear H'
      try clear c1
      try clear p2
      try clear c3
      try clear c3b0
      try clear c3b1
      try clear c3b2
      obtain ⟨aa, rfl, HA, HK1, ⟨m1, rfl⟩⟩ := hrel
      cases gk with
      | zero => exact absurd HA.out (by simp [laws_eqIntSS.l0])
      | succ k1 =>
        have H := HA.out
        clear HA
        simp only [laws_eqIntSS.l0] at H
        by_cases c4 : aa < (l0.length : Int)
        · rw [if_pos c4] at H
          have c4b0 : decide (aa < (l0.length : Int)) = true := decide_eq_true c4
          clear c4
          by_cases c5 : 0 ≤ aa
          · rw [if_pos c5] at H
            have c5b0 : decide (0 ≤ aa) = true := decide_eq_true c5
            clear c5
            by_cases c6 : aa < (l1.length : Int)
            · rw [if_pos c6] at H
              have c6b0 : decide (aa < (l1.length : Int)) = true := decide_eq_true c6
              clear c6
              replace H := Option.bind_eq_some_iff.mp H
              obtain ⟨aw, A70, H⟩ := H
              have A7 := am_ A70
              clear A70
              by_cases c8 : aw = true
              · subst c8
                have H1 : (laws_eqIntSS.l0 k1 l0 l1 (wrap64 (aa + 1))) = some r := by rw [if_pos rfl] at H; exact H
                clear H
                have H := H1
                clear H1
                have H' := am_ H
                clear H
                have p234 : 0 ≤ (aa : Int) := of_decide_eq_true ah_
                have q234 : aa < (l0.length : Int) := of_decide_eq_true ah_
                obtain ⟨aN, A234_0, c234_0, e234, aH, hl234_0, hi234_0⟩ := at_L1 HR0.out aa p234 q234
                cases e234
                have ah := am_ hi234_0
                have ai := am_ hl234_0
                clear hi234_0 hl234_0
                replace p234 := eq_true p234
                replace q234 := eq_true q234
                have p235 : 0 ≤ (aa : Int) := of_decide_eq_true ah_
                have q235 : aa < (l1.length : Int) := of_decide_eq_true ah_
                obtain ⟨aO, A235_0, c235_0, e235, aI, hl235_0, hi235_0⟩ := at_L1 HR1.out aa p235 q235
                cases e235
                have aj := am_ hi235_0
                have ak := am_ hl235_0
                clear hi235_0 hl235_0
                replace p235 := eq_true p235
                replace q235 := eq_true q235
                go_wp2_with (first | (go_at_call 54; (with_reducible refine (laws_eqIntS.calls k1 _ _ (rd_L1 l0 aa) _ _ (rd_L1 l1 aa) true _ ?side1 ?side2 ?side3 ?side4 A7.out).mono ?_); (case side1 => exact rc_ ah.out); (case side2 => exact ai.out); (case side3 => exact rc_ aj.out); (case side4 => exact ak.out); rintro e w' ⟨rfl, ⟨nd, rfl⟩⟩; (try first | exact ⟨rfl, _, World.drewN_drewN _ _ _⟩ | exact ⟨rfl, _, Eq.trans (World.drewN_drewN _ _ _) (congrArg (World.drewN _) (Nat.add_assoc _ _ _))⟩)))
                repeat (go_quiet (first | (go_at_call 54; (with_reducible refine (laws_eqIntS.calls k1 _ _ (rd_L1 l0 aa) _ _ (rd_L1 l1 aa) true _ ?side1 ?side2 ?side3 ?side4 A7.out).mono ?_); (case side1 => exact rc_ ah.out); (case side2 => exact ai.out); (case side3 => exact rc_ aj.out); (case side4 => exact ak.out); rintro e w' ⟨rfl, ⟨nd, rfl⟩⟩; (try first | exact ⟨rfl, _, World.drewN_drewN _ _ _⟩ | exact ⟨rfl, _, Eq.trans (World.drewN_drewN _ _ _) (congrArg (World.drewN _) (Nat.add_assoc _ _ _))⟩))); try go_wp2_with (first | (go_at_call 54; (with_reducible refine (laws_eqIntS.calls k1 _ _ (rd_L1 l0 aa) _ _ (rd_L1 l1 aa) true _ ?side1 ?side2 ?side3 ?side4 A7.out).mono ?_); (case side1 => exact rc_ ah.out); (case side2 => exact ai.out); (case side3 => exact rc_ aj.out); (case side4 => exact ak.out); rintro e w' ⟨rfl, ⟨nd, rfl⟩⟩; (try first | exact ⟨rfl, _, World.drewN_drewN _ _ _⟩ | exact ⟨rfl, _, Eq.trans (World.drewN_drewN _ _ _) (congrArg (World.drewN _) (Nat.add_assoc _ _ _))⟩))))
                go_roundg k1
                case measure => have := HK1.out; omega
                case rel => exact ⟨(wrap64 (aa + 1)), (by first | rfl | (simp; done) | (simp [*]; done)), H', ⟨by have := HK1.out; omega⟩, by repeat (first | exact Drawn0.refl _ | apply Drawn0.step)⟩
              · replace c8 := Bool.eq_false_iff.mpr c8
                subst c8
                have H1 : (some false) = some r := by rw [if_neg (show ¬ (false = true) by decide)] at H; exact H
                clear H
                have H := H1
                clear H1
                obtain rfl := Option.some.inj H
                simp only [Option.some.injEq, Prod.mk.injEq] at H
                obtain ⟨rfl⟩ := H
                have p234 : 0 ≤ (aa : Int) := of_decide_eq_true ah_
                have q234 : aa < (l0.length : Int) := of_decide_eq_true ah_
                obtain ⟨aN, A234_0, c234_0, e234, aH, hl234_0, hi234_0⟩ := at_L1 HR0.out aa p234 q234
                cases e234
                have ah := am_ hi234_0
                have ai := am_ hl234_0
                clear hi234_0 hl234_0
                replace p234 := eq_true p234
                replace q234 := eq_true q234
                have p235 : 0 ≤ (aa : Int) := of_decide_eq_true ah_
                have q235 : aa < (l1.length : Int) := of_decide_eq_true ah_
                obtain ⟨aO, A235_0, c235_0, e235, aI, hl235_0, hi235_0⟩ := at_L1 HR1.out aa p235 q235
                cases e235
                have aj := am_ hi235_0
                have ak := am_ hl235_0
                clear hi235_0 hl235_0
                replace p235 := eq_true p235
                replace q235 := eq_true q235
                go_wp2_with (first | (go_at_call 54; (with_reducible refine (laws_eqIntS.calls k1 _ _ (rd_L1 l0 aa) _ _ (rd_L1 l1 aa) false _ ?side1 ?side2 ?side3 ?side4 A7.out).mono ?_); (case side1 => exact rc_ ah.out); (case side2 => exact ai.out); (case side3 => exact rc_ aj.out); (case side4 => exact ak.out); rintro e w' ⟨rfl, ⟨nd, rfl⟩⟩; (try first | exact ⟨rfl, _, World.drewN_drewN _ _ _⟩ | exact ⟨rfl, _, Eq.trans (World.drewN_drewN _ _ _) (congrArg (World.drewN _) (Nat.add_assoc _ _ _))⟩)))
                repeat (go_quiet (first | (go_at_call 54; (with_reducible refine (laws_eqIntS.calls k1 _ _ (rd_L1 l0 aa) _ _ (rd_L1 l1 aa) false _ ?side1 ?side2 ?side3 ?side4 A7.out).mono ?_); (case side1 => exact rc_ ah.out); (case side2 => exact ai.out); (case side3 => exact rc_ aj.out); (case side4 => exact ak.out); rintro e w' ⟨rfl, ⟨nd, rfl⟩⟩; (try first | exact ⟨rfl, _, World.drewN_drewN _ _ _⟩ | exact ⟨rfl, _, Eq.trans (World.drewN_drewN _ _ _) (congrArg (World.drewN _) (Nat.add_assoc _ _ _))⟩))); try go_wp2_with (first | (go_at_call 54; (with_reducible refine (laws_eqIntS.calls k1 _ _ (rd_L1 l0 aa) _ _ (rd_L1 l1 aa) false _ ?side1 ?side2 ?side3 ?side4 A7.out).mono ?_); (case side1 => exact rc_ ah.out); (case side2 => exact ai.out); (case side3 => exact rc_ aj.out); (case side4 => exact ak.out); rintro e w' ⟨rfl, ⟨nd, rfl⟩⟩; (try first | exact ⟨rfl, _, World.drewN_drewN _ _ _⟩ | exact ⟨rfl, _, Eq.trans (World.drewN_drewN _ _ _) (congrArg (World.drewN _) (Nat.add_assoc _ _ _))⟩))))
                go_ret
                exact ⟨by first | rfl | (simp; done) | (simp [*]; done), by repeat (first | exact Drawn0.refl _ | apply Drawn0.step)⟩
            · rw [if_neg c6] at H
              exact absurd H (by simp)
          · rw [if_neg c5] at H
            exact absurd H (by simp)
        · rw [if_neg c4] at H
          have c4b0 : decide (aa < (l0.length : Int)) = false := decide_eq_false c4
          clear c4
          obtain rfl := Option.some.inj H
          simp only [Option.some.injEq, Prod.mk.injEq] at H
          obtain ⟨rfl⟩ := H
          go_wp2
          repeat (go_quiet (fail); try go_wp2)
          go_ret
          exact ⟨by first | rfl | (simp; done) | (simp [*]; done), by repeat (first | exact Drawn0.refl _ | apply Drawn0.step)⟩
  · rw [if_neg c3] at H
    have c3b0 : ((l0.length : Int) == (l1.length : Int)) = false := beq_eq_false_iff_ne.mpr c3
    have c3b1 : ((l0.length : Int) != (l1.length : Int)) = true := bne_iff_ne.mpr c3
    have c3b2 : (l0.length == l1.length) = false := by first | simpa using c3 | (simp at c3 ⊢; omega)
    obtain rfl := Option.some.inj H
    simp only [Option.some.injEq, Prod.mk.injEq] at H
    obtain ⟨rfl⟩ := H
    go_enter Try.func34, Try.ntmps34
    go_wp2
    repeat (go_quiet (fail); try go_wp2)
    go_ret
    exact ⟨by first | rfl | (simp; done) | (simp [*]; done), by repeat (first | exact Drawn0.refl _ | apply Drawn0.step)⟩
def laws_eqDfa.f (k : Nat) (l0_0 : List Bool) (l0_1 : List (List Int)) (l1_0 : List Bool) (l1_1 : List (List Int)) : Option (Bool) := (laws_eqBoolS.f k l0_0 l1_0).bind fun ap => (if ap = true then ((laws_eqIntSS.f k l0_1 l1_1).bind fun ao => (if ao = true then (some true) else (some false))) else (some false))
theorem laws_eqDfa.mono : ∀ a0 a1 a2 a3 k, LeO (laws_eqDfa.f k a0 a1 a2 a3) (laws_eqDfa.f (k + 1) a0 a1 a2 a3) := by
 intro a0 a1 a2 a3 k
 unfold laws_eqDfa.f
 repeat' first
   | (with_reducible exact laws_eqBoolS.mono _ _ _)
   | (with_reducible exact laws_eqIntSS.mono _ _ _)
   | (with_reducible exact LeO.refl _)
   | (with_reducible exact LeO.none _)
   | (with_reducible refine LeO.ite ?_ ?_)
   | (with_reducible refine LeO.bind ?_ (fun _ => ?_))
   | exact laws_eqBoolS.mono _ _ _
   | exact laws_eqIntSS.mono _ _ _
   | exact LeO.none _
   | refine LeO.ite ?_ ?_
   | refine LeO.bind ?_ (fun _ => ?_)
set_option maxHeartbeats 8000000 in
set_option maxRecDepth 100000 in
theorem laws_eqDfa.calls (k : Nat) (A0_0 : Option Addr) (c0_0 : Nat) (l0_0 : List Bool) (A0_1 : Option Addr) (c0_1 : Nat) (l0_1 : List (List Int)) (A1_0 : Option Addr) (c1_0 : Nat) (l1_0 : List Bool) (A1_1 : Option Addr) (c1_1 : Nat) (l1_1 : List (List Int)) (r : Bool) (w : World) (hr0_0 : Kd.C Kd.bool w A0_0 l0_0.length l0_0) (hc0_0 : l0_0.length ≤ c0_0) (hr0_1 : Kd.C (Kd.slice 3 (Kd.int .i64)) w A0_1 l0_1.length l0_1) (hc0_1 : l0_1.length ≤ c0_1) (hr1_0 : Kd.C Kd.bool w A1_0 l1_0.length l1_0) (hc1_0 : l1_0.length ≤ c1_0) (hr1_1 : Kd.C (Kd.slice 3 (Kd.int .i64)) w A1_1 l1_1.length l1_1) (hc1_1 : l1_1.length ≤ c1_1) (h : laws_eqDfa.f k l0_0 l0_1 l1_0 l1_1 = some r) :
  Calls Try.prog 10 #[.agg #[.slice A0_0 l0_0.length c0_0, .slice A0_1 l0_1.length c0_1], .agg #[.slice A1_0 l1_0.length c1_0, .slice A1_1 l1_1.length c1_1]] w fun e w' => e = .returned (.bool r) ∧ Below w.heap.size w w' := by
 have hu28 := Try.underlying28
 have aq := am_ hr0_0
 have ar := am_ hc0_0
 clear hr0_0 hc0_0
 have ax := am_ hr0_1
 have ay := am_ hc0_1
 clear hr0_1 hc0_1
 have au := am_ hr1_0
 have av := am_ hc1_0
 clear hr1_0 hc1_0
 have az := am_ hr1_1
 have aA := am_ hc1_1
 clear hr1_1 hc1_1
 have HB := am_ (Below.refl w.heap.size w)
 have H : ((laws_eqBoolS.f k l0_0 l1_0).bind fun ap => (if ap = true then ((laws_eqIntSS.f k l0_1 l1_1).bind fun ao => (if ao = true then (some true) else (some false))) else (some false))) = some r := h
 clear h
 replace H := Option.bind_eq_some_iff.mp H
 obtain ⟨ap, A30, H⟩ := H
 have A3 := am_ A30
 clear A30
 by_cases c4 : ap = true
 ·subst c4
  have H1 : ((laws_eqIntSS.f k l0_1 l1_1).bind fun ao => (if ao = true then (some true) else (some false))) = some r := by rw [if_pos rfl] at H; exact H
  clear H
  have H := H1
  clear H1
  replace H := Option.bind_eq_some_iff.mp H
  obtain ⟨ao, A50, H⟩ := H
  replace H : (if ao = true then (some true) else (some false)) = some r := H
  have A5 := am_ A50
  clear A50
  by_cases c6 : ao = true
  ·subst c6
   have H1 : (some true) = some r := by rw [if_pos rfl] at H; exact H
   clear H
   have H := H1
   clear H1
   obtain rfl := Option.some.inj H
   simp only [Option.some.injEq, Prod.mk.injEq] at H
   obtain ⟨rfl⟩ := H
   go_enter Try.func10, Try.ntmps10
   go_wp2_with (first | ((with_reducible refine gate_dst (N := 2) rfl ?_); refine box_event ?hg (N := 2) ?hd (cs := #[.slice A0_0 l0_0.length c0_0, .slice A0_1 l0_1.length c0_1]) (t := 28) ?hr ?_; (case hd => rfl); (case hg => rfl); (case hr => first | (go_simp; done) | (go_simp; rfl)); intro ae hg w7 hbox hb; replace ab := am_ (hbox); replace aB := am_ ((by rw [hg]; exact (below_size (b0_ HB.out)) : w.heap.size ≤ ae)); replace ad := am_ ((by rw [hg]; exact (below_size (b0_ HB.out)) : w.heap.size ≤ ae)); replace HB := am_ (below_step (b0_ HB.out) hb); clear hb hbox hg) | ((with_reducible refine gate_dst (N := 3) rfl ?_); refine box_event ?hg (N := 3) ?hd (cs := #[.slice A1_0 l1_0.length c1_0, .slice A1_1 l1_1.length c1_1]) (t := 28) ?hr ?_; (case hd => rfl); (case hg => rfl); (case hr => first | (go_simp; done) | (go_simp; rfl)); intro af hg w8 hbox hb; have n0_ := am_ (blk_below (rb_ ab.out) hb); have n1_ := am_ (below_step (b1_ HB.out ad.out) hb); have n2_ := am_ (hbox); have n3_ := am_ ((by rw [hg]; exact (below_size (b1_ HB.out ad.out)) : w.heap.size ≤ af)); have n4_ := am_ ((by rw [hg]; exact (below_size (b1_ HB.out ad.out)) : w.heap.size ≤ af)); have n5_ := am_ ((by rw [hg]; exact Nat.ne_of_lt (blk_lt (rb_ ab.out)) : ae ≠ af)); have n6_ := am_ ((by rw [hg]; exact Nat.ne_of_gt (blk_lt (rb_ ab.out)) : af ≠ ae)); clear ab; clear HB; have ab := n0_; have HB := n1_; have ag := n2_; have aC := n3_; have an := n4_; have al := n5_; have am := n6_; clear n0_ n1_ n2_ n3_ n4_ n5_ n6_; clear hb hbox hg; have br := al.out; have bs := am.out; have aP := ck_ (v := (.slice A0_0 l0_0.length c0_0)) ab 0 rfl; have aQ := ck_ (v := (.slice A0_1 l0_1.length c0_1)) ab 1 rfl; have aR := blk_frozen ab.out 0; have aS := blk_frozen ab.out 1; have aT := ck_ (v := (.slice A1_0 l1_0.length c1_0)) ag 0 rfl; have aU := ck_ (v := (.slice A1_1 l1_1.length c1_1)) ag 1 rfl; have aV := blk_frozen ag.out 0; have aW := blk_frozen ag.out 1) | ((with_reducible refine gate_callee (f := 13) rfl ?_); refine gL_ (some 9) Try.func13 #[.slice A0_0 l0_0.length c0_0, .slice A1_0 l1_0.length c1_0] ?_; (with_reducible refine (laws_eqBoolS.calls k _ _ l0_0 _ _ l1_0 true _ ?side1 ?side2 ?side3 ?side4 A3.out).mono ?_); (case side1 => exact rc_ (Kd.C_below aq.out HB.out)); (case side2 => exact ar.out); (case side3 => exact rc_ (Kd.C_below au.out HB.out)); (case side4 => exact av.out); rintro e w' ⟨rfl, ⟨nd, rfl⟩⟩; refine ⟨_, rfl, ?_⟩) | ((with_reducible refine gate_callee (f := 34) rfl ?_); refine gL_ (some 15) Try.func34 #[.slice A0_1 l0_1.length c0_1, .slice A1_1 l1_1.length c1_1] ?_; (with_reducible refine (laws_eqIntSS.calls k _ _ l0_1 _ _ l1_1 true _ ?side1 ?side2 ?side3 ?side4 A5.out).mono ?_); (case side1 => exact rc_ (Kd.C_below ax.out (b2_ HB.out ad.out an.out))); (case side2 => exact ay.out); (case side3 => exact rc_ (Kd.C_below az.out (b2_ HB.out ad.out an.out))); (case side4 => exact aA.out); rintro e w' ⟨rfl, ⟨nd, rfl⟩⟩; refine ⟨_, rfl, ?_⟩))
   go_ret
   exact ⟨by first | rfl | (simp [errW_none, errW_some] <;> rfl) | (simp [*, errW_none, errW_some] <;> rfl), by repeat (first | (with_reducible first | exact HB.out | apply below_alloc | apply pw_below_drewN | apply below_drew1 | refine below_set ?_ ad.out | refine below_set ?_ an.out) | exact HB.out)⟩
  ·replace c6 := Bool.eq_false_iff.mpr c6
   subst c6
   have H1 : (some false) = some r := by rw [if_neg (show ¬ (false = true) by decide)] at H; exact H
   clear H
   have H := H1
   clear H1
   obtain rfl := Option.some.inj H
   simp only [Option.some.injEq, Prod.mk.injEq] at H
   obtain ⟨rfl⟩ := H
   go_enter Try.func10, Try.ntmps10
   go_wp2_with (first | ((with_reducible refine gate_dst (N := 2) rfl ?_); refine box_event ?hg (N := 2) ?hd (cs := #[.slice A0_0 l0_0.length c0_0, .slice A0_1 l0_1.length c0_1]) (t := 28) ?hr ?_; (case hd => rfl); (case hg => rfl); (case hr => first | (go_simp; done) | (go_simp; rfl)); intro ae hg w12 hbox hb; replace ab := am_ (hbox); replace aB := am_ ((by rw [hg]; exact (below_size (b0_ HB.out)) : w.heap.size ≤ ae)); replace ad := am_ ((by rw [hg]; exact (below_size (b0_ HB.out)) : w.heap.size ≤ ae)); replace HB := am_ (below_step (b0_ HB.out) hb); clear hb hbox hg) | ((with_reducible refine gate_dst (N := 3) rfl ?_); refine box_event ?hg (N := 3) ?hd (cs := #[.slice A1_0 l1_0.length c1_0, .slice A1_1 l1_1.length c1_1]) (t := 28) ?hr ?_; (case hd => rfl); (case hg => rfl); (case hr => first | (go_simp; done) | (go_simp; rfl)); intro af hg w13 hbox hb; have n0_ := am_ (blk_below (rb_ ab.out) hb); have n1_ := am_ (below_step (b1_ HB.out ad.out) hb); have n2_ := am_ (hbox); have n3_ := am_ ((by rw [hg]; exact (below_size (b1_ HB.out ad.out)) : w.heap.size ≤ af)); have n4_ := am_ ((by rw [hg]; exact (below_size (b1_ HB.out ad.out)) : w.heap.size ≤ af)); have n5_ := am_ ((by rw [hg]; exact Nat.ne_of_lt (blk_lt (rb_ ab.out)) : ae ≠ af)); have n6_ := am_ ((by rw [hg]; exact Nat.ne_of_gt (blk_lt (rb_ ab.out)) : af ≠ ae)); clear ab; clear HB; have ab := n0_; have HB := n1_; have ag := n2_; have aC := n3_; have an := n4_; have al := n5_; have am := n6_; clear n0_ n1_ n2_ n3_ n4_ n5_ n6_; clear hb hbox hg; have bn := al.out; have bo := am.out; have aX := ck_ (v := (.slice A0_0 l0_0.length c0_0)) ab 0 rfl; have aY := ck_ (v := (.slice A0_1 l0_1.length c0_1)) ab 1 rfl; have aZ := blk_frozen ab.out 0; have ba := blk_frozen ab.out 1; have bb := ck_ (v := (.slice A1_0 l1_0.length c1_0)) ag 0 rfl; have bc := ck_ (v := (.slice A1_1 l1_1.length c1_1)) ag 1 rfl; have bd := blk_frozen ag.out 0; have be := blk_frozen ag.out 1) | ((with_reducible refine gate_callee (f := 13) rfl ?_); refine gL_ (some 9) Try.func13 #[.slice A0_0 l0_0.length c0_0, .slice A1_0 l1_0.length c1_0] ?_; (with_reducible refine (laws_eqBoolS.calls k _ _ l0_0 _ _ l1_0 true _ ?side1 ?side2 ?side3 ?side4 A3.out).mono ?_); (case side1 => exact rc_ (Kd.C_below aq.out HB.out)); (case side2 => exact ar.out); (case side3 => exact rc_ (Kd.C_below au.out HB.out)); (case side4 => exact av.out); rintro e w' ⟨rfl, ⟨nd, rfl⟩⟩; refine ⟨_, rfl, ?_⟩) | ((with_reducible refine gate_callee (f := 34) rfl ?_); refine gL_ (some 15) Try.func34 #[.slice A0_1 l0_1.length c0_1, .slice A1_1 l1_1.length c1_1] ?_; (with_reducible refine (laws_eqIntSS.calls k _ _ l0_1 _ _ l1_1 false _ ?side1 ?side2 ?side3 ?side4 A5.out).mono ?_); (case side1 => exact rc_ (Kd.C_below ax.out (b2_ HB.out ad.out an.out))); (case side2 => exact ay.out); (case side3 => exact rc_ (Kd.C_below az.out (b2_ HB.out ad.out an.out))); (case side4 => exact aA.out); rintro e w' ⟨rfl, ⟨nd, rfl⟩⟩; refine ⟨_, rfl, ?_⟩))
   go_ret
   exact ⟨by first | rfl | (simp [errW_none, errW_some] <;> rfl) | (simp [*, errW_none, errW_some] <;> rfl), by repeat (first | (with_reducible first | exact HB.out | apply below_alloc | apply pw_below_drewN | apply below_drew1 | refine below_set ?_ ad.out | refine below_set ?_ an.out) | exact HB.out)⟩
 ·replace c4 := Bool.eq_false_iff.mpr c4
  subst c4
  have H1 : (some false) = some r := by rw [if_neg (show ¬ (false = true) by decide)] at H; exact H
  clear H
  have H := H1
  clear H1
  obtain rfl := Option.some.inj H
  simp only [Option.some.injEq, Prod.mk.injEq] at H
  obtain ⟨rfl⟩ := H
  go_enter Try.func10, Try.ntmps10
  go_wp2_with (first | ((with_reducible refine gate_dst (N := 2) rfl ?_); refine box_event ?hg (N := 2) ?hd (cs := #[.slice A0_0 l0_0.length c0_0, .slice A0_1 l0_1.length c0_1]) (t := 28) ?hr ?_; (case hd => rfl); (case hg => rfl); (case hr => first | (go_simp; done) | (go_simp; rfl)); intro ae hg w17 hbox hb; replace ab := am_ (hbox); replace aB := am_ ((by rw [hg]; exact (below_size (b0_ HB.out)) : w.heap.size ≤ ae)); replace ad := am_ ((by rw [hg]; exact (below_size (b0_ HB.out)) : w.heap.size ≤ ae)); replace HB := am_ (below_step (b0_ HB.out) hb); clear hb hbox hg) | ((with_reducible refine gate_dst (N := 3) rfl ?_); refine box_event ?hg (N := 3) ?hd (cs := #[.slice A1_0 l1_0.length c1_0, .slice A1_1 l1_1.length c1_1]) (t := 28) ?hr ?_; (case hd => rfl); (case hg => rfl); (case hr => first | (go_simp; done) | (go_simp; rfl)); intro af hg w18 hbox hb; have n0_ := am_ (blk_below (rb_ ab.out) hb); have n1_ := am_ (below_step (b1_ HB.out ad.out) hb); have n2_ := am_ (hbox); have n3_ := am_ ((by rw [hg]; exact (below_size (b1_ HB.out ad.out)) : w.heap.size ≤ af)); have n4_ := am_ ((by rw [hg]; exact (below_size (b1_ HB.out ad.out)) : w.heap.size ≤ af)); have n5_ := am_ ((by rw [hg]; exact Nat.ne_of_lt (blk_lt (rb_ ab.out)) : ae ≠ af)); have n6_ := am_ ((by rw [hg]; exact Nat.ne_of_gt (blk_lt (rb_ ab.out)) : af ≠ ae)); clear ab; clear HB; have ab := n0_; have HB := n1_; have ag := n2_; have aC := n3_; have an := n4_; have al := n5_; have am := n6_; clear n0_ n1_ n2_ n3_ n4_ n5_ n6_; clear hb hbox hg; have bp := al.out; have bq := am.out; have bf := ck_ (v := (.slice A0_0 l0_0.length c0_0)) ab 0 rfl; have bg := ck_ (v := (.slice A0_1 l0_1.length c0_1)) ab 1 rfl; have bh := blk_frozen ab.out 0; have bi := blk_frozen ab.out 1; have bj := ck_ (v := (.slice A1_0 l1_0.length c1_0)) ag 0 rfl; have bk := ck_ (v := (.slice A1_1 l1_1.length c1_1)) ag 1 rfl; have bl := blk_frozen ag.out 0; have bm := blk_frozen ag.out 1) | ((with_reducible refine gate_callee (f := 13) rfl ?_); refine gL_ (some 9) Try.func13 #[.slice A0_0 l0_0.length c0_0, .slice A1_0 l1_0.length c1_0] ?_; (with_reducible refine (laws_eqBoolS.calls k _ _ l0_0 _ _ l1_0 false _ ?side1 ?side2 ?side3 ?side4 A3.out).mono ?_); (case side1 => exact rc_ (Kd.C_below aq.out HB.out)); (case side2 => exact ar.out); (case side3 => exact rc_ (Kd.C_below au.out HB.out)); (case side4 => exact av.out); rintro e w' ⟨rfl, ⟨nd, rfl⟩⟩; refine ⟨_, rfl, ?_⟩))
  go_ret
  exact ⟨by first | rfl | (simp [errW_none, errW_some] <;> rfl) | (simp [*, errW_none, errW_some] <;> rfl), by repeat (first | (with_reducible first | exact HB.out | apply below_alloc | apply pw_below_drewN | apply below_drew1 | refine below_set ?_ ad.out | refine below_set ?_ an.out) | exact HB.out)⟩
end Go.Proofs.Ytpgdhpnmagmooaa.P
end
section
namespace Go.Proofs.Ytpgdhpnmagmooaa.P
open Go.RowKit Go.Proofs.YtpgdhpnmagmooaaW.PrintWords Go.Proofs.YtpgdhpnmagmooaaW.PrintLast Go.Proofs.YtpgdhpnmagmooaaW.PrintMore
attribute [local go_sem] max2_int min2_int max_two min_two max_three min_three max_four min_four
set_option linter.unusedVariables false
set_option linter.unusedSimpArgs false
mutual
def spec_IsValidDfa.j0 : Nat → Int → Bool → List Bool → List (List Int) → Option (Bool)
  | 0, _, _, _, _ => none
  | k + 1, x3, x18, al, ae => if x18 = true then (some false) else (spec_IsValidDfa.l0 k x3 0 al ae)
def spec_IsValidDfa.l0 : Nat → Int → Int → List Bool → List (List Int) → Option (Bool)
  | 0, _, _, _, _ => none
  | k + 1, x3, x4, al, ae => if x4 < x3 then (if 0 ≤ x4 then (if x4 < (ae.length : Int) then (if ((rd_L1 ae x4).length : Int) = 3 then (spec_IsValidDfa.l1 k x3 x4 0 al ae) else (some false)) else (none)) else (none)) else (some true)
def spec_IsValidDfa.l1 : Nat → Int → Int → Int → List Bool → List (List Int) → Option (Bool)
  | 0, _, _, _, _, _ => none
  | k + 1, x3, x4, x5, al, ae => if 0 ≤ x4 then (if x4 < (ae.length : Int) then (if x5 < ((rd_L1 ae x4).length : Int) then (if 0 ≤ x5 then ((spec_l1In.f (rd (rd_L1 ae x4) x5) 0 (wrap64 (x3 - 1))).bind fun aF => (if aF = true then (spec_IsValidDfa.l1 k x3 x4 (wrap64 (x5 + 1)) al ae) else (some false))) else (none)) else (spec_IsValidDfa.l0 k x3 (wrap64 (x4 + 1)) al ae)) else (none)) else (none)
end
def spec_IsValidDfa.f (k : Nat) (l0_0 : List Bool) (l0_1 : List (List Int)) : Option (Bool) := (spec_l1In.f (l0_0.length : Int) 1 40).bind fun ar => (if ar = true then (spec_IsValidDfa.j0 k (l0_0.length : Int) ((l0_1.length : Int) != (l0_0.length : Int)) l0_0 l0_1) else (spec_IsValidDfa.j0 k (l0_0.length : Int) true l0_0 l0_1))
theorem spec_IsValidDfa.mono_l : ∀ k, (∀ y0 y1 y2 y3, LeO (spec_IsValidDfa.j0 k y0 y1 y2 y3) (spec_IsValidDfa.j0 (k + 1) y0 y1 y2 y3)) ∧ (∀ y0 y1 y2 y3, LeO (spec_IsValidDfa.l0 k y0 y1 y2 y3) (spec_IsValidDfa.l0 (k + 1) y0 y1 y2 y3)) ∧ (∀ y0 y1 y2 y3 y4, LeO (spec_IsValidDfa.l1 k y0 y1 y2 y3 y4) (spec_IsValidDfa.l1 (k + 1) y0 y1 y2 y3 y4))
 | 0 => ⟨fun _ _ _ _ r h => by simp [spec_IsValidDfa.j0] at h, fun _ _ _ _ r h => by simp [spec_IsValidDfa.l0] at h, fun _ _ _ _ _ r h => by simp [spec_IsValidDfa.l1] at h⟩
 | k + 1 => by
  obtain ⟨ih0, ih1, ih2⟩ := spec_IsValidDfa.mono_l k
  refine ⟨?_, ?_, ?_⟩
  ·intro y0 y1 y2 y3
   unfold spec_IsValidDfa.j0
   repeat' first
   | (with_reducible exact ih0 _ _ _ _)
   | (with_reducible exact ih1 _ _ _ _)
   | (with_reducible exact ih2 _ _ _ _ _)
   | (with_reducible exact LeO.refl _)
   | (with_reducible exact LeO.none _)
   | (with_reducible refine LeO.ite ?_ ?_)
   | (with_reducible refine LeO.bind ?_ (fun _ => ?_))
   | exact ih0 _ _ _ _
   | exact ih1 _ _ _ _
   | exact ih2 _ _ _ _ _
   | exact LeO.none _
   | refine LeO.ite ?_ ?_
   | refine LeO.bind ?_ (fun _ => ?_)
  ·intro y0 y1 y2 y3
   unfold spec_IsValidDfa.l0
   repeat' first
   | (with_reducible exact ih0 _ _ _ _)
   | (with_reducible exact ih1 _ _ _ _)
   | (with_reducible exact ih2 _ _ _ _ _)
   | (with_reducible exact LeO.refl _)
   | (with_reducible exact LeO.none _)
   | (with_reducible refine LeO.ite ?_ ?_)
   | (with_reducible refine LeO.bind ?_ (fun _ => ?_))
   | exact ih0 _ _ _ _
   | exact ih1 _ _ _ _
   | exact ih2 _ _ _ _ _
   | exact LeO.none _
   | refine LeO.ite ?_ ?_
   | refine LeO.bind ?_ (fun _ => ?_)
  ·intro y0 y1 y2 y3 y4
   unfold spec_IsValidDfa.l1
   repeat' first
   | (with_reducible exact ih0 _ _ _ _)
   | (with_reducible exact ih1 _ _ _ _)
   | (with_reducible exact ih2 _ _ _ _ _)
   | (with_reducible exact LeO.refl _)
   | (with_reducible exact LeO.none _)
   | (with_reducible refine LeO.ite ?_ ?_)
   | (with_reducible refine LeO.bind ?_ (fun _ => ?_))
   | exact ih0 _ _ _ _
   | exact ih1 _ _ _ _
   | exact ih2 _ _ _ _ _
   | exact LeO.none _
   | refine LeO.ite ?_ ?_
   | refine LeO.bind ?_ (fun _ => ?_)
theorem spec_IsValidDfa.mono : ∀ a0 a1 k, LeO (spec_IsValidDfa.f k a0 a1) (spec_IsValidDfa.f (k + 1) a0 a1) := by
 intro a0 a1 k
 obtain ⟨ih0, ih1, ih2⟩ := spec_IsValidDfa.mono_l k
 unfold spec_IsValidDfa.f
 repeat' first
   | (with_reducible exact ih0 _ _ _ _)
   | (with_reducible exact ih1 _ _ _ _)
   | (with_reducible exact ih2 _ _ _ _ _)
   | (with_reducible exact LeO.refl _)
   | (with_reducible exact LeO.none _)
   | (with_reducible refine LeO.ite ?_ ?_)
   | (with_reducible refine LeO.bind ?_ (fun _ => ?_))
   | exact ih0 _ _ _ _
   | exact ih1 _ _ _ _
   | exact ih2 _ _ _ _ _
   | exact LeO.none _
   | refine LeO.ite ?_ ?_
   | refine LeO.bind ?_ (fun _ => ?_)
theorem zp2_0_ {p q g1 : Prop} (h : p) (h1 : g1) (c : p → g1 → q := by intro h_ h1_; repeat (first | (with_reducible first | exact h_ | apply below_alloc | apply pw_below_drewN | apply below_drew1 | refine below_set ?_ h1_) | exact h_)) : q := c h h1
set_option maxHeartbeats 8000000 in
set_option maxRecDepth 100000 in
theorem spec_IsValidDfa.calls (k : Nat) (A0_0 : Option Addr) (c0_0 : Nat) (l0_0 : List Bool) (A0_1 : Option Addr) (c0_1 : Nat) (l0_1 : List (List Int)) (r : Bool) (w : World) (hr0_0 : Kd.C Kd.bool w A0_0 l0_0.length l0_0) (hc0_0 : l0_0.length ≤ c0_0) (hr0_1 : Kd.C (Kd.slice 3 (Kd.int .i64)) w A0_1 l0_1.length l0_1) (hc0_1 : l0_1.length ≤ c0_1) (h : spec_IsValidDfa.f k l0_0 l0_1 = some r) :
  Calls Try.prog 24 #[.agg #[.slice A0_0 l0_0.length c0_0, .slice A0_1 l0_1.length c0_1]] w fun e w' => e = .returned (.bool r) ∧ Below w.heap.size w w' := by
 have hu28 := Try.underlying28
 have bf := am_ hr0_0
 have bg := am_ hc0_0
 clear hr0_0 hc0_0
 have am := am_ hr0_1
 have bh := am_ hc0_1
 clear hr0_1 hc0_1
 have HB := am_ (Below.refl w.heap.size w)
 have H : ((spec_l1In.f (l0_0.length : Int) 1 40).bind fun ar => (if ar = true then (spec_IsValidDfa.j0 k (l0_0.length : Int) ((l0_1.length : Int) != (l0_0.length : Int)) l0_0 l0_1) else (spec_IsValidDfa.j0 k (l0_0.length : Int) true l0_0 l0_1))) = some r := h
 clear h
 have HC2 := am_ H
 clear H
 go_enter Try.func24, Try.ntmps24
 go_upto_region 2 with (first | ((with_reducible refine gate_dst (N := 1) rfl ?_); (try (refine gate_guard (by rfl) ?_; dsimp only)); refine box_event ?hg (N := 1) ?hd (cs := #[.slice A0_0 l0_0.length c0_0, .slice A0_1 l0_1.length c0_1]) (t := 28) ?hr ?_; (case hd => rfl); (case hg => rfl); (case hr => first | (go_simp; done) | (go_simp; rfl)); intro an hg w3 hbox hb; replace ab := am_ (hbox); replace bi := am_ ((by rw [hg]; exact (below_size (b0_ HB.out)) : w.heap.size ≤ an)); replace aj := am_ ((by rw [hg]; exact (below_size (b0_ HB.out)) : w.heap.size ≤ an)); replace HB := am_ (below_step (b0_ HB.out) hb); clear hb hbox hg; have au := ck_ (v := (.slice A0_0 l0_0.length c0_0)) ab 0 rfl; have av := ck_ (v := (.slice A0_1 l0_1.length c0_1)) ab 1 rfl; have aw := blk_frozen ab.out 0; have ax := blk_frozen ab.out 1))
 (try simp only [Act.put, List.setIfInBounds_toArray, List.set_cons_zero, List.set_cons_succ])
 go_cut [18] (fun v18 wc => ∃ (kq : Nat) (aq : Bool), v18 = .bool aq ∧ Aside0 (spec_IsValidDfa.j0 kq (l0_0.length : Int) aq l0_0 l0_1 = some r) ∧ Aside0 (kq ≤ k) ∧ Aside0 (wc.heap[an]? = some (.cells #[(.slice A0_0 l0_0.length c0_0), (.slice A0_1 l0_1.length c0_1)] 28 (0, 0))) ∧ Aside0 (Below w.heap.size w wc))
 case first =>
  have H := HC2.out
  clear HC2
  replace H := Option.bind_eq_some_iff.mp H
  obtain ⟨ar, A50, H⟩ := H
  have A5 := am_ A50
  clear A50
  by_cases c6 : ar = true
  ·subst c6
   have H1 : (spec_IsValidDfa.j0 k (l0_0.length : Int) ((l0_1.length : Int) != (l0_0.length : Int)) l0_0 l0_1) = some r := by rw [if_pos rfl] at H; exact H
   clear H
   have H := H1
   clear H1
   have H' := am_ H
   clear H
   go_wp2_with (first | ((with_reducible refine gate_callee (f := 47) rfl ?_); refine gL_ (some 10) Try.func47 #[.int .i64 (l0_0.length : Int), .int .i64 1, .int .i64 40] ?_; (with_reducible refine (spec_l1In.calls (l0_0.length : Int) 1 40 true _ A5.out).mono ?_); rintro e w' ⟨rfl, ⟨nd, rfl⟩⟩; refine ⟨_, rfl, ?_⟩; have ay := ck_ (v := (.slice A0_0 l0_0.length c0_0)) ab 0 rfl; have az := ck_ (v := (.slice A0_1 l0_1.length c0_1)) ab 1 rfl; have aA := blk_frozen ab.out 0; have aB := blk_frozen ab.out 1))
   go_meet
   case rel => exact ⟨_, (((l0_1.length : Int) != (l0_0.length : Int))), (by first | rfl | (simp; done) | (simp [*]; done)), H', ⟨by first | omega | exact Nat.le_refl _⟩, ⟨by refine rb_ ?_; exact ab.out⟩, ⟨by exact zp2_0_ HB.out aj.out⟩⟩
  ·replace c6 := Bool.eq_false_iff.mpr c6
   subst c6
   have H1 : (spec_IsValidDfa.j0 k (l0_0.length : Int) true l0_0 l0_1) = some r := by rw [if_neg (show ¬ (false = true) by decide)] at H; exact H
   clear H
   have H := H1
   clear H1
   have H' := am_ H
   clear H
   go_wp2_with (first | ((with_reducible refine gate_callee (f := 47) rfl ?_); refine gL_ (some 10) Try.func47 #[.int .i64 (l0_0.length : Int), .int .i64 1, .int .i64 40] ?_; (with_reducible refine (spec_l1In.calls (l0_0.length : Int) 1 40 false _ A5.out).mono ?_); rintro e w' ⟨rfl, ⟨nd, rfl⟩⟩; refine ⟨_, rfl, ?_⟩))
   go_meet
   case rel => exact ⟨_, (true), (by first | rfl | (simp; done) | (simp [*]; done)), H', ⟨by first | omega | exact Nat.le_refl _⟩, ⟨by refine rb_ ?_; exact ab.out⟩, ⟨by exact zp2_0_ HB.out aj.out⟩⟩
 case rest =>
  clear HC2
  try clear c2
  try clear p2
  try clear c4
  try clear c6
  try clear au
  try clear av
  try clear ay
  try clear az
  try clear aw
  try clear ax
  try clear aA
  try clear aB
  obtain ⟨kq, aq, rfl, HA, HJ1, ab, HB⟩ := hcut
  cases kq with
  | zero => exact absurd HA.out (by simp [spec_IsValidDfa.j0])
  | succ kj1 =>
   have H := HA.out
   clear HA
   simp only [spec_IsValidDfa.j0] at H
   by_cases c8 : aq = true
   ·subst c8
    have H1 : (some false) = some r := by rw [if_pos rfl] at H; exact H
    clear H
    have H := H1
    clear H1
    obtain rfl := Option.some.inj H
    simp only [Option.some.injEq, Prod.mk.injEq] at H
    obtain ⟨rfl⟩ := H
    go_wp2
    go_ret
    exact ⟨by first | rfl | (simp [errW_none, errW_some] <;> rfl) | (simp [*, errW_none, errW_some] <;> rfl), by exact zp2_0_ HB.out aj.out⟩
   ·replace c8 := Bool.eq_false_iff.mpr c8
    subst c8
    have H1 : (spec_IsValidDfa.l0 kj1 (l0_0.length : Int) 0 l0_0 l0_1) = some r := by rw [if_neg (show ¬ (false = true) by decide)] at H; exact H
    clear H
    have H := H1
    clear H1
    have H' := am_ H
    clear H
    go_wp2
    go_loopg [4] kj1 (fun kq v4 w' => ∃ (aa : Int), v4 = .int .i64 aa ∧ Aside0 (spec_IsValidDfa.l0 kq (l0_0.length : Int) aa l0_0 l0_1 = some r) ∧ Aside0 (kq ≤ kj1) ∧ Aside0 (w'.heap[an]? = some (.cells #[(.slice A0_0 l0_0.length c0_0), (.slice A0_1 l0_1.length c0_1)] 28 (0, 0))) ∧ Aside0 (Below w.heap.size w w'))
    case atStart => exact ⟨(0), (by first | rfl | (simp; done) | (simp [*]; done)), H', ⟨Nat.le_refl _⟩, ⟨by refine rb_ ?_; exact ab.out⟩, ⟨by exact zp2_0_ HB.out aj.out⟩⟩
    case round =>
     clear H'
     try clear c2
     try clear p2
     try clear c4
     try clear c6
     try clear c8
     try clear au
     try clear av
     try clear ay
     try clear az
     try clear aw
     try clear ax
     try clear aA
     try clear aB
     try clear p2
     obtain ⟨aa, rfl, HA, HK2, ab, HB⟩ := hrel
     cases gk with
     | zero => exact absurd HA.out (by simp [spec_IsValidDfa.l0])
     | succ k2 =>
      have H := HA.out
      clear HA
      simp only [spec_IsValidDfa.l0] at H
      by_cases c9 : aa < (l0_0.length : Int)
      ·rw [if_pos c9] at H
       have c9b0 : decide (aa < (l0_0.length : Int)) = true := decide_eq_true c9
       clear c9
       by_cases c10 : 0 ≤ aa
       ·rw [if_pos c10] at H
        have c10b0 : decide (0 ≤ aa) = true := decide_eq_true c10
        clear c10
        by_cases c11 : aa < (l0_1.length : Int)
        ·rw [if_pos c11] at H
         have c11b0 : decide (aa < (l0_1.length : Int)) = true := decide_eq_true c11
         clear c11
         by_cases c12 : ((rd_L1 l0_1 aa).length : Int) = 3
         ·rw [if_pos c12] at H
          have c12b0 : (((rd_L1 l0_1 aa).length : Int) == 3) = true := beq_iff_eq.mpr c12
          have c12b1 : (((rd_L1 l0_1 aa).length : Int) != 3) = false := bne_eq_false_iff_eq.mpr c12
          clear c12
          have H' := am_ H
          clear H
          have aG := ck_ (v := (.slice A0_0 l0_0.length c0_0)) ab 0 rfl
          have aH := ck_ (v := (.slice A0_1 l0_1.length c0_1)) ab 1 rfl
          have aI := blk_frozen ab.out 0
          have aJ := blk_frozen ab.out 1
          have p113 : 0 ≤ (aa : Int) := of_decide_eq_true ah_
          have q113 : aa < (l0_1.length : Int) := of_decide_eq_true ah_
          obtain ⟨ak, A113_0, c113_0, e113, ah, hl113_0, hi113_0⟩ := at_L1 am.out aa p113 q113
          cases e113
          replace ah := (HB.out.cell (World.block_lt_of_cell? w _ ah)).trans ah
          have aK := am_ hi113_0
          have aL := am_ hl113_0
          clear hi113_0 hl113_0
          replace p113 := eq_true p113
          replace q113 := eq_true q113
          go_wp2
          go_loopg [5] k2 (fun kq v5 w' => ∃ (af : Int), v5 = .int .i64 af ∧ Aside0 (spec_IsValidDfa.l1 kq (l0_0.length : Int) aa af l0_0 l0_1 = some r) ∧ Aside0 (kq ≤ k2) ∧ Aside0 (w'.heap[an]? = some (.cells #[(.slice A0_0 l0_0.length c0_0), (.slice (some ak) l0_1.length c0_1)] 28 (0, 0))) ∧ Aside0 (Below w.heap.size w w'))
          case atStart => exact ⟨(0), (by first | rfl | (simp; done) | (simp [*]; done)), H', ⟨Nat.le_refl _⟩, ⟨by refine rb_ ?_; exact ab.out⟩, ⟨by exact zp2_0_ HB.out aj.out⟩⟩
          case round =>
           clear H'
           try clear c1
           try clear p1
           try clear q1
           try clear hx1
           try clear c2
           try clear p2
           try clear c4
           try clear c6
           try clear c8
           try clear c9
           try clear c9b0
           try clear c10
           try clear c10b0
           try clear c11
           try clear c11b0
           try clear p11
           try clear q11
           try clear hx11
           try clear c12
           try clear c12b0
           try clear c12b1
           try clear aG
           try clear aH
           try clear au
           try clear av
           try clear ay
           try clear az
           try clear aI
           try clear aJ
           try clear aw
           try clear ax
           try clear aA
           try clear aB
           try clear ah
           try clear p113
           try clear p2
           try clear q113
           obtain ⟨af, rfl, HA, HK3, ab, HB⟩ := hrel
           cases gk with
           | zero => exact absurd HA.out (by simp [spec_IsValidDfa.l1])
           | succ k3 =>
            have H := HA.out
            clear HA
            simp only [spec_IsValidDfa.l1] at H
            by_cases c14 : 0 ≤ aa
            ·rw [if_pos c14] at H
             have c14b0 : decide (0 ≤ aa) = true := decide_eq_true c14
             clear c14
             by_cases c15 : aa < (l0_1.length : Int)
             ·rw [if_pos c15] at H
              have c15b0 : decide (aa < (l0_1.length : Int)) = true := decide_eq_true c15
              clear c15
              by_cases c16 : af < ((rd_L1 l0_1 aa).length : Int)
              ·rw [if_pos c16] at H
               have c16b0 : decide (af < ((rd_L1 l0_1 aa).length : Int)) = true := decide_eq_true c16
               clear c16
               by_cases c17 : 0 ≤ af
               ·rw [if_pos c17] at H
                have c17b0 : decide (0 ≤ af) = true := decide_eq_true c17
                clear c17
                replace H := Option.bind_eq_some_iff.mp H
                obtain ⟨aF, aN, H⟩ := H
                have A18 := am_ aN
                clear aN
                by_cases c19 : aF = true
                ·subst c19
                 have H1 : (spec_IsValidDfa.l1 k3 (l0_0.length : Int) aa (wrap64 (af + 1)) l0_0 l0_1) = some r := by rw [if_pos rfl] at H; exact H
                 clear H
                 have H := H1
                 clear H1
                 have H' := am_ H
                 clear H
                 have aP := ck_ (v := (.slice A0_0 l0_0.length c0_0)) ab 0 rfl
                 have aQ := ck_ (v := (.slice (some ak) l0_1.length c0_1)) ab 1 rfl
                 have aR := blk_frozen ab.out 0
                 have aS := blk_frozen ab.out 1
                 have p114 : 0 ≤ (aa : Int) := of_decide_eq_true ah_
                 have q114 : aa < (l0_1.length : Int) := of_decide_eq_true ah_
                 obtain ⟨ao, A114_0, c114_0, e114, ad, hl114_0, hi114_0⟩ := at_L1 am.out aa p114 q114
                 obtain rfl : ak = ao := (by injection e114)
                 replace ad := (HB.out.cell (World.block_lt_of_cell? w _ ad)).trans ad
                 have aC := am_ hi114_0
                 have aD := am_ hl114_0
                 clear hi114_0 hl114_0
                 replace p114 := eq_true p114
                 replace q114 := eq_true q114
                 have p115 : 0 ≤ (aa : Int) := of_decide_eq_true ah_
                 have q115 : aa < (l0_1.length : Int) := of_decide_eq_true ah_
                 obtain ⟨aE, A115_0, c115_0, e115, ag, hl115_0, hi115_0⟩ := at_L1 am.out aa p115 q115
                 obtain rfl : ak = aE := (by injection e115)
                 replace ag := (HB.out.cell (World.block_lt_of_cell? w _ ag)).trans ag
                 have ap := am_ hi115_0
                 have aM := am_ hl115_0
                 clear hi115_0 hl115_0
                 replace p115 := eq_true p115
                 replace q115 := eq_true q115
                 have ea_ := Option.some.inj (ad.symm.trans ag)
                 injection ea_ with ea_ en_ ec_
                 subst ea_
                 subst ec_
                 clear en_
                 have p116 : 0 ≤ (af : Int) := of_decide_eq_true ah_
                 have q116 : af < ((rd_L1 l0_1 aa).length : Int) := of_decide_eq_true ah_
                 obtain ⟨aO, e116, ai⟩ := Kd.at_int ap.out af p116 q116
                 cases e116
                 replace ai := (HB.out.cell (World.block_lt_of_cell? w _ ai)).trans ai
                 replace p116 := eq_true p116
                 replace q116 := eq_true q116
                 go_wp2_with (first | ((with_reducible refine gate_callee (f := 47) rfl ?_); refine gL_ (some 51) Try.func47 #[.int .i64 (rd (rd_L1 l0_1 aa) af), .int .i64 0, .int .i64 (wrap64 ((l0_0.length : Int) - 1))] ?_; (with_reducible refine (spec_l1In.calls (rd (rd_L1 l0_1 aa) af) 0 (wrap64 ((l0_0.length : Int) - 1)) true _ A18.out).mono ?_); rintro e w' ⟨rfl, ⟨nd, rfl⟩⟩; refine ⟨_, rfl, ?_⟩))
                 go_roundg k3
                 case measure => have := HJ1.out; have := HK2.out; have := HK3.out; omega
                 case rel => exact ⟨(wrap64 (af + 1)), (by first | rfl | (simp; done) | (simp [*]; done)), H', ⟨by have := HJ1.out; have := HK2.out; have := HK3.out; omega⟩, ⟨by refine rb_ ?_; exact ab.out⟩, ⟨by exact zp2_0_ HB.out aj.out⟩⟩
                ·replace c19 := Bool.eq_false_iff.mpr c19
                 subst c19
                 have H1 : (some false) = some r := by rw [if_neg (show ¬ (false = true) by decide)] at H; exact H
                 clear H
                 have H := H1
                 clear H1
                 obtain rfl := Option.some.inj H
                 simp only [Option.some.injEq, Prod.mk.injEq] at H
                 obtain ⟨rfl⟩ := H
                 have aT := ck_ (v := (.slice A0_0 l0_0.length c0_0)) ab 0 rfl
                 have aU := ck_ (v := (.slice (some ak) l0_1.length c0_1)) ab 1 rfl
                 have aV := blk_frozen ab.out 0
                 have aW := blk_frozen ab.out 1
                 have p114 : 0 ≤ (aa : Int) := of_decide_eq_true ah_
                 have q114 : aa < (l0_1.length : Int) := of_decide_eq_true ah_
                 obtain ⟨ao, A114_0, c114_0, e114, ad, hl114_0, hi114_0⟩ := at_L1 am.out aa p114 q114
                 obtain rfl : ak = ao := (by injection e114)
                 replace ad := (HB.out.cell (World.block_lt_of_cell? w _ ad)).trans ad
                 have aC := am_ hi114_0
                 have aD := am_ hl114_0
                 clear hi114_0 hl114_0
                 replace p114 := eq_true p114
                 replace q114 := eq_true q114
                 have p115 : 0 ≤ (aa : Int) := of_decide_eq_true ah_
                 have q115 : aa < (l0_1.length : Int) := of_decide_eq_true ah_
                 obtain ⟨aE, A115_0, c115_0, e115, ag, hl115_0, hi115_0⟩ := at_L1 am.out aa p115 q115
                 obtain rfl : ak = aE := (by injection e115)
                 replace ag := (HB.out.cell (World.block_lt_of_cell? w _ ag)).trans ag
                 have ap := am_ hi115_0
                 have aM := am_ hl115_0
                 clear hi115_0 hl115_0
                 replace p115 := eq_true p115
                 replace q115 := eq_true q115
                 have ea_ := Option.some.inj (ad.symm.trans ag)
                 injection ea_ with ea_ en_ ec_
                 subst ea_
                 subst ec_
                 clear en_
                 have p116 : 0 ≤ (af : Int) := of_decide_eq_true ah_
                 have q116 : af < ((rd_L1 l0_1 aa).length : Int) := of_decide_eq_true ah_
                 obtain ⟨aO, e116, ai⟩ := Kd.at_int ap.out af p116 q116
                 cases e116
                 replace ai := (HB.out.cell (World.block_lt_of_cell? w _ ai)).trans ai
                 replace p116 := eq_true p116
                 replace q116 := eq_true q116
                 go_wp2_with (first | ((with_reducible refine gate_callee (f := 47) rfl ?_); refine gL_ (some 51) Try.func47 #[.int .i64 (rd (rd_L1 l0_1 aa) af), .int .i64 0, .int .i64 (wrap64 ((l0_0.length : Int) - 1))] ?_; (with_reducible refine (spec_l1In.calls (rd (rd_L1 l0_1 aa) af) 0 (wrap64 ((l0_0.length : Int) - 1)) false _ A18.out).mono ?_); rintro e w' ⟨rfl, ⟨nd, rfl⟩⟩; refine ⟨_, rfl, ?_⟩))
                 go_ret
                 exact ⟨by first | rfl | (simp [errW_none, errW_some] <;> rfl) | (simp [*, errW_none, errW_some] <;> rfl), by exact zp2_0_ HB.out aj.out⟩
               ·rw [if_neg c17] at H
                exact absurd H (by simp)
              ·rw [if_neg c16] at H
               have c16b0 : decide (af < ((rd_L1 l0_1 aa).length : Int)) = false := decide_eq_false c16
               clear c16
               have H' := am_ H
               clear H
               have aX := ck_ (v := (.slice A0_0 l0_0.length c0_0)) ab 0 rfl
               have aY := ck_ (v := (.slice (some ak) l0_1.length c0_1)) ab 1 rfl
               have aZ := blk_frozen ab.out 0
               have ba := blk_frozen ab.out 1
               have p114 : 0 ≤ (aa : Int) := of_decide_eq_true ah_
               have q114 : aa < (l0_1.length : Int) := of_decide_eq_true ah_
               obtain ⟨ao, A114_0, c114_0, e114, ad, hl114_0, hi114_0⟩ := at_L1 am.out aa p114 q114
               obtain rfl : ak = ao := (by injection e114)
               replace ad := (HB.out.cell (World.block_lt_of_cell? w _ ad)).trans ad
               have aC := am_ hi114_0
               have aD := am_ hl114_0
               clear hi114_0 hl114_0
               replace p114 := eq_true p114
               replace q114 := eq_true q114
               go_wp2
               go_roundg k3
               case measure => have := HJ1.out; have := HK2.out; have := HK3.out; omega
               case rel => exact ⟨(wrap64 (aa + 1)), (by first | rfl | (simp; done) | (simp [*]; done)), H', ⟨by have := HJ1.out; have := HK2.out; have := HK3.out; omega⟩, ⟨by refine rb_ ?_; exact ab.out⟩, ⟨by exact zp2_0_ HB.out aj.out⟩⟩
             ·rw [if_neg c15] at H
              exact absurd H (by simp)
            ·rw [if_neg c14] at H
             exact absurd H (by simp)
         ·rw [if_neg c12] at H
          have c12b0 : (((rd_L1 l0_1 aa).length : Int) == 3) = false := beq_eq_false_iff_ne.mpr c12
          have c12b1 : (((rd_L1 l0_1 aa).length : Int) != 3) = true := bne_iff_ne.mpr c12
          obtain rfl := Option.some.inj H
          simp only [Option.some.injEq, Prod.mk.injEq] at H
          obtain ⟨rfl⟩ := H
          have bb := ck_ (v := (.slice A0_0 l0_0.length c0_0)) ab 0 rfl
          have bc := ck_ (v := (.slice A0_1 l0_1.length c0_1)) ab 1 rfl
          have bd := blk_frozen ab.out 0
          have be := blk_frozen ab.out 1
          have p113 : 0 ≤ (aa : Int) := of_decide_eq_true ah_
          have q113 : aa < (l0_1.length : Int) := of_decide_eq_true ah_
          obtain ⟨ak, A113_0, c113_0, e113, ah, hl113_0, hi113_0⟩ := at_L1 am.out aa p113 q113
          cases e113
          replace ah := (HB.out.cell (World.block_lt_of_cell? w _ ah)).trans ah
          have aK := am_ hi113_0
          have aL := am_ hl113_0
          clear hi113_0 hl113_0
          replace p113 := eq_true p113
          replace q113 := eq_true q113
          go_wp2
          go_ret
          exact ⟨by first | rfl | (simp [errW_none, errW_some] <;> rfl) | (simp [*, errW_none, errW_some] <;> rfl), by exact zp2_0_ HB.out aj.out⟩
        ·rw [if_neg c11] at H
         exact absurd H (by simp)
       ·rw [if_neg c10] at H
        exact absurd H (by simp)
      ·rw [if_neg c9] at H
       have c9b0 : decide (aa < (l0_0.length : Int)) = false := decide_eq_false c9
       clear c9
       obtain rfl := Option.some.inj H
       simp only [Option.some.injEq, Prod.mk.injEq] at H
       obtain ⟨rfl⟩ := H
       go_wp2
       go_ret
       exact ⟨by first | rfl | (simp [errW_none, errW_some] <;> rfl) | (simp [*, errW_none, errW_some] <;> rfl), by exact zp2_0_ HB.out aj.out⟩
end Go.Proofs.Ytpgdhpnmagmooaa.P
end
section
namespace Go.Proofs.Ytpgdhpnmagmooaa.Pl
open Go.RowKit Go.Proofs.Ytpgdhpnmagmooaa.P Go.Proofs.YtpgdhpnmagmooaaW.PrintWords Go.Proofs.YtpgdhpnmagmooaaW.PrintLast Go.Proofs.YtpgdhpnmagmooaaW.PrintMore Wk
set_option linter.unusedVariables false
set_option linter.unusedSimpArgs false
theorem rows_get (xs : List (List Int)) (i : Nat) (h : i < xs.length) : rd_L1 xs i = xs[i] := by
  simp [rd_L1, List.getD_eq_getElem?_getD, h]
theorem szRows_l0 (xs : List (List Int)) (hx : ∀ r ∈ xs, r.length ≤ 9223372036854775807) (hl : xs.length ≤ 1048576) : ∀ (d i : Nat) (left : Int), i + d = xs.length → 0 ≤ left → left ≤ 1048576 →
    ∃ r : Int, Ev (fun k => laws_szIntSS.l0 k xs left i) r ∧ -1 ≤ r ∧ r ≤ left ∧ (0 ≤ r → ∀ x ∈ xs.drop i, (x.length : Int) ≤ 1048576) := by
  intro d
  induction d with
  | zero =>
    intro i left h h0 h1
    refine ⟨left, next ?_, by omega, by omega, fun _ => by rw [List.drop_eq_nil_of_le (by omega)]; intro x hx; cases hx⟩
    simp only [laws_szIntSS.l0, if_neg (show ¬ (i : Int) < (xs.length : Int) by omega)]
    exact Ev.now _
  | succ d ih =>
    intro i left h h0 h1
    have hi : i < xs.length := by omega
    have hb := hx xs[i] (List.getElem_mem _)
    have hw : wrap64 (left - (xs[i].length : Int)) = left - (xs[i].length : Int) := w64 (by omega) (by omega)
    by_cases hneg : left - (xs[i].length : Int) < 0
    · refine ⟨-1, next ?_, by omega, by omega, fun h => by omega⟩
      simp only [laws_szIntSS.l0, if_pos (show (i : Int) < (xs.length : Int) by omega), if_pos (show (0 : Int) ≤ i by omega), laws_szIntS.f, rows_get xs i hi, hw, if_pos hneg, Option.bind_some, if_pos (show (-1 : Int) < 0 by omega)]
      exact Ev.now _
    · obtain ⟨r, hr, h2, h3, h4⟩ := ih (i + 1) (left - (xs[i].length : Int)) (by omega) (by omega) (by omega)
      refine ⟨r, next ?_, h2, by omega, fun hr0 x hx => ?_⟩
      · simp only [laws_szIntSS.l0, if_pos (show (i : Int) < (xs.length : Int) by omega), if_pos (show (0 : Int) ≤ i by omega), laws_szIntS.f, rows_get xs i hi, hw, if_neg hneg, Option.bind_some, up1 (show i < 9223372036854775807 by omega)]
        exact hr
      · rw [List.drop_eq_getElem_cons hi] at hx
        rcases List.mem_cons.mp hx with rfl | hx
        · omega
        · exact h4 hr0 x hx
theorem szDfa (a : List Bool) (n : List (List Int)) (ha : a.length ≤ 9223372036854775807) (hn : n.length ≤ 9223372036854775807) (hx : ∀ r ∈ n, r.length ≤ 9223372036854775807) (left : Int) (h0 : 0 ≤ left) (h1 : left ≤ 1048576) :
    ∃ r : Int, Ev (fun k => laws_szDfa.f k a n left) r ∧ -1 ≤ r ∧ r ≤ left ∧ (0 ≤ r → a.length ≤ 1048576 ∧ n.length ≤ 1048576 ∧ ∀ x ∈ n, x.length ≤ 1048576) := by
  simp only [laws_szDfa.f, laws_szBoolS.f, laws_szIntSS.f]
  have hw : wrap64 (left - (a.length : Int)) = left - (a.length : Int) := w64 (by omega) (by omega)
  rw [hw]
  by_cases hneg : left - (a.length : Int) < 0
  · refine ⟨-1, ?_, by omega, by omega, fun h => by omega⟩
    simp only [if_pos hneg, Option.bind_some, if_pos (show (-1 : Int) < 0 by omega)]
    exact Ev.now _
  · have hw2 : wrap64 (left - (a.length : Int) - (n.length : Int)) = left - (a.length : Int) - (n.length : Int) := w64 (by omega) (by omega)
    simp only [if_neg hneg, Option.bind_some, hw2]
    by_cases hneg2 : left - (a.length : Int) - (n.length : Int) < 0
    · refine ⟨-1, ?_, by omega, by omega, fun h => by omega⟩
      simp only [if_pos hneg2, Option.bind_some, if_pos (show (-1 : Int) < 0 by omega)]
      exact Ev.now _
    · obtain ⟨r, hr, h2, h3, h4⟩ := szRows_l0 n hx (by omega) n.length 0 (left - (a.length : Int) - (n.length : Int)) (by omega) (by omega) (by omega)
      refine ⟨r, ?_, h2, by omega, fun hr0 => ⟨by omega, by omega, fun x hx => ?_⟩⟩
      · simp only [if_neg hneg2]
        refine Ev.bind hr ?_
        by_cases hr0 : r < 0
        · simp only [if_pos hr0]
          exact ev_some (by omega)
        · simp only [if_neg hr0]
          exact Ev.now _
      · have := h4 hr0 x hx
        omega
theorem toBools_l0 (xs : List Bool) (hl : xs.length ≤ 1048576) : ∀ (d i : Nat) (ys : List Bool), i + d = xs.length → ys.length = xs.length → (∀ j, j < i → ys[j]? = xs[j]?) → Ev (fun k => laws_toBoolS.l0 k xs ys i) xs := by
  intro d
  induction d with
  | zero =>
    intro i ys h hy hj
    refine next ?_
    simp only [laws_toBoolS.l0, if_neg (show ¬ (i : Int) < (xs.length : Int) by omega)]
    refine ev_some (List.ext_getElem? fun j => ?_)
    by_cases hlt : j < i
    · exact hj j hlt
    · rw [List.getElem?_eq_none (by omega), List.getElem?_eq_none (by omega)]
  | succ d ih =>
    intro i ys h hy hj
    have hi : i < xs.length := by omega
    refine next ?_
    simp only [laws_toBoolS.l0, if_pos (show (i : Int) < (xs.length : Int) by omega), if_pos (show (0 : Int) ≤ i by omega), if_pos (show (i : Int) < (ys.length : Int) by omega), rdOf_get _ xs i hi, up1 (show i < 9223372036854775807 by omega), Int.toNat_natCast]
    refine ih (i + 1) _ (by omega) (by simp [hy]) (fun j hlt => ?_)
    by_cases e : j = i
    · subst e
      rw [List.getElem?_set_self (by omega), List.getElem?_eq_getElem hi]
    · rw [List.getElem?_set_ne (by omega)]
      exact hj j (by omega)
theorem toBools (xs : List Bool) (hl : xs.length ≤ 1048576) : Ev (fun k => laws_toBoolS.f k xs) xs := by
  simp only [laws_toBoolS.f, if_pos (show (0 : Int) ≤ (xs.length : Int) by omega), Int.toNat_natCast, if_pos (show xs.length ≤ 281474976710656 by omega)]
  exact toBools_l0 xs hl xs.length 0 _ (by omega) (by simp) (fun j hj => by omega)
theorem toInts_l0 (xs : List Int) (hl : xs.length ≤ 1048576) : ∀ (d i : Nat) (ys : List Int), i + d = xs.length → ys.length = xs.length → (∀ j, j < i → ys[j]? = xs[j]?) → Ev (fun k => laws_toIntS.l0 k xs ys i) xs := by
  intro d
  induction d with
  | zero =>
    intro i ys h hy hj
    refine next ?_
    simp only [laws_toIntS.l0, if_neg (show ¬ (i : Int) < (xs.length : Int) by omega)]
    refine ev_some (List.ext_getElem? fun j => ?_)
    by_cases hlt : j < i
    · exact hj j hlt
    · rw [List.getElem?_eq_none (by omega), List.getElem?_eq_none (by omega)]
  | succ d ih =>
    intro i ys h hy hj
    have hi : i < xs.length := by omega
    refine next ?_
    simp only [laws_toIntS.l0, if_pos (show (i : Int) < (xs.length : Int) by omega), if_pos (show (0 : Int) ≤ i by omega), if_pos (show (i : Int) < (ys.length : Int) by omega), rd_get xs i hi, up1 (show i < 9223372036854775807 by omega), Int.toNat_natCast]
    refine ih (i + 1) _ (by omega) (by simp [hy]) (fun j hlt => ?_)
    by_cases e : j = i
    · subst e
      rw [List.getElem?_set_self (by omega), List.getElem?_eq_getElem hi]
    · rw [List.getElem?_set_ne (by omega)]
      exact hj j (by omega)
theorem toInts (xs : List Int) (hl : xs.length ≤ 1048576) : Ev (fun k => laws_toIntS.f k xs) xs := by
  simp only [laws_toIntS.f, if_pos (show (0 : Int) ≤ (xs.length : Int) by omega), Int.toNat_natCast, if_pos (show xs.length ≤ 35184372088832 by omega)]
  exact toInts_l0 xs hl xs.length 0 _ (by omega) (by simp) (fun j hj => by omega)
theorem toRows_l0 (xs : List (List Int)) (hl : xs.length ≤ 1048576) (hx : ∀ x ∈ xs, x.length ≤ 1048576) : ∀ (d i : Nat) (ys : List (List Int)), i + d = xs.length → ys.length = xs.length → (∀ j, j < i → ys[j]? = xs[j]?) → Ev (fun k => laws_toIntSS.l0 k xs ys i) xs := by
  intro d
  induction d with
  | zero =>
    intro i ys h hy hj
    refine next ?_
    simp only [laws_toIntSS.l0, if_neg (show ¬ (i : Int) < (xs.length : Int) by omega)]
    refine ev_some (List.ext_getElem? fun j => ?_)
    by_cases hlt : j < i
    · exact hj j hlt
    · rw [List.getElem?_eq_none (by omega), List.getElem?_eq_none (by omega)]
  | succ d ih =>
    intro i ys h hy hj
    have hi : i < xs.length := by omega
    refine next ?_
    simp only [laws_toIntSS.l0, if_pos (show (i : Int) < (xs.length : Int) by omega), if_pos (show (0 : Int) ≤ i by omega), rows_get xs i hi]
    refine Ev.bind (toInts xs[i] (hx _ (List.getElem_mem _))) ?_
    simp only [if_pos (show (i : Int) < (ys.length : Int) by omega), up1 (show i < 9223372036854775807 by omega), Int.toNat_natCast]
    refine ih (i + 1) _ (by omega) (by simp [hy]) (fun j hlt => ?_)
    by_cases e : j = i
    · subst e
      rw [List.getElem?_set_self (by omega), List.getElem?_eq_getElem hi]
    · rw [List.getElem?_set_ne (by omega)]
      exact hj j (by omega)
theorem toRows (xs : List (List Int)) (hl : xs.length ≤ 1048576) (hx : ∀ x ∈ xs, x.length ≤ 1048576) : Ev (fun k => laws_toIntSS.f k xs) xs := by
  simp only [laws_toIntSS.f, if_pos (show (0 : Int) ≤ (xs.length : Int) by omega), Int.toNat_natCast, if_pos (show xs.length ≤ 11728124029610 by omega)]
  exact toRows_l0 xs hl hx xs.length 0 _ (by omega) (by simp) (fun j hj => by omega)
theorem toDfa (a : List Bool) (n : List (List Int)) (ha : a.length ≤ 1048576) (hn : n.length ≤ 1048576) (hx : ∀ x ∈ n, x.length ≤ 1048576) : Ev (fun k => laws_toDfa.f k a n) (a, n) := by
  simp only [laws_toDfa.f]
  refine Ev.bind (toBools a ha) (Ev.bind (toRows n hn hx) ?_)
  exact Ev.now _
theorem sameInts_l0 (a b : List Int) (hl : a.length = b.length) (hn : a.length ≤ 1048576) : ∀ d i : Nat, i + d = a.length → Ev (fun k => laws_eqIntS.l0 k a b i) (decide (a.drop i = b.drop i)) := by
  intro d
  induction d with
  | zero =>
    intro i h
    refine next ?_
    simp only [laws_eqIntS.l0, if_neg (show ¬ (i : Int) < (a.length : Int) by omega)]
    exact ev_some (by rw [List.drop_eq_nil_of_le (by omega), List.drop_eq_nil_of_le (by omega)]; simp)
  | succ d ih =>
    intro i h
    refine next ?_
    have ha : i < a.length := by omega
    have hb : i < b.length := by omega
    have e : (a.drop i = b.drop i) ↔ (a[i] = b[i] ∧ a.drop (i + 1) = b.drop (i + 1)) := by
      rw [List.drop_eq_getElem_cons ha, List.drop_eq_getElem_cons hb]
      exact List.cons_eq_cons
    simp only [laws_eqIntS.l0, if_pos (show (i : Int) < (a.length : Int) by omega), if_pos (show (0 : Int) ≤ i by omega), if_pos (show (i : Int) < (b.length : Int) by omega), rd_get a i ha, rd_get b i hb]
    by_cases he : a[i] = b[i]
    · simp only [if_pos he, up1 (show i < 9223372036854775807 by omega)]
      exact ev_eq (ih (i + 1) (by omega)) (decide_eq_decide.mpr (by rw [e]; exact ⟨fun x => ⟨he, x⟩, fun x => x.2⟩))
    · simp only [if_neg he]
      exact ev_some (by rw [eq_comm, decide_eq_false_iff_not, e]; exact fun x => he x.1)
theorem sameInts (a b : List Int) (hn : a.length ≤ 1048576) : Ev (fun k => laws_eqIntS.f k a b) (decide (a = b)) := by
  simp only [laws_eqIntS.f]
  by_cases h : a.length = b.length
  · simp only [if_pos (show (a.length : Int) = (b.length : Int) by omega)]
    exact sameInts_l0 a b h hn a.length 0 (by omega)
  · simp only [if_neg (show ¬ (a.length : Int) = (b.length : Int) by omega)]
    exact ev_some (by simp; intro e; exact h (by rw [e]))
theorem sameBools_l0 (a b : List Bool) (hl : a.length = b.length) (hn : a.length ≤ 1048576) : ∀ d i : Nat, i + d = a.length → Ev (fun k => laws_eqBoolS.l0 k a b i) (decide (a.drop i = b.drop i)) := by
  intro d
  induction d with
  | zero =>
    intro i h
    refine next ?_
    simp only [laws_eqBoolS.l0, if_neg (show ¬ (i : Int) < (a.length : Int) by omega)]
    exact ev_some (by rw [List.drop_eq_nil_of_le (by omega), List.drop_eq_nil_of_le (by omega)]; simp)
  | succ d ih =>
    intro i h
    refine next ?_
    have ha : i < a.length := by omega
    have hb : i < b.length := by omega
    have e : (a.drop i = b.drop i) ↔ (a[i] = b[i] ∧ a.drop (i + 1) = b.drop (i + 1)) := by
      rw [List.drop_eq_getElem_cons ha, List.drop_eq_getElem_cons hb]
      exact List.cons_eq_cons
    simp only [laws_eqBoolS.l0, if_pos (show (i : Int) < (a.length : Int) by omega), if_pos (show (0 : Int) ≤ i by omega), if_pos (show (i : Int) < (b.length : Int) by omega), rdOf_get _ a i ha, rdOf_get _ b i hb]
    by_cases he : a[i] = b[i]
    · simp only [show (a[i] != b[i]) = false from bne_eq_false_iff_eq.mpr he, Bool.false_ne_true, if_false, up1 (show i < 9223372036854775807 by omega)]
      exact ev_eq (ih (i + 1) (by omega)) (decide_eq_decide.mpr (by rw [e]; exact ⟨fun x => ⟨he, x⟩, fun x => x.2⟩))
    · simp only [show (a[i] != b[i]) = true from bne_iff_ne.mpr he, if_true]
      exact ev_some (by rw [eq_comm, decide_eq_false_iff_not, e]; exact fun x => he x.1)
theorem sameBools (a b : List Bool) (hn : a.length ≤ 1048576) : Ev (fun k => laws_eqBoolS.f k a b) (decide (a = b)) := by
  simp only [laws_eqBoolS.f]
  by_cases h : a.length = b.length
  · simp only [if_pos (show (a.length : Int) = (b.length : Int) by omega)]
    exact sameBools_l0 a b h hn a.length 0 (by omega)
  · simp only [if_neg (show ¬ (a.length : Int) = (b.length : Int) by omega)]
    exact ev_some (by simp; intro e; exact h (by rw [e]))
theorem sameRows_l0 (a b : List (List Int)) (hl : a.length = b.length) (hn : a.length ≤ 1048576) (hx : ∀ x ∈ a, x.length ≤ 1048576) : ∀ d i : Nat, i + d = a.length → Ev (fun k => laws_eqIntSS.l0 k a b i) (decide (a.drop i = b.drop i)) := by
  intro d
  induction d with
  | zero =>
    intro i h
    refine next ?_
    simp only [laws_eqIntSS.l0, if_neg (show ¬ (i : Int) < (a.length : Int) by omega)]
    exact ev_some (by rw [List.drop_eq_nil_of_le (by omega), List.drop_eq_nil_of_le (by omega)]; simp)
  | succ d ih =>
    intro i h
    refine next ?_
    have ha : i < a.length := by omega
    have hb : i < b.length := by omega
    have e : (a.drop i = b.drop i) ↔ (a[i] = b[i] ∧ a.drop (i + 1) = b.drop (i + 1)) := by
      rw [List.drop_eq_getElem_cons ha, List.drop_eq_getElem_cons hb]
      exact List.cons_eq_cons
    simp only [laws_eqIntSS.l0, if_pos (show (i : Int) < (a.length : Int) by omega), if_pos (show (0 : Int) ≤ i by omega), if_pos (show (i : Int) < (b.length : Int) by omega), rows_get a i ha, rows_get b i hb]
    refine Ev.bind (sameInts a[i] b[i] (hx _ (List.getElem_mem _))) ?_
    by_cases he : a[i] = b[i]
    · simp only [decide_eq_true he, if_true, up1 (show i < 9223372036854775807 by omega)]
      exact ev_eq (ih (i + 1) (by omega)) (decide_eq_decide.mpr (by rw [e]; exact ⟨fun x => ⟨he, x⟩, fun x => x.2⟩))
    · simp only [decide_eq_false he, Bool.false_ne_true, if_false]
      exact ev_some (by rw [eq_comm, decide_eq_false_iff_not, e]; exact fun x => he x.1)
theorem sameRows (a b : List (List Int)) (hn : a.length ≤ 1048576) (hx : ∀ x ∈ a, x.length ≤ 1048576) : Ev (fun k => laws_eqIntSS.f k a b) (decide (a = b)) := by
  simp only [laws_eqIntSS.f]
  by_cases h : a.length = b.length
  · simp only [if_pos (show (a.length : Int) = (b.length : Int) by omega)]
    exact sameRows_l0 a b h hn hx a.length 0 (by omega)
  · simp only [if_neg (show ¬ (a.length : Int) = (b.length : Int) by omega)]
    exact ev_some (by simp; intro e; exact h (by rw [e]))
theorem sameDfa (a : List Bool) (n : List (List Int)) (a2 : List Bool) (n2 : List (List Int)) (ha : a.length ≤ 1048576) (hn : n.length ≤ 1048576) (hx : ∀ x ∈ n, x.length ≤ 1048576) : Ev (fun k => laws_eqDfa.f k a n a2 n2) (decide (a = a2) && decide (n = n2)) := by
  simp only [laws_eqDfa.f]
  refine Ev.bind (sameBools a a2 ha) ?_
  by_cases h1 : a = a2
  · simp only [decide_eq_true h1, if_true, Bool.true_and]
    refine Ev.bind (sameRows n n2 hn hx) ?_
    by_cases h2 : n = n2
    · simp only [decide_eq_true h2, if_true]
      exact Ev.now _
    · simp only [decide_eq_false h2, Bool.false_ne_true, if_false]
      exact Ev.now _
  · simp only [decide_eq_false h1, Bool.false_ne_true, if_false, Bool.false_and]
    exact Ev.now _
theorem spec_in (a lo hi : Int) : spec_l1In.f a lo hi = some (decide (lo ≤ a) && decide (a ≤ hi)) := by
  unfold spec_l1In.f
  by_cases h : a ≥ lo
  · rw [if_pos h, decide_eq_true (show lo ≤ a from h), Bool.true_and]
  · rw [if_neg h, decide_eq_false (show ¬ lo ≤ a from h), Bool.false_and]
theorem badState_eq (n q : Int) : badState n q = !(decide (0 ≤ q) && decide (q ≤ n - 1)) := by
  unfold badState
  cases decide (0 ≤ q) <;> cases decide (q ≤ n - 1) <;> rfl
theorem spec_valid_l1 (acc : List Bool) (nxt : List (List Int)) (q : Nat) (hq : q < nxt.length) (hnl : nxt.length ≤ 1048576) (h3 : nxt[q].length = 3) (hn1 : 1 ≤ acc.length) (hn : acc.length ≤ 40) (res : Bool) (h : Ev (fun k => spec_IsValidDfa.l0 k (acc.length : Int) ((q + 1 : Nat) : Int) acc nxt) res) :
    ∀ d i : Nat, i + d = 3 → Ev (fun k => spec_IsValidDfa.l1 k (acc.length : Int) q i acc nxt) (if (nxt[q].drop i).any (badState acc.length) = true then false else res) := by
  intro d
  induction d with
  | zero =>
    intro i hd
    refine next ?_
    simp only [spec_IsValidDfa.l1, if_pos (show (0 : Int) ≤ q by omega), if_pos (show (q : Int) < (nxt.length : Int) by omega), rows_get nxt q hq, if_neg (show ¬ (i : Int) < (nxt[q].length : Int) by omega)]
    rw [List.drop_eq_nil_of_le (by omega), List.any_nil, if_neg (by simp)]
    simp only [up1 (show q < 9223372036854775807 by omega)]
    exact h
  | succ d ih =>
    intro i hd
    refine next ?_
    have hi : i < nxt[q].length := by omega
    have hw : wrap64 ((acc.length : Int) - 1) = (acc.length : Int) - 1 := w64 (by omega) (by omega)
    simp only [spec_IsValidDfa.l1, if_pos (show (0 : Int) ≤ q by omega), if_pos (show (q : Int) < (nxt.length : Int) by omega), rows_get nxt q hq, if_pos (show (i : Int) < (nxt[q].length : Int) by omega), if_pos (show (0 : Int) ≤ i by omega), rd_get nxt[q] i hi, spec_in, Option.bind_some, hw, up1 (show i < 9223372036854775807 by omega)]
    rw [List.drop_eq_getElem_cons hi, List.any_cons]
    have hbe := badState_eq (acc.length : Int) nxt[q][i]
    by_cases hb : badState acc.length nxt[q][i] = true
    · have hb2 : (decide (0 ≤ nxt[q][i]) && decide (nxt[q][i] ≤ (acc.length : Int) - 1)) = false := by
        rw [hb] at hbe
        cases hc : (decide (0 ≤ nxt[q][i]) && decide (nxt[q][i] ≤ (acc.length : Int) - 1)) with
        | true => rw [hc] at hbe; cases hbe
        | false => rfl
      simp only [hb2, Bool.false_ne_true, if_false, hb, Bool.true_or, if_true]
      exact Ev.now _
    · have hb2 : (decide (0 ≤ nxt[q][i]) && decide (nxt[q][i] ≤ (acc.length : Int) - 1)) = true := by
        rw [eq_false_of_ne_true hb] at hbe
        cases hc : (decide (0 ≤ nxt[q][i]) && decide (nxt[q][i] ≤ (acc.length : Int) - 1)) with
        | true => rfl
        | false => rw [hc] at hbe; cases hbe
      simp only [hb2, if_true, eq_false_of_ne_true hb, Bool.false_or]
      exact ih (i + 1) (by omega)
theorem spec_valid_l0 (acc : List Bool) (nxt : List (List Int)) (hl : nxt.length = acc.length) (hn1 : 1 ≤ acc.length) (hn : acc.length ≤ 40) :
    ∀ d q : Nat, q + d = acc.length → Ev (fun k => spec_IsValidDfa.l0 k (acc.length : Int) q acc nxt) (!((nxt.drop q).any (badRow acc.length))) := by
  intro d
  induction d with
  | zero =>
    intro q hd
    refine next ?_
    simp only [spec_IsValidDfa.l0, if_neg (show ¬ (q : Int) < (acc.length : Int) by omega)]
    exact ev_some (by rw [List.drop_eq_nil_of_le (by omega)]; rfl)
  | succ d ih =>
    intro q hd
    have hq : q < nxt.length := by omega
    refine next ?_
    simp only [spec_IsValidDfa.l0, if_pos (show (q : Int) < (acc.length : Int) by omega), if_pos (show (0 : Int) ≤ q by omega), if_pos (show (q : Int) < (nxt.length : Int) by omega), rows_get nxt q hq]
    rw [List.drop_eq_getElem_cons hq, List.any_cons]
    by_cases h3 : nxt[q].length = 3
    · simp only [if_pos (show (nxt[q].length : Int) = 3 by omega)]
      refine ev_eq (spec_valid_l1 acc nxt q hq (by omega) h3 hn1 hn _ (ih (q + 1) (by omega)) 3 0 rfl) ?_
      rw [List.drop_zero]
      have e : badRow acc.length nxt[q] = nxt[q].any (badState acc.length) := by simp [badRow, h3]
      rw [e]
      cases nxt[q].any (badState acc.length) <;> simp
    · simp only [if_neg (show ¬ (nxt[q].length : Int) = 3 by omega)]
      exact ev_some (by simp [badRow, h3])
theorem spec_valid (acc : List Bool) (nxt : List (List Int)) (ha : acc.length ≤ 1048576) (hn : nxt.length ≤ 1048576) : Ev (fun k => spec_IsValidDfa.f k acc nxt) (validD acc nxt) := by
  have jt : ∀ b : Bool, Ev (fun k => spec_IsValidDfa.j0 k (acc.length : Int) true acc nxt) false := by
    intro b
    refine next ?_
    simp only [spec_IsValidDfa.j0, if_true]
    exact Ev.now _
  simp only [spec_IsValidDfa.f, spec_in, Option.bind_some, validD]
  by_cases h : 1 ≤ acc.length ∧ acc.length ≤ 40
  · have e1 : (decide ((1 : Int) ≤ (acc.length : Int)) && decide ((acc.length : Int) ≤ 40)) = true := by
      rw [decide_eq_true (show (1 : Int) ≤ (acc.length : Int) by omega), decide_eq_true (show (acc.length : Int) ≤ 40 by omega)]; rfl
    simp only [e1, if_true, decide_eq_true h.1, decide_eq_true h.2, Bool.true_and]
    by_cases hl : nxt.length = acc.length
    · have e2 : ((nxt.length : Int) != (acc.length : Int)) = false := by rw [bne_eq_false_iff_eq]; omega
      simp only [e2, decide_eq_true hl, Bool.true_and]
      refine next ?_
      simp only [spec_IsValidDfa.j0, Bool.false_ne_true, if_false]
      exact spec_valid_l0 acc nxt hl h.1 h.2 acc.length 0 (by omega)
    · have e2 : ((nxt.length : Int) != (acc.length : Int)) = true := by rw [bne_iff_ne]; omega
      simp only [e2, decide_eq_false hl, Bool.false_and]
      exact jt true
  · have e1 : (decide ((1 : Int) ≤ (acc.length : Int)) && decide ((acc.length : Int) ≤ 40)) = false := by
      by_cases h1 : 1 ≤ acc.length
      · rw [decide_eq_false (show ¬ (acc.length : Int) ≤ 40 by omega), Bool.and_false]
      · rw [decide_eq_false (show ¬ (1 : Int) ≤ (acc.length : Int) by omega), Bool.false_and]
    have e2 : (decide (1 ≤ acc.length) && decide (acc.length ≤ 40)) = false := by
      by_cases h1 : 1 ≤ acc.length
      · rw [decide_eq_false (show ¬ acc.length ≤ 40 by omega), Bool.and_false]
      · rw [decide_eq_false h1, Bool.false_and]
    simp only [e1, e2, Bool.false_ne_true, if_false, Bool.false_and]
    exact jt true
theorem valid_facts {acc : List Bool} {nxt : List (List Int)} (h : validD acc nxt = true) : 1 ≤ acc.length ∧ acc.length ≤ 40 ∧ nxt.length = acc.length ∧ ∀ r ∈ nxt, r.length = 3 ∧ ∀ x ∈ r, 0 ≤ x ∧ x < (acc.length : Int) := by
  simp only [validD, Bool.and_eq_true, decide_eq_true_eq, Bool.not_eq_true', List.any_eq_false] at h
  obtain ⟨⟨⟨h1, h2⟩, h3⟩, h4⟩ := h
  refine ⟨h1, h2, h3, fun r hr => ?_⟩
  have := h4 r hr
  simp only [badRow, Bool.or_eq_true, decide_eq_true_eq, not_or, List.any_eq_true, not_exists, not_and] at this
  refine ⟨by omega, fun x hx => ?_⟩
  have hb := this.2 x hx
  rw [badState_eq] at hb
  simp at hb
  omega
theorem next_range {acc : List Bool} {nxt : List (List Int)} (h : validD acc nxt = true) (q : Int) (h0 : 0 ≤ q) (h1 : q < (acc.length : Int)) (i : Int) (hi0 : 0 ≤ i) (hi1 : i < 3) : (rd_L1 nxt q).length = 3 ∧ 0 ≤ rd (rd_L1 nxt q) i ∧ rd (rd_L1 nxt q) i < (acc.length : Int) := by
  obtain ⟨_, _, hl, hr⟩ := valid_facts h
  obtain ⟨n, rfl⟩ := Int.eq_ofNat_of_zero_le h0
  obtain ⟨j, rfl⟩ := Int.eq_ofNat_of_zero_le hi0
  have hn : n < nxt.length := by omega
  rw [rows_get nxt n hn]
  have h3 := hr nxt[n] (List.getElem_mem _)
  have hj : j < nxt[n].length := by omega
  rw [rd_get _ j hj]
  exact ⟨h3.1, h3.2 _ (List.getElem_mem _)⟩
theorem lens {n : List (List Int)} (w : Rk.rowsOf (Rk.rowsOf (Rk.wfI .i64)) n) : ∀ r ∈ n, r.length ≤ 9223372036854775807 := fun r hr => (w.2 r hr).1
end Go.Proofs.Ytpgdhpnmagmooaa.Pl
end
section
namespace Go.Proofs.Ytpgdhpnmagmooaa.Can
open Go.RowKit Go.Proofs.Ytpgdhpnmagmooaa Go.Proofs.Ytpgdhpnmagmooaa.P Go.Proofs.Ytpgdhpnmagmooaa.Wk Go.Proofs.Ytpgdhpnmagmooaa.Lg Go.Proofs.Ytpgdhpnmagmooaa.Pl Go.Proofs.Ytpgdhpnmagmooaa.Mp Go.Proofs.Ytpgdhpnmagmooaa.Bf Go.Proofs.Ytpgdhpnmagmooaa.Mn Go.Proofs.YtpgdhpnmagmooaaW.PrintWords Go.Proofs.YtpgdhpnmagmooaaW.PrintLast Go.Proofs.YtpgdhpnmagmooaaW.PrintMore
set_option linter.unusedVariables false
set_option linter.unusedSimpArgs false
def U64 (s : Int) : Prop := 0 ≤ s ∧ s < 18446744073709551616
def bit (s : Int) (q : Nat) : Bool := s.toNat.testBit q
theorem and_nat {m n : Nat} (hm : m < 18446744073709551616) (hn : n < 18446744073709551616) : Go.bits .and .u64 (m : Int) (n : Int) = ((m &&& n : Nat) : Int) := by
  show IntKind.u64.wrap ((BitVec.ofInt 64 (m : Int) &&& BitVec.ofInt 64 (n : Int)).toNat : Int) = _
  have h : (BitVec.ofInt 64 (m : Int) &&& BitVec.ofInt 64 (n : Int)).toNat = m &&& n := by
    rw [BitVec.toNat_and, BitVec.ofInt_natCast, BitVec.ofInt_natCast, BitVec.toNat_ofNat, BitVec.toNat_ofNat, Nat.mod_eq_of_lt (by omega), Nat.mod_eq_of_lt (by omega)]
  have hl : m &&& n ≤ n := Nat.and_le_right
  rw [h, IntKind.wrap_u64]
  omega
theorem or_nat {m n : Nat} (hm : m < 18446744073709551616) (hn : n < 18446744073709551616) : Go.bits .or .u64 (m : Int) (n : Int) = ((m ||| n : Nat) : Int) := by
  show IntKind.u64.wrap ((BitVec.ofInt 64 (m : Int) ||| BitVec.ofInt 64 (n : Int)).toNat : Int) = _
  have h : (BitVec.ofInt 64 (m : Int) ||| BitVec.ofInt 64 (n : Int)).toNat = m ||| n := by
    rw [BitVec.toNat_or, BitVec.ofInt_natCast, BitVec.ofInt_natCast, BitVec.toNat_ofNat, BitVec.toNat_ofNat, Nat.mod_eq_of_lt (by omega), Nat.mod_eq_of_lt (by omega)]
  have hl : m ||| n < 2 ^ 64 := Nat.or_lt_two_pow (by omega) (by omega)
  rw [h, IntKind.wrap_u64]
  omega
theorem bit_test {s : Int} (h : U64 s) {q : Nat} (hq : q < 64) : (Go.bits .and .u64 (shr .u64 s (q : Int)) 1 = 1) ↔ bit s q = true := by
  obtain ⟨m, rfl⟩ : ∃ m : Nat, s = (m : Int) := ⟨s.toNat, by have := h.1; omega⟩
  have hm : m < 18446744073709551616 := by have := h.2; omega
  have e : shr .u64 (m : Int) (q : Int) = ((m / 2 ^ q : Nat) : Int) := by
    unfold shr
    rw [Int.toNat_natCast, Nat.min_eq_left (show q ≤ IntKind.u64.bits by show q ≤ 64; omega)]
    norm_cast
  have hd : m / 2 ^ q ≤ m := Nat.div_le_self _ _
  rw [e, show (1 : Int) = ((1 : Nat) : Int) from rfl, and_nat (by omega) (by omega), Nat.and_one_is_mod]
  unfold bit
  rw [Int.toNat_natCast, Nat.testBit_eq_decide_div_mod_eq, decide_eq_true_iff]
  constructor
  · intro h; omega
  · intro h; omega
theorem bit_or {s : Int} (h : U64 s) {q : Nat} (hq : q < 64) : U64 (Go.bits .or .u64 s (shl .u64 1 (q : Int))) ∧ ∀ p, bit (Go.bits .or .u64 s (shl .u64 1 (q : Int))) p = (bit s p || decide (p = q)) := by
  obtain ⟨m, rfl⟩ : ∃ m : Nat, s = (m : Int) := ⟨s.toNat, by have := h.1; omega⟩
  have hm : m < 18446744073709551616 := by have := h.2; omega
  have hp : 2 ^ q < 2 ^ 64 := Nat.pow_lt_pow_right (by omega) hq
  have e : shl .u64 1 (q : Int) = ((2 ^ q : Nat) : Int) := by
    unfold shl
    rw [Int.toNat_natCast, Nat.min_eq_left (show q ≤ IntKind.u64.bits by show q ≤ 64; omega), IntKind.wrap_u64]
    have : ((2 : Int) ^ q) = ((2 ^ q : Nat) : Int) := by norm_cast
    rw [Int.one_mul, this]
    generalize 2 ^ q = c at hp ⊢
    omega
  rw [e, or_nat hm (by omega)]
  have hl : m ||| 2 ^ q < 2 ^ 64 := Nat.or_lt_two_pow (by omega) hp
  refine ⟨⟨by omega, by omega⟩, fun p => ?_⟩
  unfold bit
  rw [Int.toNat_natCast, Int.toNat_natCast, Nat.testBit_or, Nat.testBit_two_pow]
  congr 1
  exact decide_eq_decide.mpr ⟨fun h => h.symm, fun h => h.symm⟩
theorem bit_ext {s t : Int} (hs : U64 s) (ht : U64 t) (h : ∀ p, bit s p = bit t p) : s = t := by
  have : s.toNat = t.toNat := Nat.eq_of_testBit_eq h
  have := hs.1
  have := ht.1
  omega
def mvI (nx : List (List Int)) (s : Int) (j : Int) : Nat → Nat → Int → Int
  | 0, _, r => r
  | d + 1, q, r => mvI nx s j d (q + 1) (if bit s q = true then Go.bits .or .u64 r (shl .u64 1 (rd (rowOf nx (q : Int)) j)) else r)
def mvS (nx : List (List Int)) (s : Int) (j : Int) : Int := mvI nx s j nx.length 0 0
def acI (acc : List Bool) (s : Int) : Nat → Nat → Bool
  | 0, _ => false
  | d + 1, q => if rdOf false acc (q : Int) = true ∧ bit s q = true then true else acI acc s d (q + 1)
def acS (acc : List Bool) (s : Int) : Bool := acI acc s acc.length 0
theorem acI_iff (acc : List Bool) (s : Int) : ∀ d q, acI acc s d q = true ↔ ∃ p, q ≤ p ∧ p < q + d ∧ rdOf false acc (p : Int) = true ∧ bit s p = true
  | 0, q => by
    rw [acI]
    constructor
    · intro h; cases h
    · rintro ⟨p, h1, h2, _⟩; omega
  | d + 1, q => by
    rw [acI]
    by_cases h : rdOf false acc (q : Int) = true ∧ bit s q = true
    · rw [if_pos h]
      exact ⟨fun _ => ⟨q, Nat.le_refl _, by omega, h.1, h.2⟩, fun _ => rfl⟩
    · rw [if_neg h, acI_iff acc s d (q + 1)]
      constructor
      · rintro ⟨p, h1, h2, h3⟩; exact ⟨p, by omega, by omega, h3⟩
      · rintro ⟨p, h1, h2, h3⟩
        by_cases e : p = q
        · subst e; exact absurd h3 h
        · exact ⟨p, by omega, by omega, h3⟩
theorem acS_iff (acc : List Bool) (s : Int) : acS acc s = true ↔ ∃ p, p < acc.length ∧ rdOf false acc (p : Int) = true ∧ bit s p = true := by
  unfold acS
  rw [acI_iff]
  constructor
  · rintro ⟨p, h1, h2, h3⟩; exact ⟨p, by omega, h3⟩
  · rintro ⟨p, h1, h3⟩; exact ⟨p, by omega, by omega, h3⟩
section
variable {a : List Bool} {n : List (List Int)} {s : Int}
theorem mvI_bits (hf : Fits a n) (ha : a.length ≤ 40) (j : Nat) (hj : j < 3) : ∀ (d q : Nat) (r : Int), q + d = n.length → U64 r → U64 (mvI n s (j : Int) d q r) ∧ ∀ p, bit (mvI n s (j : Int) d q r) p = true ↔ bit r p = true ∨ ∃ z, q ≤ z ∧ z < n.length ∧ bit s z = true ∧ rd (rowOf n (z : Int)) (j : Int) = (p : Int)
  | 0, q, r, hq, hr => by
    rw [mvI]
    refine ⟨hr, fun p => ⟨Or.inl, ?_⟩⟩
    rintro (h | ⟨z, h1, h2, _⟩)
    · exact h
    · omega
  | d + 1, q, r, hq, hr => by
    have hl := hf.len
    obtain ⟨g1, g2⟩ := hf.row (q : Int) (by omega)
    have hy := g2 (rd (rowOf n (q : Int)) (j : Int)) (by rw [rd_get _ j (by omega)]; exact List.getElem_mem _)
    generalize hyy : rd (rowOf n (q : Int)) (j : Int) = y at hy
    obtain ⟨t, rfl⟩ : ∃ t : Nat, y = (t : Int) := ⟨y.toNat, by omega⟩
    rw [mvI, hyy]
    by_cases h : bit s q = true
    · rw [if_pos h]
      obtain ⟨u1, u2⟩ := bit_or hr (q := t) (by omega)
      obtain ⟨v1, v2⟩ := mvI_bits hf ha j hj d (q + 1) _ (by omega) u1
      refine ⟨v1, fun p => ?_⟩
      rw [v2, u2, Bool.or_eq_true, decide_eq_true_iff]
      constructor
      · rintro ((h1 | rfl) | ⟨z, h1, h2, h3⟩)
        · exact Or.inl h1
        · exact Or.inr ⟨q, Nat.le_refl _, by omega, h, hyy⟩
        · exact Or.inr ⟨z, by omega, h2, h3⟩
      · rintro (h1 | ⟨z, h1, h2, h3, h4⟩)
        · exact Or.inl (Or.inl h1)
        · by_cases e : z = q
          · subst e
            rw [hyy] at h4
            exact Or.inl (Or.inr (by omega))
          · exact Or.inr ⟨z, by omega, h2, h3, h4⟩
    · rw [if_neg h]
      obtain ⟨v1, v2⟩ := mvI_bits hf ha j hj d (q + 1) r (by omega) hr
      refine ⟨v1, fun p => ?_⟩
      rw [v2]
      constructor
      · rintro (h1 | ⟨z, h1, h2, h3⟩)
        · exact Or.inl h1
        · exact Or.inr ⟨z, by omega, h2, h3⟩
      · rintro (h1 | ⟨z, h1, h2, h3, h4⟩)
        · exact Or.inl h1
        · by_cases e : z = q
          · subst e; exact absurd h3 h
          · exact Or.inr ⟨z, by omega, h2, h3, h4⟩
theorem mvS_bits (hf : Fits a n) (ha : a.length ≤ 40) (j : Nat) (hj : j < 3) : U64 (mvS n s (j : Int)) ∧ ∀ p, bit (mvS n s (j : Int)) p = true ↔ ∃ z, z < n.length ∧ bit s z = true ∧ rd (rowOf n (z : Int)) (j : Int) = (p : Int) := by
  obtain ⟨h1, h2⟩ := mvI_bits (s := s) hf ha j hj n.length 0 0 (by omega) ⟨by omega, by omega⟩
  refine ⟨h1, fun p => ?_⟩
  unfold mvS
  rw [h2]
  constructor
  · rintro (h | ⟨z, _, h3⟩)
    · unfold bit at h
      simp at h
    · exact ⟨z, h3⟩
  · rintro ⟨z, h3⟩
    exact Or.inr ⟨z, Nat.zero_le _, h3⟩
theorem impl_moved_l0 (hf : Fits a n) (ha : a.length ≤ 40) (hs : U64 s) (j : Nat) (hj : j < 3) : ∀ (d q : Nat) (r : Int), q + d = n.length → Ev (fun k => impl_moved.l0 k s (j : Int) r n (n.length : Int) (q : Int)) (mvI n s (j : Int) d q r)
  | 0, q, r, hq => by
    refine next ?_
    simp only [impl_moved.l0, if_neg (show ¬ (q : Int) < (n.length : Int) by omega)]
    exact Ev.now _
  | d + 1, q, r, hq => by
    have hl := hf.len
    obtain ⟨g1, g2⟩ := hf.row (q : Int) (by omega)
    have hy := g2 (rd (rowOf n (q : Int)) (j : Int)) (by rw [rd_get _ j (by omega)]; exact List.getElem_mem _)
    have hrow : rd_L1 n (q : Int) = rowOf n (q : Int) := rfl
    have IH := fun r => impl_moved_l0 hf ha hs j hj d (q + 1) r (by omega)
    refine next ?_
    rw [mvI]
    simp only [impl_moved.l0, if_pos (show (q : Int) < (n.length : Int) by omega), if_pos (show (0 : Int) ≤ (q : Int) by omega), hrow, if_pos (show (0 : Int) ≤ (j : Int) by omega), if_pos (show (j : Int) < ((rowOf n (q : Int)).length : Int) by omega), if_pos hy.1]
    rw [up1 (by omega)]
    by_cases h : bit s q = true
    · simp only [if_pos ((bit_test hs (by omega)).mpr h), if_pos h]
      exact IH _
    · simp only [if_neg (fun h2 => h ((bit_test hs (by omega)).mp h2)), if_neg h]
      exact IH _
theorem impl_moved_ev (hf : Fits a n) (ha : a.length ≤ 40) (hs : U64 s) (j : Nat) (hj : j < 3) : Ev (fun k => impl_moved.f k a n s (j : Int)) (mvS n s (j : Int)) := by
  simp only [impl_moved.f]
  exact impl_moved_l0 hf ha hs j hj n.length 0 0 (by omega)
theorem impl_accepting_l0 (ha : a.length ≤ 40) (hs : U64 s) : ∀ (d q : Nat), q + d = a.length → Ev (fun k => impl_accepting.l0 k s a (a.length : Int) (q : Int)) (acI a s d q)
  | 0, q, hq => by
    refine next ?_
    simp only [impl_accepting.l0, if_neg (show ¬ (q : Int) < (a.length : Int) by omega)]
    exact Ev.now _
  | d + 1, q, hq => by
    have IH := impl_accepting_l0 ha hs d (q + 1) (by omega)
    refine next ?_
    rw [acI]
    simp only [impl_accepting.l0, if_pos (show (q : Int) < (a.length : Int) by omega), if_pos (show (0 : Int) ≤ (q : Int) by omega)]
    rw [up1 (by omega)]
    by_cases h1 : rdOf false a (q : Int) = true
    · by_cases h : bit s q = true
      · simp only [if_pos h1, if_pos ((bit_test hs (by omega)).mpr h), if_pos (And.intro h1 h)]
        exact Ev.now _
      · simp only [if_pos h1, if_neg (fun h2 => h ((bit_test hs (by omega)).mp h2)), if_neg (fun h2 : rdOf false a (q : Int) = true ∧ bit s q = true => h h2.2)]
        exact IH
    · simp only [if_neg h1, if_neg (fun h2 : rdOf false a (q : Int) = true ∧ bit s q = true => h1 h2.1)]
      exact IH
theorem impl_accepting_ev (ha : a.length ≤ 40) (hs : U64 s) : Ev (fun k => impl_accepting.f k a n s) (acS a s) := by
  simp only [impl_accepting.f]
  exact impl_accepting_l0 ha hs a.length 0 (by omega)
end
end Go.Proofs.Ytpgdhpnmagmooaa.Can
end
section
namespace Go.Proofs.Ytpgdhpnmagmooaa.P
open Go.RowKit Go.Proofs.YtpgdhpnmagmooaaW.PrintWords Go.Proofs.YtpgdhpnmagmooaaW.PrintLast Go.Proofs.YtpgdhpnmagmooaaW.PrintMore
attribute [local go_sem] max2_int min2_int max_two min_two max_three min_three max_four min_four
set_option linter.unusedVariables false
set_option linter.unusedSimpArgs false
def spec_l6Put.l0 : Nat → List Int → Int → Int → Option (List Int)
  | 0, _, _, _ => none
  | k + 1, x0, x1, x5 => if x5 < (x0.length : Int) then (if 0 ≤ x5 then (if (rd x0 x5) < x1 then (spec_l6Put.l0 k x0 x1 (wrap64 (x5 + 1))) else (if (rd x0 x5) = x1 then (some x0) else ((some (([] : List Int) : List Int)).bind fun ap => (if x5 ≤ (x0.length : Int) then ((some (x0.take (x5 : Int).toNat : List Int)).bind fun ag => (if ap.length + ag.length < 17592186044416 then ((some (ap ++ ag : List Int)).bind fun ak => (if ak.length < 17592186044416 then ((some (ak ++ [x1] : List Int)).bind fun ah => ((some (x0.drop (x5 : Int).toNat : List Int)).bind fun ad => (if ah.length + ad.length < 17592186044416 then (some (ah ++ ad)) else (none)))) else (none))) else (none))) else (none))))) else (none)) else ((some (([] : List Int) : List Int)).bind fun aq => (if 0 ≤ x5 then (if x5 ≤ (x0.length : Int) then ((some (x0.take (x5 : Int).toNat : List Int)).bind fun ai => (if aq.length + ai.length < 17592186044416 then ((some (aq ++ ai : List Int)).bind fun al => (if al.length < 17592186044416 then ((some (al ++ [x1] : List Int)).bind fun aj => ((some (x0.drop (x5 : Int).toNat : List Int)).bind fun ae => (if aj.length + ae.length < 17592186044416 then (some (aj ++ ae)) else (none)))) else (none))) else (none))) else (none)) else (none)))
def spec_l6Put.f (k : Nat) (l0 : List Int) (a1 : Int) : Option (List Int) := spec_l6Put.l0 k l0 a1 0
theorem spec_l6Put.mono_l : ∀ k, (∀ y0 y1 y2, LeO (spec_l6Put.l0 k y0 y1 y2) (spec_l6Put.l0 (k + 1) y0 y1 y2))
 | 0 => fun _ _ _ r h => by simp [spec_l6Put.l0] at h
 | k + 1 => by
  have ih0 := spec_l6Put.mono_l k
  ·intro y0 y1 y2
   unfold spec_l6Put.l0
   repeat' first
   | (with_reducible exact ih0 _ _ _)
   | (with_reducible exact LeO.refl _)
   | (with_reducible exact LeO.none _)
   | (with_reducible refine LeO.ite ?_ ?_)
   | (with_reducible refine LeO.bind ?_ (fun _ => ?_))
   | exact ih0 _ _ _
   | exact LeO.none _
   | refine LeO.ite ?_ ?_
   | refine LeO.bind ?_ (fun _ => ?_)
theorem spec_l6Put.mono : ∀ a0 a1 k, LeO (spec_l6Put.f k a0 a1) (spec_l6Put.f (k + 1) a0 a1) := by
 intro a0 a1 k
 have ih0 := spec_l6Put.mono_l k
 unfold spec_l6Put.f
 repeat' first
   | (with_reducible exact ih0 _ _ _)
   | (with_reducible exact LeO.refl _)
   | (with_reducible exact LeO.none _)
   | (with_reducible refine LeO.ite ?_ ?_)
   | (with_reducible refine LeO.bind ?_ (fun _ => ?_))
   | exact ih0 _ _ _
   | exact LeO.none _
   | refine LeO.ite ?_ ?_
   | refine LeO.bind ?_ (fun _ => ?_)
theorem zp3_0_ {p q : Prop} (h : p) (c : p → q := by intro h_; repeat (first | (with_reducible first | exact h_ | apply Kept.alloc | apply Kept.drewN | apply Kept.drew) | exact h_)) : q := c h
theorem zp3_1_ {p q : Prop} (h : p) (c : p → q := by intro h_; repeat (first | (with_reducible first | exact h_ | apply below_alloc | apply pw_below_drewN | apply below_drew1) | exact h_)) : q := c h
set_option maxHeartbeats 8000000 in
set_option maxRecDepth 100000 in
theorem spec_l6Put.calls (k : Nat) (P0_ : Nat → Prop) (u9000_ : Value) (l0 : List Int) (a1 : Int) (r : List Int) (w0 w : World) (hB : Below w0.heap.size w0 w) (ho0 : Kd.R (Kd.int .i64) 3 w w0.heap.size P0_ u9000_ l0) (h : spec_l6Put.f k l0 a1 = some r) :
  Calls Try.prog 25 #[u9000_, .int .i64 a1] w fun e w' => ∃ v0_ : Value, e = .returned (v0_) ∧ Kd.R (Kd.int .i64) 3 w' w0.heap.size (fun k_ => (P0_ k_ ∨ w.heap.size ≤ k_)) v0_ r ∧ Below w0.heap.size w0 w' ∧ Kept w w' (fun k_ => P0_ k_) := by
 have HO0 := am_ (show Kd.R (Kd.int .i64) 3 w w0.heap.size (fun k_ => (P0_ k_ ∨ w.heap.size ≤ k_)) u9000_ l0 from Kd.R_mono ho0 (fun k_ hk => (.inl hk)))
 have HK := am_ (Kept.refl w (fun k_ => P0_ k_))
 have HW0 := am_ hB.size
 have HB := am_ hB
 clear hB
 have H : (spec_l6Put.l0 k l0 a1 0) = some r := h
 clear h
 have H' := am_ H
 clear H
 go_enter Try.func25, Try.ntmps25
 go_wp2
 go_loopg [5] k (fun kq v5 w' => ∃ (aa : Int), v5 = .int .i64 aa ∧ Aside0 (spec_l6Put.l0 kq l0 a1 aa = some r) ∧ Aside0 (kq ≤ k) ∧ Aside0 (Kd.R (Kd.int .i64) 3 w' w0.heap.size (fun k_ => (P0_ k_ ∨ w.heap.size ≤ k_)) u9000_ l0) ∧ Aside0 (Kept w w' (fun k_ => P0_ k_)) ∧ Aside0 (Below w0.heap.size w0 w'))
 case atStart => exact ⟨(0), (by first | rfl | (simp; done) | (simp [*]; done)), H', ⟨Nat.le_refl _⟩, ⟨by refine rr_ ?_; exact HO0.out⟩, ⟨by exact zp3_0_ HK.out⟩, ⟨by exact zp3_1_ HB.out⟩⟩
 case round =>
  clear H'
  try clear c2
  try clear p2
  obtain ⟨aa, rfl, HA, HK1, ab, HK, HB⟩ := hrel
  cases gk with
  | zero => exact absurd HA.out (by simp [spec_l6Put.l0])
  | succ k1 =>
   have H := HA.out
   clear HA
   simp only [spec_l6Put.l0] at H
   by_cases c3 : aa < (l0.length : Int)
   ·rw [if_pos c3] at H
    have c3b0 : decide (aa < (l0.length : Int)) = true := decide_eq_true c3
    clear c3
    by_cases c4 : 0 ≤ aa
    ·rw [if_pos c4] at H
     have c4b0 : decide (0 ≤ aa) = true := decide_eq_true c4
     clear c4
     by_cases c5 : (rd l0 aa) < a1
     ·rw [if_pos c5] at H
      have c5b0 : decide ((rd l0 aa) < a1) = true := decide_eq_true c5
      clear c5
      have H' := am_ H
      clear H
      obtain ⟨Ao6, co6, eo6⟩ := Kd.R_slice ab.out
      subst eo6
      have p118 : 0 ≤ (aa : Int) := of_decide_eq_true ah_
      have q118 : aa < (l0.length : Int) := of_decide_eq_true ah_
      obtain ⟨af, e118, av⟩ := Kd.at_int (Kd.R_reads' ab.out).2.2 aa p118 q118
      cases e118
      replace p118 := eq_true p118
      replace q118 := eq_true q118
      go_wp2
      go_roundg k1
      case measure => have := HK1.out; omega
      case rel => exact ⟨(wrap64 (aa + 1)), (by first | rfl | (simp; done) | (simp [*]; done)), H', ⟨by have := HK1.out; omega⟩, ⟨by refine rr_ ?_; exact ab.out⟩, ⟨by exact zp3_0_ HK.out⟩, ⟨by exact zp3_1_ HB.out⟩⟩
     ·rw [if_neg c5] at H
      have c5b0 : decide ((rd l0 aa) < a1) = false := decide_eq_false c5
      clear c5
      by_cases c7 : (rd l0 aa) = a1
      ·rw [if_pos c7] at H
       have c7b0 : ((rd l0 aa) == a1) = true := beq_iff_eq.mpr c7
       have c7b1 : ((rd l0 aa) != a1) = false := bne_eq_false_iff_eq.mpr c7
       clear c7
       obtain rfl := Option.some.inj H
       simp only [Option.some.injEq, Prod.mk.injEq] at H
       obtain ⟨rfl⟩ := H
       obtain ⟨Ao8, co8, eo8⟩ := Kd.R_slice ab.out
       subst eo8
       have p118 : 0 ≤ (aa : Int) := of_decide_eq_true ah_
       have q118 : aa < (l0.length : Int) := of_decide_eq_true ah_
       obtain ⟨af, e118, av⟩ := Kd.at_int (Kd.R_reads' ab.out).2.2 aa p118 q118
       cases e118
       replace p118 := eq_true p118
       replace q118 := eq_true q118
       have p119 : 0 ≤ (aa : Int) := of_decide_eq_true ah_
       have q119 : aa < (l0.length : Int) := of_decide_eq_true ah_
       obtain ⟨aw, e119, aJ⟩ := Kd.at_int (Kd.R_reads' ab.out).2.2 aa p119 q119
       obtain rfl : af = aw := (by injection e119)
       replace p119 := eq_true p119
       replace q119 := eq_true q119
       go_wp2
       go_ret
       exact ⟨_, by first | rfl | (simp [errW_none, errW_some] <;> rfl) | (simp [*, errW_none, errW_some] <;> rfl), by refine rr_ ?_; exact ab.out, by exact zp3_1_ HB.out, by exact zp3_0_ HK.out⟩
      ·rw [if_neg c7] at H
       have c7b0 : ((rd l0 aa) == a1) = false := beq_eq_false_iff_ne.mpr c7
       have c7b1 : ((rd l0 aa) != a1) = true := bne_iff_ne.mpr c7
       obtain ⟨ap, hy120⟩ : ∃ y_ : List Int, y_ = (([] : List Int)) := ⟨_, rfl⟩
       replace H : (if aa ≤ (l0.length : Int) then ((some (l0.take (aa : Int).toNat : List Int)).bind fun ag => (if ap.length + ag.length < 17592186044416 then ((some (ap ++ ag : List Int)).bind fun ak => (if ak.length < 17592186044416 then ((some (ak ++ [a1] : List Int)).bind fun ah => ((some (l0.drop (aa : Int).toNat : List Int)).bind fun ad => (if ah.length + ad.length < 17592186044416 then (some (ah ++ ad)) else (none)))) else (none))) else (none))) else (none)) = some r := by first | (rw [hy120]; with_reducible exact H) | (have H2_ := (Option.bind_some _ _).symm.trans H; rw [hy120]; with_reducible exact H2_) | (have H2_ := (Option.bind_some _ _).symm.trans H; with_reducible exact H2_) | with_reducible exact H | (rw [hy120]; exact H) | exact H
       have aH := am_ hy120
       clear hy120
       have c9b0 := eq_true (of_decide_eq_true ah_ : 0 ≤ aa)
       by_cases c10 : aa ≤ (l0.length : Int)
       ·rw [if_pos c10] at H
        have c10b0 := eq_true c10
        have c10b1 : decide (aa ≤ (l0.length : Int)) = true := decide_eq_true c10
        clear c10
        obtain ⟨ag, hy123⟩ : ∃ y_ : List Int, y_ = (l0.take (aa : Int).toNat) := ⟨_, rfl⟩
        replace H : (if ap.length + ag.length < 17592186044416 then ((some (ap ++ ag : List Int)).bind fun ak => (if ak.length < 17592186044416 then ((some (ak ++ [a1] : List Int)).bind fun ah => ((some (l0.drop (aa : Int).toNat : List Int)).bind fun ad => (if ah.length + ad.length < 17592186044416 then (some (ah ++ ad)) else (none)))) else (none))) else (none)) = some r := by first | (rw [hy123]; with_reducible exact H) | (have H2_ := (Option.bind_some _ _).symm.trans H; rw [hy123]; with_reducible exact H2_) | (have H2_ := (Option.bind_some _ _).symm.trans H; with_reducible exact H2_) | with_reducible exact H | (rw [hy123]; exact H) | exact H
        have ar := am_ hy123
        clear hy123
        by_cases c11 : ap.length + ag.length < 17592186044416
        ·rw [if_pos c11] at H
         have LMc11 := am_ c11
         clear c11
         obtain ⟨ak, hy127⟩ : ∃ y_ : List Int, y_ = (ap ++ ag) := ⟨_, rfl⟩
         replace H : (if ak.length < 17592186044416 then ((some (ak ++ [a1] : List Int)).bind fun ah => ((some (l0.drop (aa : Int).toNat : List Int)).bind fun ad => (if ah.length + ad.length < 17592186044416 then (some (ah ++ ad)) else (none)))) else (none)) = some r := by first | (rw [hy127]; with_reducible exact H) | (have H2_ := (Option.bind_some _ _).symm.trans H; rw [hy127]; with_reducible exact H2_) | (have H2_ := (Option.bind_some _ _).symm.trans H; with_reducible exact H2_) | with_reducible exact H | (rw [hy127]; exact H) | exact H
         have aK := am_ hy127
         clear hy127
         by_cases c12 : ak.length < 17592186044416
         ·rw [if_pos c12] at H
          have LMc12 := am_ c12
          clear c12
          obtain ⟨ah, hy130⟩ : ∃ y_ : List Int, y_ = (ak ++ [a1]) := ⟨_, rfl⟩
          replace H : ((some (l0.drop (aa : Int).toNat : List Int)).bind fun ad => (if ah.length + ad.length < 17592186044416 then (some (ah ++ ad)) else (none))) = some r := by first | (rw [hy130]; with_reducible exact H) | (have H2_ := (Option.bind_some _ _).symm.trans H; rw [hy130]; with_reducible exact H2_) | (have H2_ := (Option.bind_some _ _).symm.trans H; with_reducible exact H2_) | with_reducible exact H | (rw [hy130]; exact H) | exact H
          have aM := am_ hy130
          clear hy130
          have c13b0 := eq_true (of_decide_eq_true ah_ : 0 ≤ aa)
          have c14b0 := eq_true (of_decide_eq_true ah_ : aa ≤ (l0.length : Int))
          obtain ⟨ad, hy133⟩ : ∃ y_ : List Int, y_ = (l0.drop (aa : Int).toNat) := ⟨_, rfl⟩
          replace H : (if ah.length + ad.length < 17592186044416 then (some (ah ++ ad)) else (none)) = some r := by first | (rw [hy133]; with_reducible exact H) | (have H2_ := (Option.bind_some _ _).symm.trans H; rw [hy133]; with_reducible exact H2_) | (have H2_ := (Option.bind_some _ _).symm.trans H; with_reducible exact H2_) | with_reducible exact H | (rw [hy133]; exact H) | exact H
          have ax := am_ hy133
          clear hy133
          by_cases c15 : ah.length + ad.length < 17592186044416
          ·rw [if_pos c15] at H
           have LMc15 := am_ c15
           clear c15
           obtain ⟨aX, hy137⟩ : ∃ y_ : List Int, y_ = (ah ++ ad) := ⟨_, rfl⟩
           replace H : (some aX) = some r := by first | (rw [hy137]; with_reducible exact H) | (have H2_ := (Option.bind_some _ _).symm.trans H; rw [hy137]; with_reducible exact H2_) | (have H2_ := (Option.bind_some _ _).symm.trans H; with_reducible exact H2_) | with_reducible exact H | (rw [hy137]; exact H) | exact H
           have aN := am_ hy137
           clear hy137
           obtain rfl := Option.some.inj H
           simp only [Option.some.injEq, Prod.mk.injEq] at H
           obtain ⟨rfl⟩ := H
           obtain ⟨bh, am, aY⟩ := Kd.R_slice ab.out
           subst aY
           have p118 : 0 ≤ (aa : Int) := of_decide_eq_true ah_
           have q118 : aa < (l0.length : Int) := of_decide_eq_true ah_
           obtain ⟨af, e118, av⟩ := Kd.at_int (Kd.R_reads' ab.out).2.2 aa p118 q118
           cases e118
           replace p118 := eq_true p118
           replace q118 := eq_true q118
           have p119 : 0 ≤ (aa : Int) := of_decide_eq_true ah_
           have q119 : aa < (l0.length : Int) := of_decide_eq_true ah_
           obtain ⟨aw, e119, aJ⟩ := Kd.at_int (Kd.R_reads' ab.out).2.2 aa p119 q119
           obtain rfl : af = aw := (by injection e119)
           replace p119 := eq_true p119
           replace q119 := eq_true q119
           go_wp2_with (first | ((with_reducible refine gate_dst (N := 34) rfl ?_); refine Kd.R_lit (Kd.int .i64) _ 3 ?hg (N := 34) ?hd (xs := ([] : List Int)) (inner := []) (ok := fun _ => True) (okp := fun _ => True) ?hr ?hp (fun _ hk => hk) trivial (Below.refl _ _) (Nat.le_refl _) (by simp) ?_; (case hd => rfl); (case hg => rfl); (case hr => first | (go_simp; done) | (go_simp; rfl)); (case hp => exact (Reps.none _ _)); intro aZ w17 ho18 hb hg_ hnew_; clear hg_ hnew_; (first | rw [← aH.out] at ho18 | (simp only [Int.reduceToNat] at ho18; rw [← aH.out] at ho18)); have n0_ := am_ (Kd.R_elder' (rr_ ab.out) (Kd.R_base ho18) hb); have n1_ := am_ (Kd.R_lower (Kd.R_new' (Kd.R_newM (M := fun k_ => (P0_ k_ ∨ w.heap.size ≤ k_)) ho18 (by first | exact HK.out.1 | exact (show Kept w _ (fun k_ => P0_ k_) from by exact zp3_0_ HK.out).1) (fun k_ h_ => .inr h_)) (Kd.R_lt (rr_ ab.out))) (below_size (b0_ HB.out))); have n2_ := am_ (Kept.below (S := (fun k_ => P0_ k_)) (zp3_0_ HK.out) hb); have n3_ := am_ (below_step (b0_ HB.out) hb); clear ab; clear HK; clear HB; have ab := n0_; have ay := n1_; have HK := n2_; have HB := n3_; clear n0_ n1_ n2_ n3_; clear hb ho18; have q19 : (aa : Int) ≤ ((l0.length : Int) : Int) := of_decide_eq_true ah_; obtain ⟨i019, hi019, _, hsz19, _⟩ := info_parts info3; have hroom19 : l0.length ≤ am := (Kd.R_reads' ab.out).2.1; have hC19 : Kd.C (Kd.int .i64) _ (some af) l0.length l0 := (Kd.R_reads' ab.out).2.2; have hcut19 := cut_to (P := Try.prog) 43 3 .i64 Try.underlying43 hi019 (some af) l0.length am aa (of_decide_eq_true ah_) q19 hroom19; have hr19 := Kd.C_take (m := (aa : Int).toNat) hC19 (by omega); have hy19 : ag.length = (aa : Int).toNat := (by rw [ar.out, List.length_take]; omega); rw [← ar.out] at hr19; rw [← hy19] at hcut19; have HR126 := am_ hr19; have HC126 := am_ (show ag.length ≤ am from by omega); clear hr19 hC19 hroom19 hi019 hsz19; have KY19 := am_ hy19; clear hy19; have KL19 := am_ (show (aa : Int).toNat ≤ l0.length from by omega); replace q19 := eq_true q19) | ((with_reducible refine gate_builtin (b := .append) (xs := #[.tmp 34, .tmp 37]) rfl ?_); at_builtin; refine Kd.R_append_rows (Kd.int .i64) (w0 := w0) w0.heap.size rfl (.tmp 34) (.tmp 37) 43 3 (.int .i64 0) 8 rfl Try.underlying43 info3 rfl (by decide) (by omega) aZ ap ag _ _ _ (fun k_ => (P0_ k_ ∨ w.heap.size ≤ k_) ∧ some k_ ≠ (.slice (some af) l0.length am : Value).ownBlock) (fun _ => False) rfl rfl ?aO ?aR (fun _ _ h => h) (fun _ h => h.elim) ?aF ?aB ?aS ?aL ?_; (case aR => exact rc_ (by repeat (first | (with_reducible exact HR126.out) | (with_reducible refine Kd.C_alloc ?_ _) | (with_reducible refine Kd.C_drewN ?_ _) | (with_reducible refine Kd.C_drew ?_) | exact HR126.out))); (case aB => exact (b0_ HB.out)); (case aF => exact (fun k_ hk => ⟨(.inr (Nat.le_trans (by first | exact HK.out.1 | exact (show Kept w _ (fun k_ => P0_ k_) from by exact zp3_0_ HK.out).1) hk)), Kd.fresh' (Kd.R_lt (rr_ ab.out)) k_ hk⟩)); (case aO => exact (by refine rr_ ?_; exact Kd.R_mono ay.out (fun _ hk => ⟨hk.1.1, hk.2⟩))); (case aS => exact (below_size (b0_ HB.out))); (case aL => have := LMc11.out; omega); intro ba w20 ho hb hg hat; rw [← aK.out] at ho; have n0_ := am_ (Kd.R_after (ok := (fun k_ => (P0_ k_ ∨ w.heap.size ≤ k_))) (rr_ ab.out) hg hat); have n1_ := am_ (hb); have n2_ := am_ (Kept.of_grown (S := (fun k_ => P0_ k_)) hg (zp3_0_ HK.out) (fun k_ e_ => (ay.out.1 k_ e_).1.1)); have n3_ := am_ ((show Kd.C (Kd.int .i64) w20 (some af) ag.length ag from by rw [ar.out]; exact Kd.C_take (m := (aa : Int).toNat) ((Kd.R_reads' (Kd.R_after (ok := (fun k_ => (P0_ k_ ∨ w.heap.size ≤ k_))) (rr_ ab.out) hg hat)).2.2) KL19.out)); have n4_ := am_ (ho); clear ab; clear HB; clear HK; clear HR126; clear ay; have ab := n0_; have HB := n1_; have HK := n2_; have HR126 := n3_; have az := n4_; clear n0_ n1_ n2_ n3_ n4_; clear ho hb hg hat) | ((with_reducible refine gate_builtin (b := .append) (xs := #[.tmp 39, .tmp 41]) rfl ?_); at_builtin; refine Kd.R_append (Kd.int .i64) (w0 := w0) w0.heap.size rfl (.tmp 39) (.tmp 41) 43 3 (.int .i64 0) 8 rfl Try.underlying43 info3 rfl (by decide) (by omega) ba ak a1 [.int .i64 a1] (fun k_ => (P0_ k_ ∨ w.heap.size ≤ k_) ∧ some k_ ≠ (.slice (some af) l0.length am : Value).ownBlock) (fun _ => False) rfl rfl ?aP (fun _ hk => hk.elim) ?aF ?aO ?aB ?aS ?aL ?_; (case aP => exact rfl); (case aB => exact (b0_ HB.out)); (case aF => exact (fun k_ hk => ⟨(.inr (Nat.le_trans (by first | exact HK.out.1 | exact (show Kept w _ (fun k_ => P0_ k_) from by exact zp3_0_ HK.out).1) hk)), Kd.fresh' (Kd.R_lt (rr_ ab.out)) k_ hk⟩)); (case aO => exact (rr_ az.out)); (case aS => exact (below_size (b0_ HB.out))); (case aL => have := LMc12.out; omega); intro bb w21 ho hb hg hat; rw [← aM.out] at ho; have n0_ := am_ (Kd.R_after (ok := (fun k_ => (P0_ k_ ∨ w.heap.size ≤ k_))) (rr_ ab.out) hg hat); have n1_ := am_ (hb); have n2_ := am_ (Kept.of_grown (S := (fun k_ => P0_ k_)) hg (zp3_0_ HK.out) (fun k_ e_ => (az.out.1 k_ e_).1)); have n3_ := am_ ((show Kd.C (Kd.int .i64) w21 (some af) ag.length ag from by rw [ar.out]; exact Kd.C_take (m := (aa : Int).toNat) ((Kd.R_reads' (Kd.R_after (ok := (fun k_ => (P0_ k_ ∨ w.heap.size ≤ k_))) (rr_ ab.out) hg hat)).2.2) KL19.out)); have n4_ := am_ (ho); clear ab; clear HB; clear HK; clear HR126; clear az; have ab := n0_; have HB := n1_; have HK := n2_; have HR126 := n3_; have aA := n4_; clear n0_ n1_ n2_ n3_ n4_; clear ho hb hg hat; have q22 : (aa : Int) ≤ ((l0.length : Int) : Int) := of_decide_eq_true ah_; obtain ⟨i022, hi022, _, hsz22, _⟩ := info_parts info3; have hroom22 : l0.length ≤ am := (Kd.R_reads' ab.out).2.1; have hC22 : Kd.C (Kd.int .i64) _ (some af) l0.length l0 := (Kd.R_reads' ab.out).2.2; have q022 : (0 : Int) ≤ (aa : Int) := of_decide_eq_true ah_; have hcut22 := cut_from (P := Try.prog) 43 3 .i64 Try.underlying43 hi022 1 hsz22 (some af) l0.length am aa q022 q22; have hr22 := Kd.C_drop (m := (aa : Int).toNat) (c := am) hC22 (by omega) hroom22; obtain ⟨A22, hA22⟩ : ∃ A1, A1 = (if am = (aa : Int).toNat then (some af) else ((some af) : Option Addr).map (·.add ((aa : Int).toNat * 1))) := ⟨_, rfl⟩; obtain ⟨c22, hc22⟩ : ∃ c1, c1 = am - (aa : Int).toNat := ⟨_, rfl⟩; have hy22 : ad.length = l0.length - (aa : Int).toNat := (by rw [ax.out, List.length_drop] <;> omega); rw [show (l0).drop (aa : Int).toNat = ad from ax.out.symm] at hr22; replace hr22 : Kd.C (Kd.int .i64) _ A22 ad.length ad := (by rw [hA22]; exact hr22); rw [← hy22, ← hA22, ← hc22] at hcut22; have HR136 := am_ hr22; have HC136 := am_ (show ad.length ≤ c22 from by rw [hy22, hc22]; exact Nat.sub_le_sub_right hroom22 _); clear hr22 hC22 hroom22 hi022 hsz22 hc22; have KY22 := am_ hy22; have KA22 := am_ hA22; clear hy22 hA22; have KL22 := am_ (show (aa : Int).toNat ≤ l0.length from by omega); replace q22 := eq_true q22) | ((with_reducible refine gate_builtin (b := .append) (xs := #[.tmp 43, .tmp 46]) rfl ?_); at_builtin; refine Kd.R_append_rows (Kd.int .i64) (w0 := w0) w0.heap.size rfl (.tmp 43) (.tmp 46) 43 3 (.int .i64 0) 8 rfl Try.underlying43 info3 rfl (by decide) (by omega) bb ah ad _ _ _ (fun k_ => (P0_ k_ ∨ w.heap.size ≤ k_) ∧ some k_ ≠ (.slice (some af) l0.length am : Value).ownBlock) (fun _ => False) rfl rfl ?aO ?aR (fun _ _ h => h) (fun _ h => h.elim) ?aF ?aB ?aS ?aL ?_; (case aR => exact rc_ (by repeat (first | (with_reducible exact HR136.out) | (with_reducible refine Kd.C_alloc ?_ _) | (with_reducible refine Kd.C_drewN ?_ _) | (with_reducible refine Kd.C_drew ?_) | exact HR136.out))); (case aB => exact (b0_ HB.out)); (case aF => exact (fun k_ hk => ⟨(.inr (Nat.le_trans (by first | exact HK.out.1 | exact (show Kept w _ (fun k_ => P0_ k_) from by exact zp3_0_ HK.out).1) hk)), Kd.fresh' (Kd.R_lt (rr_ ab.out)) k_ hk⟩)); (case aO => exact (rr_ aA.out)); (case aS => exact (below_size (b0_ HB.out))); (case aL => have := LMc15.out; omega); intro bi w23 ho hb hg hat; rw [← aN.out] at ho; have n0_ := am_ (Kd.R_after (ok := (fun k_ => (P0_ k_ ∨ w.heap.size ≤ k_))) (rr_ ab.out) hg hat); have n1_ := am_ (hb); have n2_ := am_ (Kept.of_grown (S := (fun k_ => P0_ k_)) hg (zp3_0_ HK.out) (fun k_ e_ => (aA.out.1 k_ e_).1)); have n3_ := am_ ((show Kd.C (Kd.int .i64) w23 (some af) ag.length ag from by rw [ar.out]; exact Kd.C_take (m := (aa : Int).toNat) ((Kd.R_reads' (Kd.R_after (ok := (fun k_ => (P0_ k_ ∨ w.heap.size ≤ k_))) (rr_ ab.out) hg hat)).2.2) KL19.out)); have n4_ := am_ ((show Kd.C (Kd.int .i64) w23 A22 ad.length ad from by rw [ax.out, KA22.out]; exact Kd.C_drop (m := (aa : Int).toNat) (c := am) ((Kd.R_reads' (Kd.R_after (ok := (fun k_ => (P0_ k_ ∨ w.heap.size ≤ k_))) (rr_ ab.out) hg hat)).2.2) KL22.out ((Kd.R_reads' (Kd.R_after (ok := (fun k_ => (P0_ k_ ∨ w.heap.size ≤ k_))) (rr_ ab.out) hg hat)).2.1))); have n5_ := am_ (ho); clear ab; clear HB; clear HK; clear HR126; clear HR136; clear aA; have ab := n0_; have HB := n1_; have HK := n2_; have HR126 := n3_; have HR136 := n4_; have aQ := n5_; clear n0_ n1_ n2_ n3_ n4_ n5_; clear ho hb hg hat))
           go_ret
           exact ⟨_, by first | rfl | (simp [errW_none, errW_some] <;> rfl) | (simp [*, errW_none, errW_some] <;> rfl), by refine rr_ ?_; exact Kd.R_mono aQ.out (fun _ hk => hk.1), by exact zp3_1_ HB.out, by exact zp3_0_ HK.out⟩
          ·rw [if_neg c15] at H
           exact absurd H (by simp)
         ·rw [if_neg c12] at H
          exact absurd H (by simp)
        ·rw [if_neg c11] at H
         exact absurd H (by simp)
       ·rw [if_neg c10] at H
        exact absurd H (by simp)
    ·rw [if_neg c4] at H
     exact absurd H (by simp)
   ·rw [if_neg c3] at H
    have c3b0 : decide (aa < (l0.length : Int)) = false := decide_eq_false c3
    clear c3
    obtain ⟨aq, hy140⟩ : ∃ y_ : List Int, y_ = (([] : List Int)) := ⟨_, rfl⟩
    replace H : (if 0 ≤ aa then (if aa ≤ (l0.length : Int) then ((some (l0.take (aa : Int).toNat : List Int)).bind fun ai => (if aq.length + ai.length < 17592186044416 then ((some (aq ++ ai : List Int)).bind fun al => (if al.length < 17592186044416 then ((some (al ++ [a1] : List Int)).bind fun aj => ((some (l0.drop (aa : Int).toNat : List Int)).bind fun ae => (if aj.length + ae.length < 17592186044416 then (some (aj ++ ae)) else (none)))) else (none))) else (none))) else (none)) else (none)) = some r := by first | (rw [hy140]; with_reducible exact H) | (have H2_ := (Option.bind_some _ _).symm.trans H; rw [hy140]; with_reducible exact H2_) | (have H2_ := (Option.bind_some _ _).symm.trans H; with_reducible exact H2_) | with_reducible exact H | (rw [hy140]; exact H) | exact H
    have aI := am_ hy140
    clear hy140
    by_cases c24 : 0 ≤ aa
    ·rw [if_pos c24] at H
     have c24b0 := eq_true c24
     have c24b1 : decide (0 ≤ aa) = true := decide_eq_true c24
     clear c24
     by_cases c25 : aa ≤ (l0.length : Int)
     ·rw [if_pos c25] at H
      have c25b0 := eq_true c25
      have c25b1 : decide (aa ≤ (l0.length : Int)) = true := decide_eq_true c25
      clear c25
      obtain ⟨ai, hy143⟩ : ∃ y_ : List Int, y_ = (l0.take (aa : Int).toNat) := ⟨_, rfl⟩
      replace H : (if aq.length + ai.length < 17592186044416 then ((some (aq ++ ai : List Int)).bind fun al => (if al.length < 17592186044416 then ((some (al ++ [a1] : List Int)).bind fun aj => ((some (l0.drop (aa : Int).toNat : List Int)).bind fun ae => (if aj.length + ae.length < 17592186044416 then (some (aj ++ ae)) else (none)))) else (none))) else (none)) = some r := by first | (rw [hy143]; with_reducible exact H) | (have H2_ := (Option.bind_some _ _).symm.trans H; rw [hy143]; with_reducible exact H2_) | (have H2_ := (Option.bind_some _ _).symm.trans H; with_reducible exact H2_) | with_reducible exact H | (rw [hy143]; exact H) | exact H
      have au := am_ hy143
      clear hy143
      by_cases c26 : aq.length + ai.length < 17592186044416
      ·rw [if_pos c26] at H
       have LMc26 := am_ c26
       clear c26
       obtain ⟨al, hy147⟩ : ∃ y_ : List Int, y_ = (aq ++ ai) := ⟨_, rfl⟩
       replace H : (if al.length < 17592186044416 then ((some (al ++ [a1] : List Int)).bind fun aj => ((some (l0.drop (aa : Int).toNat : List Int)).bind fun ae => (if aj.length + ae.length < 17592186044416 then (some (aj ++ ae)) else (none)))) else (none)) = some r := by first | (rw [hy147]; with_reducible exact H) | (have H2_ := (Option.bind_some _ _).symm.trans H; rw [hy147]; with_reducible exact H2_) | (have H2_ := (Option.bind_some _ _).symm.trans H; with_reducible exact H2_) | with_reducible exact H | (rw [hy147]; exact H) | exact H
       have aT := am_ hy147
       clear hy147
       by_cases c27 : al.length < 17592186044416
       ·rw [if_pos c27] at H
        have LMc27 := am_ c27
        clear c27
        obtain ⟨aj, hy150⟩ : ∃ y_ : List Int, y_ = (al ++ [a1]) := ⟨_, rfl⟩
        replace H : ((some (l0.drop (aa : Int).toNat : List Int)).bind fun ae => (if aj.length + ae.length < 17592186044416 then (some (aj ++ ae)) else (none))) = some r := by first | (rw [hy150]; with_reducible exact H) | (have H2_ := (Option.bind_some _ _).symm.trans H; rw [hy150]; with_reducible exact H2_) | (have H2_ := (Option.bind_some _ _).symm.trans H; with_reducible exact H2_) | with_reducible exact H | (rw [hy150]; exact H) | exact H
        have aU := am_ hy150
        clear hy150
        have c28b0 := eq_true (of_decide_eq_true ah_ : 0 ≤ aa)
        have c29b0 := eq_true (of_decide_eq_true ah_ : aa ≤ (l0.length : Int))
        obtain ⟨ae, hy153⟩ : ∃ y_ : List Int, y_ = (l0.drop (aa : Int).toNat) := ⟨_, rfl⟩
        replace H : (if aj.length + ae.length < 17592186044416 then (some (aj ++ ae)) else (none)) = some r := by first | (rw [hy153]; with_reducible exact H) | (have H2_ := (Option.bind_some _ _).symm.trans H; rw [hy153]; with_reducible exact H2_) | (have H2_ := (Option.bind_some _ _).symm.trans H; with_reducible exact H2_) | with_reducible exact H | (rw [hy153]; exact H) | exact H
        have aC := am_ hy153
        clear hy153
        by_cases c30 : aj.length + ae.length < 17592186044416
        ·rw [if_pos c30] at H
         have LMc30 := am_ c30
         clear c30
         obtain ⟨bc, hy157⟩ : ∃ y_ : List Int, y_ = (aj ++ ae) := ⟨_, rfl⟩
         replace H : (some bc) = some r := by first | (rw [hy157]; with_reducible exact H) | (have H2_ := (Option.bind_some _ _).symm.trans H; rw [hy157]; with_reducible exact H2_) | (have H2_ := (Option.bind_some _ _).symm.trans H; with_reducible exact H2_) | with_reducible exact H | (rw [hy157]; exact H) | exact H
         have aV := am_ hy157
         clear hy157
         obtain rfl := Option.some.inj H
         simp only [Option.some.injEq, Prod.mk.injEq] at H
         obtain ⟨rfl⟩ := H
         obtain ⟨an, ao, bd⟩ := Kd.R_slice ab.out
         subst bd
         go_wp2_with (first | ((with_reducible refine gate_dst (N := 34) rfl ?_); refine Kd.R_lit (Kd.int .i64) _ 3 ?hg (N := 34) ?hd (xs := ([] : List Int)) (inner := []) (ok := fun _ => True) (okp := fun _ => True) ?hr ?hp (fun _ hk => hk) trivial (Below.refl _ _) (Nat.le_refl _) (by simp) ?_; (case hd => rfl); (case hg => rfl); (case hr => first | (go_simp; done) | (go_simp; rfl)); (case hp => exact (Reps.none _ _)); intro be w32 ho33 hb hg_ hnew_; clear hg_ hnew_; (first | rw [← aI.out] at ho33 | (simp only [Int.reduceToNat] at ho33; rw [← aI.out] at ho33)); have n0_ := am_ (Kd.R_elder' (rr_ ab.out) (Kd.R_base ho33) hb); have n1_ := am_ (Kd.R_lower (Kd.R_new' (Kd.R_newM (M := fun k_ => (P0_ k_ ∨ w.heap.size ≤ k_)) ho33 (by first | exact HK.out.1 | exact (show Kept w _ (fun k_ => P0_ k_) from by exact zp3_0_ HK.out).1) (fun k_ h_ => .inr h_)) (Kd.R_lt (rr_ ab.out))) (below_size (b0_ HB.out))); have n2_ := am_ (Kept.below (S := (fun k_ => P0_ k_)) (zp3_0_ HK.out) hb); have n3_ := am_ (below_step (b0_ HB.out) hb); clear ab; clear HK; clear HB; have ab := n0_; have aD := n1_; have HK := n2_; have HB := n3_; clear n0_ n1_ n2_ n3_; clear hb ho33; have q34 : (aa : Int) ≤ ((l0.length : Int) : Int) := of_decide_eq_true ah_; obtain ⟨i034, hi034, _, hsz34, _⟩ := info_parts info3; have hroom34 : l0.length ≤ ao := (Kd.R_reads' ab.out).2.1; have hC34 : Kd.C (Kd.int .i64) _ an l0.length l0 := (Kd.R_reads' ab.out).2.2; have hcut34 := cut_to (P := Try.prog) 43 3 .i64 Try.underlying43 hi034 an l0.length ao aa (of_decide_eq_true ah_) q34 hroom34; have hr34 := Kd.C_take (m := (aa : Int).toNat) hC34 (by omega); have hy34 : ai.length = (aa : Int).toNat := (by rw [au.out, List.length_take]; omega); rw [← au.out] at hr34; rw [← hy34] at hcut34; have HR146 := am_ hr34; have HC146 := am_ (show ai.length ≤ ao from by omega); clear hr34 hC34 hroom34 hi034 hsz34; have KY34 := am_ hy34; clear hy34; have KL34 := am_ (show (aa : Int).toNat ≤ l0.length from by omega); replace q34 := eq_true q34) | ((with_reducible refine gate_builtin (b := .append) (xs := #[.tmp 34, .tmp 37]) rfl ?_); at_builtin; refine Kd.R_append_rows (Kd.int .i64) (w0 := w0) w0.heap.size rfl (.tmp 34) (.tmp 37) 43 3 (.int .i64 0) 8 rfl Try.underlying43 info3 rfl (by decide) (by omega) be aq ai _ _ _ (fun k_ => (P0_ k_ ∨ w.heap.size ≤ k_) ∧ some k_ ≠ (.slice an l0.length ao : Value).ownBlock) (fun _ => False) rfl rfl ?aO ?aR (fun _ _ h => h) (fun _ h => h.elim) ?aF ?aB ?aS ?aL ?_; (case aR => exact rc_ (by repeat (first | (with_reducible exact HR146.out) | (with_reducible refine Kd.C_alloc ?_ _) | (with_reducible refine Kd.C_drewN ?_ _) | (with_reducible refine Kd.C_drew ?_) | exact HR146.out))); (case aB => exact (b0_ HB.out)); (case aF => exact (fun k_ hk => ⟨(.inr (Nat.le_trans (by first | exact HK.out.1 | exact (show Kept w _ (fun k_ => P0_ k_) from by exact zp3_0_ HK.out).1) hk)), Kd.fresh' (Kd.R_lt (rr_ ab.out)) k_ hk⟩)); (case aO => exact (by refine rr_ ?_; exact Kd.R_mono aD.out (fun _ hk => ⟨hk.1.1, hk.2⟩))); (case aS => exact (below_size (b0_ HB.out))); (case aL => have := LMc26.out; omega); intro bf w35 ho hb hg hat; rw [← aT.out] at ho; have n0_ := am_ (Kd.R_after (ok := (fun k_ => (P0_ k_ ∨ w.heap.size ≤ k_))) (rr_ ab.out) hg hat); have n1_ := am_ (hb); have n2_ := am_ (Kept.of_grown (S := (fun k_ => P0_ k_)) hg (zp3_0_ HK.out) (fun k_ e_ => (aD.out.1 k_ e_).1.1)); have n3_ := am_ ((show Kd.C (Kd.int .i64) w35 an ai.length ai from by rw [au.out]; exact Kd.C_take (m := (aa : Int).toNat) ((Kd.R_reads' (Kd.R_after (ok := (fun k_ => (P0_ k_ ∨ w.heap.size ≤ k_))) (rr_ ab.out) hg hat)).2.2) KL34.out)); have n4_ := am_ (ho); clear ab; clear HB; clear HK; clear HR146; clear aD; have ab := n0_; have HB := n1_; have HK := n2_; have HR146 := n3_; have aE := n4_; clear n0_ n1_ n2_ n3_ n4_; clear ho hb hg hat) | ((with_reducible refine gate_builtin (b := .append) (xs := #[.tmp 39, .tmp 41]) rfl ?_); at_builtin; refine Kd.R_append (Kd.int .i64) (w0 := w0) w0.heap.size rfl (.tmp 39) (.tmp 41) 43 3 (.int .i64 0) 8 rfl Try.underlying43 info3 rfl (by decide) (by omega) bf al a1 [.int .i64 a1] (fun k_ => (P0_ k_ ∨ w.heap.size ≤ k_) ∧ some k_ ≠ (.slice an l0.length ao : Value).ownBlock) (fun _ => False) rfl rfl ?aP (fun _ hk => hk.elim) ?aF ?aO ?aB ?aS ?aL ?_; (case aP => exact rfl); (case aB => exact (b0_ HB.out)); (case aF => exact (fun k_ hk => ⟨(.inr (Nat.le_trans (by first | exact HK.out.1 | exact (show Kept w _ (fun k_ => P0_ k_) from by exact zp3_0_ HK.out).1) hk)), Kd.fresh' (Kd.R_lt (rr_ ab.out)) k_ hk⟩)); (case aO => exact (rr_ aE.out)); (case aS => exact (below_size (b0_ HB.out))); (case aL => have := LMc27.out; omega); intro bg w36 ho hb hg hat; rw [← aU.out] at ho; have n0_ := am_ (Kd.R_after (ok := (fun k_ => (P0_ k_ ∨ w.heap.size ≤ k_))) (rr_ ab.out) hg hat); have n1_ := am_ (hb); have n2_ := am_ (Kept.of_grown (S := (fun k_ => P0_ k_)) hg (zp3_0_ HK.out) (fun k_ e_ => (aE.out.1 k_ e_).1)); have n3_ := am_ ((show Kd.C (Kd.int .i64) w36 an ai.length ai from by rw [au.out]; exact Kd.C_take (m := (aa : Int).toNat) ((Kd.R_reads' (Kd.R_after (ok := (fun k_ => (P0_ k_ ∨ w.heap.size ≤ k_))) (rr_ ab.out) hg hat)).2.2) KL34.out)); have n4_ := am_ (ho); clear ab; clear HB; clear HK; clear HR146; clear aE; have ab := n0_; have HB := n1_; have HK := n2_; have HR146 := n3_; have aG := n4_; clear n0_ n1_ n2_ n3_ n4_; clear ho hb hg hat; have q37 : (aa : Int) ≤ ((l0.length : Int) : Int) := of_decide_eq_true ah_; obtain ⟨i037, hi037, _, hsz37, _⟩ := info_parts info3; have hroom37 : l0.length ≤ ao := (Kd.R_reads' ab.out).2.1; have hC37 : Kd.C (Kd.int .i64) _ an l0.length l0 := (Kd.R_reads' ab.out).2.2; have q037 : (0 : Int) ≤ (aa : Int) := of_decide_eq_true ah_; have hcut37 := cut_from (P := Try.prog) 43 3 .i64 Try.underlying43 hi037 1 hsz37 an l0.length ao aa q037 q37; have hr37 := Kd.C_drop (m := (aa : Int).toNat) (c := ao) hC37 (by omega) hroom37; obtain ⟨A37, hA37⟩ : ∃ A1, A1 = (if ao = (aa : Int).toNat then an else (an : Option Addr).map (·.add ((aa : Int).toNat * 1))) := ⟨_, rfl⟩; obtain ⟨c37, hc37⟩ : ∃ c1, c1 = ao - (aa : Int).toNat := ⟨_, rfl⟩; have hy37 : ae.length = l0.length - (aa : Int).toNat := (by rw [aC.out, List.length_drop] <;> omega); rw [show (l0).drop (aa : Int).toNat = ae from aC.out.symm] at hr37; replace hr37 : Kd.C (Kd.int .i64) _ A37 ae.length ae := (by rw [hA37]; exact hr37); rw [← hy37, ← hA37, ← hc37] at hcut37; have HR156 := am_ hr37; have HC156 := am_ (show ae.length ≤ c37 from by rw [hy37, hc37]; exact Nat.sub_le_sub_right hroom37 _); clear hr37 hC37 hroom37 hi037 hsz37 hc37; have KY37 := am_ hy37; have KA37 := am_ hA37; clear hy37 hA37; have KL37 := am_ (show (aa : Int).toNat ≤ l0.length from by omega); replace q37 := eq_true q37) | ((with_reducible refine gate_builtin (b := .append) (xs := #[.tmp 43, .tmp 46]) rfl ?_); at_builtin; refine Kd.R_append_rows (Kd.int .i64) (w0 := w0) w0.heap.size rfl (.tmp 43) (.tmp 46) 43 3 (.int .i64 0) 8 rfl Try.underlying43 info3 rfl (by decide) (by omega) bg aj ae _ _ _ (fun k_ => (P0_ k_ ∨ w.heap.size ≤ k_) ∧ some k_ ≠ (.slice an l0.length ao : Value).ownBlock) (fun _ => False) rfl rfl ?aO ?aR (fun _ _ h => h) (fun _ h => h.elim) ?aF ?aB ?aS ?aL ?_; (case aR => exact rc_ (by repeat (first | (with_reducible exact HR156.out) | (with_reducible refine Kd.C_alloc ?_ _) | (with_reducible refine Kd.C_drewN ?_ _) | (with_reducible refine Kd.C_drew ?_) | exact HR156.out))); (case aB => exact (b0_ HB.out)); (case aF => exact (fun k_ hk => ⟨(.inr (Nat.le_trans (by first | exact HK.out.1 | exact (show Kept w _ (fun k_ => P0_ k_) from by exact zp3_0_ HK.out).1) hk)), Kd.fresh' (Kd.R_lt (rr_ ab.out)) k_ hk⟩)); (case aO => exact (rr_ aG.out)); (case aS => exact (below_size (b0_ HB.out))); (case aL => have := LMc30.out; omega); intro bj w38 ho hb hg hat; rw [← aV.out] at ho; have n0_ := am_ (Kd.R_after (ok := (fun k_ => (P0_ k_ ∨ w.heap.size ≤ k_))) (rr_ ab.out) hg hat); have n1_ := am_ (hb); have n2_ := am_ (Kept.of_grown (S := (fun k_ => P0_ k_)) hg (zp3_0_ HK.out) (fun k_ e_ => (aG.out.1 k_ e_).1)); have n3_ := am_ ((show Kd.C (Kd.int .i64) w38 an ai.length ai from by rw [au.out]; exact Kd.C_take (m := (aa : Int).toNat) ((Kd.R_reads' (Kd.R_after (ok := (fun k_ => (P0_ k_ ∨ w.heap.size ≤ k_))) (rr_ ab.out) hg hat)).2.2) KL34.out)); have n4_ := am_ ((show Kd.C (Kd.int .i64) w38 A37 ae.length ae from by rw [aC.out, KA37.out]; exact Kd.C_drop (m := (aa : Int).toNat) (c := ao) ((Kd.R_reads' (Kd.R_after (ok := (fun k_ => (P0_ k_ ∨ w.heap.size ≤ k_))) (rr_ ab.out) hg hat)).2.2) KL37.out ((Kd.R_reads' (Kd.R_after (ok := (fun k_ => (P0_ k_ ∨ w.heap.size ≤ k_))) (rr_ ab.out) hg hat)).2.1))); have n5_ := am_ (ho); clear ab; clear HB; clear HK; clear HR146; clear HR156; clear aG; have ab := n0_; have HB := n1_; have HK := n2_; have HR146 := n3_; have HR156 := n4_; have aW := n5_; clear n0_ n1_ n2_ n3_ n4_ n5_; clear ho hb hg hat))
         go_ret
         exact ⟨_, by first | rfl | (simp [errW_none, errW_some] <;> rfl) | (simp [*, errW_none, errW_some] <;> rfl), by refine rr_ ?_; exact Kd.R_mono aW.out (fun _ hk => hk.1), by exact zp3_1_ HB.out, by exact zp3_0_ HK.out⟩
        ·rw [if_neg c30] at H
         exact absurd H (by simp)
       ·rw [if_neg c27] at H
        exact absurd H (by simp)
      ·rw [if_neg c26] at H
       exact absurd H (by simp)
     ·rw [if_neg c25] at H
      exact absurd H (by simp)
    ·rw [if_neg c24] at H
     exact absurd H (by simp)
end Go.Proofs.Ytpgdhpnmagmooaa.P
end
