/- Texts of the proof of FnExactAcceptedWords, put together. No condition. -/
import Derived.Test.YtpgdhpnmagmooaaQFnExactAcceptedWords2
import Derived.Test.YtpgdhpnmagmooaaQFnExactAcceptedWords4
import Derived.Test.YtpgdhpnmagmooaaQFnExactAcceptedWords3
import Derived.Maps.Own
import Derived.Maps.OwnOps
import Derived.Maps.OwnSet
import Derived.Maps.Views
import Derived.Shelf.Abstract
import Derived.Lib.Walk
section
namespace Go.Proofs.Ytpgdhpnmagmooaa.P
open Go.RowKit Go.Proofs.YtpgdhpnmagmooaaW.PrintWords Go.Proofs.YtpgdhpnmagmooaaW.PrintLast Go.Proofs.YtpgdhpnmagmooaaW.PrintMore
attribute [local go_sem] max2_int min2_int max_two min_two max_three min_three max_four min_four
set_option linter.unusedVariables false
set_option linter.unusedSimpArgs false
def laws_eqBoolS.l0 : Nat → List Bool → List Bool → Int → Option (Bool)
  | 0, _, _, _ => none
  | k + 1, x0, x1, x5 => if x5 < (x0.length : Int) then (if 0 ≤ x5 then (if x5 < (x1.length : Int) then (if ((rdOf false x0 x5) != (rdOf false x1 x5)) = true then (some false) else (laws_eqBoolS.l0 k x0 x1 (wrap64 (x5 + 1)))) else (none)) else (none)) else (some true)
def laws_eqBoolS.f (k : Nat) (l0 : List Bool) (l1 : List Bool) : Option (Bool) := if (l0.length : Int) = (l1.length : Int) then (laws_eqBoolS.l0 k l0 l1 0) else (some false)
theorem laws_eqBoolS.mono_l : ∀ k, (∀ y0 y1 y2, LeO (laws_eqBoolS.l0 k y0 y1 y2) (laws_eqBoolS.l0 (k + 1) y0 y1 y2))
  | 0 => fun _ _ _ r h => by simp [laws_eqBoolS.l0] at h
  | k + 1 => by
    have ih0 := laws_eqBoolS.mono_l k
    · intro y0 y1 y2
      unfold laws_eqBoolS.l0
      repeat' first
      | (with_reducible exact ih0 _ _ _)
      | (with_reducible exact LeO.refl _)
      | (with_reducible exact LeO.none _)
      | (with_reducible refine LeO.ite ?_ ?_)
      | (with_reducible refine LeO.bind ?_ (fun _ => ?_))
      | exact ih0 _ _ _
      | exact LeO.none _
      | refine LeO.ite ?_ ?_
      | refine LeO.bind ?_ (fun _ => ?_)
theorem laws_eqBoolS.mono : ∀ a0 a1 k, LeO (laws_eqBoolS.f k a0 a1) (laws_eqBoolS.f (k + 1) a0 a1) := by
  intro a0 a1 k
  have ih0 := laws_eqBoolS.mono_l k
  unfold laws_eqBoolS.f
  repeat' first
      | (with_reducible exact ih0 _ _ _)
      | (with_reducible exact LeO.refl _)
      | (with_reducible exact LeO.none _)
      | (with_reducible refine LeO.ite ?_ ?_)
      | (with_reducible refine LeO.bind ?_ (fun _ => ?_))
      | exact ih0 _ _ _
      | exact LeO.none _
      | refine LeO.ite ?_ ?_
      | refine LeO.bind ?_ (fun _ => ?_)
set_option maxHeartbeats 8000000 in
set_option maxRecDepth 100000 in
theorem laws_eqBoolS.calls (k : Nat) (A0 : Option Addr) (c0 : Nat) (l0 : List Bool) (A1 : Option Addr) (c1 : Nat) (l1 : List Bool) (r : Bool) (w : World) (hr0 : Kd.C Kd.bool w A0 l0.length l0) (hc0 : l0.length ≤ c0) (hr1 : Kd.C Kd.bool w A1 l1.length l1) (hc1 : l1.length ≤ c1) (h : laws_eqBoolS.f k l0 l1 = some r) :
    Calls Try.prog 13 #[.slice A0 l0.length c0, .slice A1 l1.length c1] w fun e w' => e = .returned (.bool r) ∧ Drawn0 w w' := by
  have HR0 := am_ hr0
  have HC0 := am_ hc0
  clear hr0 hc0
  have HR1 := am_ hr1
  have HC1 := am_ hc1
  clear hr1 hc1
  have H : (if (l0.length : Int) = (l1.length : Int) then (laws_eqBoolS.l0 k l0 l1 0) else (some false)) = some r := h
  clear h
  by_cases c3 : (l0.length : Int) = (l1.length : Int)
  · rw [if_pos c3] at H
    have c3b0 : ((l0.length : Int) == (l1.length : Int)) = true := beq_iff_eq.mpr c3
    have c3b1 : ((l0.length : Int) != (l1.length : Int)) = false := bne_eq_false_iff_eq.mpr c3
    have c3b2 : (l0.length == l1.length) = true := by first | simpa using c3 | (simp at c3 ⊢; omega)
    clear c3
    have H' := am_ H
    clear H
    go_enter Try.func13, Try.ntmps13
    go_wp2
    repeat (go_quiet (fail); try go_wp2)
    go_loopg [5] k (fun kq v5 w' => ∃ (aa : Int), v5 = .int .i64 aa ∧ Aside0 (laws_eqBoolS.l0 kq l0 l1 aa = some r) ∧ Aside0 (kq ≤ k) ∧ Drawn0 w w')
    case atStart => exact ⟨(0), (by first | rfl | (simp; done) | (simp [*]; done)), H', ⟨Nat.le_refl _⟩, by repeat (first | exact Drawn0.refl _ | apply Drawn0.step)⟩
    case round =>
      clear H'
      try clear c1
      try clear p2
      try clear c3
      try clear c3b0
      try clear c3b1
      try clear c3b2
      obtain ⟨aa, rfl, HA, HK1, ⟨m1, rfl⟩⟩ := hrel
      cases gk with
      | zero => exact absurd HA.out (by simp [laws_eqBoolS.l0])
      | succ k1 =>
        have H := HA.out
        clear HA
        simp only [laws_eqBoolS.l0] at H
        by_cases c4 : aa < (l0.length : Int)
        · rw [if_pos c4] at H
          have c4b0 : decide (aa < (l0.length : Int)) = true := decide_eq_true c4
          clear c4
          by_cases c5 : 0 ≤ aa
          · rw [if_pos c5] at H
            have c5b0 : decide (0 ≤ aa) = true := decide_eq_true c5
            clear c5
            by_cases c6 : aa < (l1.length : Int)
            · rw [if_pos c6] at H
              have c6b0 : decide (aa < (l1.length : Int)) = true := decide_eq_true c6
              clear c6
              by_cases c7 : ((rdOf false l0 aa) != (rdOf false l1 aa)) = true
              · rw [if_pos c7] at H
                have c7b0 : ((rdOf false l0 aa) != (rdOf false l1 aa)) = true := c7
                (try (have c7b1 : decide ((rdOf false l0 aa) = (rdOf false l1 aa)) = false := by simpa using c7))
                (try (have c7b2 : ((rdOf false l0 aa) == (rdOf false l1 aa)) = false := by simpa using c7))
                (try (have c7b3 : ¬ ((rdOf false l0 aa) = (rdOf false l1 aa)) := by simpa using c7))
                clear c7
                obtain rfl := Option.some.inj H
                simp only [Option.some.injEq, Prod.mk.injEq] at H
                obtain ⟨rfl⟩ := H
                have p246 : 0 ≤ (aa : Int) := of_decide_eq_true ah_
                have q246 : aa < (l0.length : Int) := of_decide_eq_true ah_
                obtain ⟨aJ, e246, aD⟩ := Kd.at_bool HR0.out aa p246 q246
                cases e246
                replace p246 := eq_true p246
                replace q246 := eq_true q246
                have p247 : 0 ≤ (aa : Int) := of_decide_eq_true ah_
                have q247 : aa < (l1.length : Int) := of_decide_eq_true ah_
                obtain ⟨aK, e247, aE⟩ := Kd.at_bool HR1.out aa p247 q247
                cases e247
                replace p247 := eq_true p247
                replace q247 := eq_true q247
                go_wp2
                repeat (go_quiet (fail); try go_wp2)
                go_ret
                exact ⟨by first | rfl | (simp; done) | (simp [*]; done), by repeat (first | exact Drawn0.refl _ | apply Drawn0.step)⟩
              · rw [if_neg c7] at H
                have c7b0 : ((rdOf false l0 aa) != (rdOf false l1 aa)) = false := by simpa using c7
                (try (have c7b1 : decide ((rdOf false l0 aa) = (rdOf false l1 aa)) = true := by simpa using c7))
                (try (have c7b2 : ((rdOf false l0 aa) == (rdOf false l1 aa)) = true := by simpa using c7))
                clear c7
                have H' := am_ H
                clear H
                have p246 : 0 ≤ (aa : Int) := of_decide_eq_true ah_
                have q246 : aa < (l0.length : Int) := of_decide_eq_true ah_
                obtain ⟨aJ, e246, aD⟩ := Kd.at_bool HR0.out aa p246 q246
                cases e246
                replace p246 := eq_true p246
                replace q246 := eq_true q246
                have p247 : 0 ≤ (aa : Int) := of_decide_eq_true ah_
                have q247 : aa < (l1.length : Int) := of_decide_eq_true ah_
                obtain ⟨aK, e247, aE⟩ := Kd.at_bool HR1.out aa p247 q247
                cases e247
                replace p247 := eq_true p247
                replace q247 := eq_true q247
                go_wp2
                repeat (go_quiet (fail); try go_wp2)
                go_roundg k1
                case measure => have := HK1.out; omega
                case rel => exact ⟨(wrap64 (aa + 1)), (by first | rfl | (simp; done) | (simp [*]; done)), H', ⟨by have := HK1.out; omega⟩, by repeat (first | exact Drawn0.refl _ | apply Drawn0.step)⟩
            · rw [if_neg c6] at H
              exact absurd H (by simp)
          · rw [if_neg c5] at H
            exact absurd H (by simp)
        · rw [if_neg c4] at H
          have c4b0 : decide (aa < (l0.length : Int)) = false := decide_eq_false c4
          clear c4
          obtain rfl := Option.some.inj H
          simp only [Option.some.injEq, Prod.mk.injEq] at H
          obtain ⟨rfl⟩ := H
          go_wp2
          repeat (go_quiet (fail); try go_wp2)
          go_ret
          exact ⟨by first | rfl | (simp; done) | (simp [*]; done), by repeat (first | exact Drawn0.refl _ | apply Drawn0.step)⟩
  · rw [if_neg c3] at H
    have c3b0 : ((l0.length : Int) == (l1.length : Int)) = false := beq_eq_false_iff_ne.mpr c3
    have c3b1 : ((l0.length : Int) != (l1.length : Int)) = true := bne_iff_ne.mpr c3
    have c3b2 : (l0.length == l1.length) = false := by first | simpa using c3 | (simp at c3 ⊢; omega)
    obtain rfl := Option.some.inj H
    simp only [Option.some.injEq, Prod.mk.injEq] at H
    obtain ⟨rfl⟩ := H
    go_enter Try.func13, Try.ntmps13
    go_wp2
    repeat (go_quiet (fail); try go_wp2)
    go_ret
    exact ⟨by first | rfl | (simp; done) | (simp [*]; done), by repeat (first | exact Drawn0.refl _ | apply Drawn0.step)⟩
def laws_eqIntS.l0 : Nat → List Int → List Int → Int → Option (Bool)
  | 0, _, _, _ => none
  | k + 1, x0, x1, x5 => if x5 < (x0.length : Int) then (if 0 ≤ x5 then (if x5 < (x1.length : Int) then (if (rd x0 x5) = (rd x1 x5) then (laws_eqIntS.l0 k x0 x1 (wrap64 (x5 + 1))) else (some false)) else (none)) else (none)) else (some true)
def laws_eqIntS.f (k : Nat) (l0 : List Int) (l1 : List Int) : Option (Bool) := if (l0.length : Int) = (l1.length : Int) then (laws_eqIntS.l0 k l0 l1 0) else (some false)
theorem laws_eqIntS.mono_l : ∀ k, (∀ y0 y1 y2, LeO (laws_eqIntS.l0 k y0 y1 y2) (laws_eqIntS.l0 (k + 1) y0 y1 y2))
  | 0 => fun _ _ _ r h => by simp [laws_eqIntS.l0] at h
  | k + 1 => by
    have ih0 := laws_eqIntS.mono_l k
    · intro y0 y1 y2
      unfold laws_eqIntS.l0
      repeat' first
      | (with_reducible exact ih0 _ _ _)
      | (with_reducible exact LeO.refl _)
      | (with_reducible exact LeO.none _)
      | (with_reducible refine LeO.ite ?_ ?_)
      | (with_reducible refine LeO.bind ?_ (fun _ => ?_))
      | exact ih0 _ _ _
      | exact LeO.none _
      | refine LeO.ite ?_ ?_
      | refine LeO.bind ?_ (fun _ => ?_)
theorem laws_eqIntS.mono : ∀ a0 a1 k, LeO (laws_eqIntS.f k a0 a1) (laws_eqIntS.f (k + 1) a0 a1) := by
  intro a0 a1 k
  have ih0 := laws_eqIntS.mono_l k
  unfold laws_eqIntS.f
  repeat' first
      | (with_reducible exact ih0 _ _ _)
      | (with_reducible exact LeO.refl _)
      | (with_reducible exact LeO.none _)
      | (with_reducible refine LeO.ite ?_ ?_)
      | (with_reducible refine LeO.bind ?_ (fun _ => ?_))
      | exact ih0 _ _ _
      | exact LeO.none _
      | refine LeO.ite ?_ ?_
      | refine LeO.bind ?_ (fun _ => ?_)
set_option maxHeartbeats 8000000 in
set_option maxRecDepth 100000 in
theorem laws_eqIntS.calls (k : Nat) (A0 : Option Addr) (c0 : Nat) (l0 : List Int) (A1 : Option Addr) (c1 : Nat) (l1 : List Int) (r : Bool) (w : World) (hr0 : Kd.C (Kd.int .i64) w A0 l0.length l0) (hc0 : l0.length ≤ c0) (hr1 : Kd.C (Kd.int .i64) w A1 l1.length l1) (hc1 : l1.length ≤ c1) (h : laws_eqIntS.f k l0 l1 = some r) :
    Calls Try.prog 54 #[.slice A0 l0.length c0, .slice A1 l1.length c1] w fun e w' => e = .returned (.bool r) ∧ Drawn0 w w' := by
  have HR0 := am_ hr0
  have HC0 := am_ hc0
  clear hr0 hc0
  have HR1 := am_ hr1
  have HC1 := am_ hc1
  clear hr1 hc1
  have H : (if (l0.length : Int) = (l1.length : Int) then (laws_eqIntS.l0 k l0 l1 0) else (some false)) = some r := h
  clear h
  by_cases c3 : (l0.length : Int) = (l1.length : Int)
  · rw [if_pos c3] at H
    have c3b0 : ((l0.length : Int) == (l1.length : Int)) = true := beq_iff_eq.mpr c3
    have c3b1 : ((l0.length : Int) != (l1.length : Int)) = false := bne_eq_false_iff_eq.mpr c3
    have c3b2 : (l0.length == l1.length) = true := by first | simpa using c3 | (simp at c3 ⊢; omega)
    clear c3
    have H' := am_ H
    clear H
    go_enter Try.func54, Try.ntmps54
    go_wp2
    repeat (go_quiet (fail); try go_wp2)
    go_loopg [5] k (fun kq v5 w' => ∃ (aa : Int), v5 = .int .i64 aa ∧ Aside0 (laws_eqIntS.l0 kq l0 l1 aa = some r) ∧ Aside0 (kq ≤ k) ∧ Drawn0 w w')
    case atStart => exact ⟨(0), (by first | rfl | (simp; done) | (simp [*]; done)), H', ⟨Nat.le_refl _⟩, by repeat (first | exact Drawn0.refl _ | apply Drawn0.step)⟩
    case round =>
      clear H'
      try clear c1
      try clear p2
      try clear c3
      try clear c3b0
      try clear c3b1
      try clear c3b2
      obtain ⟨aa, rfl, HA, HK1, ⟨m1, rfl⟩⟩ := hrel
      cases gk with
      | zero => exact absurd HA.out (by simp [laws_eqIntS.l0])
      | succ k1 =>
        have H := HA.out
        clear HA
        simp only [laws_eqIntS.l0] at H
        by_cases c4 : aa < (l0.length : Int)
        · rw [if_pos c4] at H
          have c4b0 : decide (aa < (l0.length : Int)) = true := decide_eq_true c4
          clear c4
          by_cases c5 : 0 ≤ aa
          · rw [if_pos c5] at H
            have c5b0 : decide (0 ≤ aa) = true := decide_eq_true c5
            clear c5
            by_cases c6 : aa < (l1.length : Int)
            · rw [if_pos c6] at H
              have c6b0 : decide (aa < (l1.length : Int)) = true := decide_eq_true c6
              clear c6
              by_cases c7 : (rd l0 aa) = (rd l1 aa)
              · rw [if_pos c7] at H
                have c7b0 : ((rd l0 aa) == (rd l1 aa)) = true := beq_iff_eq.mpr c7
                have c7b1 : ((rd l0 aa) != (rd l1 aa)) = false := bne_eq_false_iff_eq.mpr c7
                clear c7
                have H' := am_ H
                clear H
                have p248 : 0 ≤ (aa : Int) := of_decide_eq_true ah_
                have q248 : aa < (l0.length : Int) := of_decide_eq_true ah_
                obtain ⟨aL, e248, aF⟩ := Kd.at_int HR0.out aa p248 q248
                cases e248
                replace p248 := eq_true p248
                replace q248 := eq_true q248
                have p249 : 0 ≤ (aa : Int) := of_decide_eq_true ah_
                have q249 : aa < (l1.length : Int) := of_decide_eq_true ah_
                obtain ⟨aM, e249, aG⟩ := Kd.at_int HR1.out aa p249 q249
                cases e249
                replace p249 := eq_true p249
                replace q249 := eq_true q249
                go_wp2
                repeat (go_quiet (fail); try go_wp2)
                go_roundg k1
                case measure => have := HK1.out; omega
                case rel => exact ⟨(wrap64 (aa + 1)), (by first | rfl | (simp; done) | (simp [*]; done)), H', ⟨by have := HK1.out; omega⟩, by repeat (first | exact Drawn0.refl _ | apply Drawn0.step)⟩
              · rw [if_neg c7] at H
                have c7b0 : ((rd l0 aa) == (rd l1 aa)) = false := beq_eq_false_iff_ne.mpr c7
                have c7b1 : ((rd l0 aa) != (rd l1 aa)) = true := bne_iff_ne.mpr c7
                obtain rfl := Option.some.inj H
                simp only [Option.some.injEq, Prod.mk.injEq] at H
                obtain ⟨rfl⟩ := H
                have p248 : 0 ≤ (aa : Int) := of_decide_eq_true ah_
                have q248 : aa < (l0.length : Int) := of_decide_eq_true ah_
                obtain ⟨aL, e248, aF⟩ := Kd.at_int HR0.out aa p248 q248
                cases e248
                replace p248 := eq_true p248
                replace q248 := eq_true q248
                have p249 : 0 ≤ (aa : Int) := of_decide_eq_true ah_
                have q249 : aa < (l1.length : Int) := of_decide_eq_true ah_
                obtain ⟨aM, e249, aG⟩ := Kd.at_int HR1.out aa p249 q249
                cases e249
                replace p249 := eq_true p249
                replace q249 := eq_true q249
                go_wp2
                repeat (go_quiet (fail); try go_wp2)
                go_ret
                exact ⟨by first | rfl | (simp; done) | (simp [*]; done), by repeat (first | exact Drawn0.refl _ | apply Drawn0.step)⟩
            · rw [if_neg c6] at H
              exact absurd H (by simp)
          · rw [if_neg c5] at H
            exact absurd H (by simp)
        · rw [if_neg c4] at H
          have c4b0 : decide (aa < (l0.length : Int)) = false := decide_eq_false c4
          clear c4
          obtain rfl := Option.some.inj H
          simp only [Option.some.injEq, Prod.mk.injEq] at H
          obtain ⟨rfl⟩ := H
          go_wp2
          repeat (go_quiet (fail); try go_wp2)
          go_ret
          exact ⟨by first | rfl | (simp; done) | (simp [*]; done), by repeat (first | exact Drawn0.refl _ | apply Drawn0.step)⟩
  · rw [if_neg c3] at H
    have c3b0 : ((l0.length : Int) == (l1.length : Int)) = false := beq_eq_false_iff_ne.mpr c3
    have c3b1 : ((l0.length : Int) != (l1.length : Int)) = true := bne_iff_ne.mpr c3
    have c3b2 : (l0.length == l1.length) = false := by first | simpa using c3 | (simp at c3 ⊢; omega)
    obtain rfl := Option.some.inj H
    simp only [Option.some.injEq, Prod.mk.injEq] at H
    obtain ⟨rfl⟩ := H
    go_enter Try.func54, Try.ntmps54
    go_wp2
    repeat (go_quiet (fail); try go_wp2)
    go_ret
    exact ⟨by first | rfl | (simp; done) | (simp [*]; done), by repeat (first | exact Drawn0.refl _ | apply Drawn0.step)⟩
def laws_eqIntSS.l0 : Nat → List (List Int) → List (List Int) → Int → Option (Bool)
  | 0, _, _, _ => none
  | k + 1, x0, x1, x5 => if x5 < (x0.length : Int) then (if 0 ≤ x5 then (if x5 < (x1.length : Int) then ((laws_eqIntS.f k (rd_L1 x0 x5) (rd_L1 x1 x5)).bind fun aw => (if aw = true then (laws_eqIntSS.l0 k x0 x1 (wrap64 (x5 + 1))) else (some false))) else (none)) else (none)) else (some true)
def laws_eqIntSS.f (k : Nat) (l0 : List (List Int)) (l1 : List (List Int)) : Option (Bool) := if (l0.length : Int) = (l1.length : Int) then (laws_eqIntSS.l0 k l0 l1 0) else (some false)
theorem laws_eqIntSS.mono_l : ∀ k, (∀ y0 y1 y2, LeO (laws_eqIntSS.l0 k y0 y1 y2) (laws_eqIntSS.l0 (k + 1) y0 y1 y2))
  | 0 => fun _ _ _ r h => by simp [laws_eqIntSS.l0] at h
  | k + 1 => by
    have ih0 := laws_eqIntSS.mono_l k
    · intro y0 y1 y2
      unfold laws_eqIntSS.l0
      repeat' first
      | (with_reducible exact ih0 _ _ _)
      | (with_reducible exact laws_eqIntS.mono _ _ _)
      | (with_reducible exact LeO.refl _)
      | (with_reducible exact LeO.none _)
      | (with_reducible refine LeO.ite ?_ ?_)
      | (with_reducible refine LeO.bind ?_ (fun _ => ?_))
      | exact ih0 _ _ _
      | exact laws_eqIntS.mono _ _ _
      | exact LeO.none _
      | refine LeO.ite ?_ ?_
      | refine LeO.bind ?_ (fun _ => ?_)
theorem laws_eqIntSS.mono : ∀ a0 a1 k, LeO (laws_eqIntSS.f k a0 a1) (laws_eqIntSS.f (k + 1) a0 a1) := by
  intro a0 a1 k
  have ih0 := laws_eqIntSS.mono_l k
  unfold laws_eqIntSS.f
  repeat' first
      | (with_reducible exact ih0 _ _ _)
      | (with_reducible exact laws_eqIntS.mono _ _ _)
      | (with_reducible exact LeO.refl _)
      | (with_reducible exact LeO.none _)
      | (with_reducible refine LeO.ite ?_ ?_)
      | (with_reducible refine LeO.bind ?_ (fun _ => ?_))
      | exact ih0 _ _ _
      | exact laws_eqIntS.mono _ _ _
      | exact LeO.none _
      | refine LeO.ite ?_ ?_
      | refine LeO.bind ?_ (fun _ => ?_)
set_option maxHeartbeats 8000000 in
set_option maxRecDepth 100000 in
theorem laws_eqIntSS.calls (k : Nat) (A0 : Option Addr) (c0 : Nat) (l0 : List (List Int)) (A1 : Option Addr) (c1 : Nat) (l1 : List (List Int)) (r : Bool) (w : World) (hr0 : Kd.C (Kd.slice 3 (Kd.int .i64)) w A0 l0.length l0) (hc0 : l0.length ≤ c0) (hr1 : Kd.C (Kd.slice 3 (Kd.int .i64)) w A1 l1.length l1) (hc1 : l1.length ≤ c1) (h : laws_eqIntSS.f k l0 l1 = some r) :
    Calls Try.prog 34 #[.slice A0 l0.length c0, .slice A1 l1.length c1] w fun e w' => e = .returned (.bool r) ∧ Drawn0 w w' := by
  have HR0 := am_ hr0
  have HC0 := am_ hc0
  clear hr0 hc0
  have HR1 := am_ hr1
  have HC1 := am_ hc1
  clear hr1 hc1
  have H : (if (l0.length : Int) = (l1.length : Int) then (laws_eqIntSS.l0 k l0 l1 0) else (some false)) = some r := h
  clear h
  by_cases c3 : (l0.length : Int) = (l1.length : Int)
  · rw [if_pos c3] at H
    have c3b0 : ((l0.length : Int) == (l1.length : Int)) = true := beq_iff_eq.mpr c3
    have c3b1 : ((l0.length : Int) != (l1.length : Int)) = false := bne_eq_false_iff_eq.mpr c3
    have c3b2 : (l0.length == l1.length) = true := by first | simpa using c3 | (simp at c3 ⊢; omega)
    clear c3
    have H' := am_ H
    clear H
    go_enter Try.func34, Try.ntmps34
    go_wp2
    repeat (go_quiet (fail); try go_wp2)
    go_loopg [5] k (fun kq v5 w' => ∃ (aa : Int), v5 = .int .i64 aa ∧ Aside0 (laws_eqIntSS.l0 kq l0 l1 aa = some r) ∧ Aside0 (kq ≤ k) ∧ Drawn0 w w')
    case atStart => exact ⟨(0), (by first | rfl | (simp; done) | (simp [*]; done)), H', ⟨Nat.le_refl _⟩, by repeat (first | exact Drawn0.refl _ | apply Drawn0.step)⟩
    case round =>
      clear H'
      try clear c1
      try clear p2
      try clear c3
      try clear c3b0
      try clear c3b1
      try clear c3b2
      obtain ⟨aa, rfl, HA, HK1, ⟨m1, rfl⟩⟩ := hrel
      cases gk with
      | zero => exact absurd HA.out (by simp [laws_eqIntSS.l0])
      | succ k1 =>
        have H := HA.out
        clear HA
        simp only [laws_eqIntSS.l0] at H
        by_cases c4 : aa < (l0.length : Int)
        · rw [if_pos c4] at H
          have c4b0 : decide (aa < (l0.length : Int)) = true := decide_eq_true c4
          clear c4
          by_cases c5 : 0 ≤ aa
          · rw [if_pos c5] at H
            have c5b0 : decide (0 ≤ aa) = true := decide_eq_true c5
            clear c5
            by_cases c6 : aa < (l1.length : Int)
            · rw [if_pos c6] at H
              have c6b0 : decide (aa < (l1.length : Int)) = true := decide_eq_true c6
              clear c6
              replace H := Option.bind_eq_some_iff.mp H
              obtain ⟨aw, A70, H⟩ := H
              have A7 := am_ A70
              clear A70
              by_cases c8 : aw = true
              · subst c8
                have H1 : (laws_eqIntSS.l0 k1 l0 l1 (wrap64 (aa + 1))) = some r := by rw [if_pos rfl] at H; exact H
                clear H
                have H := H1
                clear H1
                have H' := am_ H
                clear H
                have p250 : 0 ≤ (aa : Int) := of_decide_eq_true ah_
                have q250 : aa < (l0.length : Int) := of_decide_eq_true ah_
                obtain ⟨aN, A250_0, c250_0, e250, aH, hl250_0, hi250_0⟩ := at_L1 HR0.out aa p250 q250
                cases e250
                have ah := am_ hi250_0
                have ai := am_ hl250_0
                clear hi250_0 hl250_0
                replace p250 := eq_true p250
                replace q250 := eq_true q250
                have p251 : 0 ≤ (aa : Int) := of_decide_eq_true ah_
                have q251 : aa < (l1.length : Int) := of_decide_eq_true ah_
                obtain ⟨aO, A251_0, c251_0, e251, aI, hl251_0, hi251_0⟩ := at_L1 HR1.out aa p251 q251
                cases e251
                have aj := am_ hi251_0
                have ak := am_ hl251_0
                clear hi251_0 hl251_0
                replace p251 := eq_true p251
                replace q251 := eq_true q251
                go_wp2_with (first | (go_at_call 54; (with_reducible refine (laws_eqIntS.calls k1 _ _ (rd_L1 l0 aa) _ _ (rd_L1 l1 aa) true _ ?side1 ?side2 ?side3 ?side4 A7.out).mono ?_); (case side1 => exact rc_ ah.out); (case side2 => exact ai.out); (case side3 => exact rc_ aj.out); (case side4 => exact ak.out); rintro e w' ⟨rfl, ⟨nd, rfl⟩⟩; (try first | exact ⟨rfl, _, World.drewN_drewN _ _ _⟩ | exact ⟨rfl, _, Eq.trans (World.drewN_drewN _ _ _) (congrArg (World.drewN _) (Nat.add_assoc _ _ _))⟩)))
                repeat (go_quiet (first | (go_at_call 54; (with_reducible refine (laws_eqIntS.calls k1 _ _ (rd_L1 l0 aa) _ _ (rd_L1 l1 aa) true _ ?side1 ?side2 ?side3 ?side4 A7.out).mono ?_); (case side1 => exact rc_ ah.out); (case side2 => exact ai.out); (case side3 => exact rc_ aj.out); (case side4 => exact ak.out); rintro e w' ⟨rfl, ⟨nd, rfl⟩⟩; (try first | exact ⟨rfl, _, World.drewN_drewN _ _ _⟩ | exact ⟨rfl, _, Eq.trans (World.drewN_drewN _ _ _) (congrArg (World.drewN _) (Nat.add_assoc _ _ _))⟩))); try go_wp2_with (first | (go_at_call 54; (with_reducible refine (laws_eqIntS.calls k1 _ _ (rd_L1 l0 aa) _ _ (rd_L1 l1 aa) true _ ?side1 ?side2 ?side3 ?side4 A7.out).mono ?_); (case side1 => exact rc_ ah.out); (case side2 => exact ai.out); (case side3 => exact rc_ aj.out); (case side4 => exact ak.out); rintro e w' ⟨rfl, ⟨nd, rfl⟩⟩; (try first | exact ⟨rfl, _, World.drewN_drewN _ _ _⟩ | exact ⟨rfl, _, Eq.trans (World.drewN_drewN _ _ _) (congrArg (World.drewN _) (Nat.add_assoc _ _ _))⟩))))
                go_roundg k1
                case measure => have := HK1.out; omega
                case rel => exact ⟨(wrap64 (aa + 1)), (by first | rfl | (simp; done) | (simp [*]; done)), H', ⟨by have := HK1.out; omega⟩, by repeat (first | exact Drawn0.refl _ | apply Drawn0.step)⟩
              · replace c8 := Bool.eq_false_iff.mpr c8
                subst c8
                have H1 : (some false) = some r := by rw [if_neg (show ¬ (false = true) by decide)] at H; exact H
                clear H
                have H := H1
                clear H1
                obtain rfl := Option.some.inj H
                simp only [Option.some.injEq, Prod.mk.injEq] at H
                obtain ⟨rfl⟩ := H
                have p250 : 0 ≤ (aa : Int) := of_decide_eq_true ah_
                have q250 : aa < (l0.length : Int) := of_decide_eq_true ah_
                obtain ⟨aN, A250_0, c250_0, e250, aH, hl250_0, hi250_0⟩ := at_L1 HR0.out aa p250 q250
                cases e250
                have ah := am_ hi250_0
                have ai := am_ hl250_0
                clear hi250_0 hl250_0
                replace p250 := eq_true p250
                replace q250 := eq_true q250
                have p251 : 0 ≤ (aa : Int) := of_decide_eq_true ah_
                have q251 : aa < (l1.length : Int) := of_decide_eq_true ah_
                obtain ⟨aO, A251_0, c251_0, e251, aI, hl251_0, hi251_0⟩ := at_L1 HR1.out aa p251 q251
                cases e251
                have aj := am_ hi251_0
                have ak := am_ hl251_0
                clear hi251_0 hl251_0
                replace p251 := eq_true p251
                replace q251 := eq_true q251
                go_wp2_with (first | (go_at_call 54; (with_reducible refine (laws_eqIntS.calls k1 _ _ (rd_L1 l0 aa) _ _ (rd_L1 l1 aa) false _ ?side1 ?side2 ?side3 ?side4 A7.out).mono ?_); (case side1 => exact rc_ ah.out); (case side2 => exact ai.out); (case side3 => exact rc_ aj.out); (case side4 => exact ak.out); rintro e w' ⟨rfl, ⟨nd, rfl⟩⟩; (try first | exact ⟨rfl, _, World.drewN_drewN _ _ _⟩ | exact ⟨rfl, _, Eq.trans (World.drewN_drewN _ _ _) (congrArg (World.drewN _) (Nat.add_assoc _ _ _))⟩)))
                repeat (go_quiet (first | (go_at_call 54; (with_reducible refine (laws_eqIntS.calls k1 _ _ (rd_L1 l0 aa) _ _ (rd_L1 l1 aa) false _ ?side1 ?side2 ?side3 ?side4 A7.out).mono ?_); (case side1 => exact rc_ ah.out); (case side2 => exact ai.out); (case side3 => exact rc_ aj.out); (case side4 => exact ak.out); rintro e w' ⟨rfl, ⟨nd, rfl⟩⟩; (try first | exact ⟨rfl, _, World.drewN_drewN _ _ _⟩ | exact ⟨rfl, _, Eq.trans (World.drewN_drewN _ _ _) (congrArg (World.drewN _) (Nat.add_assoc _ _ _))⟩))); try go_wp2_with (first | (go_at_call 54; (with_reducible refine (laws_eqIntS.calls k1 _ _ (rd_L1 l0 aa) _ _ (rd_L1 l1 aa) false _ ?side1 ?side2 ?side3 ?side4 A7.out).mono ?_); (case side1 => exact rc_ ah.out); (case side2 => exact ai.out); (case side3 => exact rc_ aj.out); (case side4 => exact ak.out); rintro e w' ⟨rfl, ⟨nd, rfl⟩⟩; (try first | exact ⟨rfl, _, World.drewN_drewN _ _ _⟩ | exact ⟨rfl, _, Eq.trans (World.drewN_drewN _ _ _) (congrArg (World.drewN _) (Nat.add_assoc _ _ _))⟩))))
                go_ret
                exact ⟨by first | rfl | (simp; done) | (simp [*]; done), by repeat (first | exact Drawn0.refl _ | apply Drawn0.step)⟩
            · rw [if_neg c6] at H
              exact absurd H (by simp)
          · rw [if_neg c5] at H
            exact absurd H (by simp)
        · rw [if_neg c4] at H
          have c4b0 : decide (aa < (l0.length : Int)) = false := decide_eq_false c4
          clear c4
          obtain rfl := Option.some.inj H
          simp only [Option.some.injEq, Prod.mk.injEq] at H
          obtain ⟨rfl⟩ := H
          go_wp2
          repeat (go_quiet (fail); try go_wp2)
          go_ret
          exact ⟨by first | rfl | (simp; done) | (simp [*]; done), by repeat (first | exact Drawn0.refl _ | apply Drawn0.step)⟩
  · rw [if_neg c3] at H
    have c3b0 : ((l0.length : Int) == (l1.length : Int)) = false := beq_eq_false_iff_ne.mpr c3
    have c3b1 : ((l0.length : Int) != (l1.length : Int)) = true := bne_iff_ne.mpr c3
    have c3b2 : (l0.length == l1.length) = false := by first | simpa using c3 | (simp at c3 ⊢; omega)
    obtain rfl := Option.some.inj H
    simp only [Option.some.injEq, Prod.mk.injEq] at H
    obtain ⟨rfl⟩ := H
    go_enter Try.func34, Try.ntmps34
    go_wp2
    repeat (go_quiet (fail); try go_wp2)
    go_ret
    exact ⟨by first | rfl | (simp; done) | (simp [*]; done), by repeat (first | exact Drawn0.refl _ | apply Drawn0.step)⟩
def laws_eqDfa.f (k : Nat) (l0_0 : List Bool) (l0_1 : List (List Int)) (l1_0 : List Bool) (l1_1 : List (List Int)) : Option (Bool) := (laws_eqBoolS.f k l0_0 l1_0).bind fun ap => (if ap = true then ((laws_eqIntSS.f k l0_1 l1_1).bind fun ao => (if ao = true then (some true) else (some false))) else (some false))
theorem laws_eqDfa.mono : ∀ a0 a1 a2 a3 k, LeO (laws_eqDfa.f k a0 a1 a2 a3) (laws_eqDfa.f (k + 1) a0 a1 a2 a3) := by
 intro a0 a1 a2 a3 k
 unfold laws_eqDfa.f
 repeat' first
   | (with_reducible exact laws_eqBoolS.mono _ _ _)
   | (with_reducible exact laws_eqIntSS.mono _ _ _)
   | (with_reducible exact LeO.refl _)
   | (with_reducible exact LeO.none _)
   | (with_reducible refine LeO.ite ?_ ?_)
   | (with_reducible refine LeO.bind ?_ (fun _ => ?_))
   | exact laws_eqBoolS.mono _ _ _
   | exact laws_eqIntSS.mono _ _ _
   | exact LeO.none _
   | refine LeO.ite ?_ ?_
   | refine LeO.bind ?_ (fun _ => ?_)
set_option maxHeartbeats 8000000 in
set_option maxRecDepth 100000 in
theorem laws_eqDfa.calls (k : Nat) (A0_0 : Option Addr) (c0_0 : Nat) (l0_0 : List Bool) (A0_1 : Option Addr) (c0_1 : Nat) (l0_1 : List (List Int)) (A1_0 : Option Addr) (c1_0 : Nat) (l1_0 : List Bool) (A1_1 : Option Addr) (c1_1 : Nat) (l1_1 : List (List Int)) (r : Bool) (w : World) (hr0_0 : Kd.C Kd.bool w A0_0 l0_0.length l0_0) (hc0_0 : l0_0.length ≤ c0_0) (hr0_1 : Kd.C (Kd.slice 3 (Kd.int .i64)) w A0_1 l0_1.length l0_1) (hc0_1 : l0_1.length ≤ c0_1) (hr1_0 : Kd.C Kd.bool w A1_0 l1_0.length l1_0) (hc1_0 : l1_0.length ≤ c1_0) (hr1_1 : Kd.C (Kd.slice 3 (Kd.int .i64)) w A1_1 l1_1.length l1_1) (hc1_1 : l1_1.length ≤ c1_1) (h : laws_eqDfa.f k l0_0 l0_1 l1_0 l1_1 = some r) :
  Calls Try.prog 10 #[.agg #[.slice A0_0 l0_0.length c0_0, .slice A0_1 l0_1.length c0_1], .agg #[.slice A1_0 l1_0.length c1_0, .slice A1_1 l1_1.length c1_1]] w fun e w' => e = .returned (.bool r) ∧ Below w.heap.size w w' := by
 have hu28 := Try.underlying28
 have aq := am_ hr0_0
 have ar := am_ hc0_0
 clear hr0_0 hc0_0
 have ax := am_ hr0_1
 have ay := am_ hc0_1
 clear hr0_1 hc0_1
 have au := am_ hr1_0
 have av := am_ hc1_0
 clear hr1_0 hc1_0
 have az := am_ hr1_1
 have aA := am_ hc1_1
 clear hr1_1 hc1_1
 have HB := am_ (Below.refl w.heap.size w)
 have H : ((laws_eqBoolS.f k l0_0 l1_0).bind fun ap => (if ap = true then ((laws_eqIntSS.f k l0_1 l1_1).bind fun ao => (if ao = true then (some true) else (some false))) else (some false))) = some r := h
 clear h
 replace H := Option.bind_eq_some_iff.mp H
 obtain ⟨ap, A30, H⟩ := H
 have A3 := am_ A30
 clear A30
 by_cases c4 : ap = true
 ·subst c4
  have H1 : ((laws_eqIntSS.f k l0_1 l1_1).bind fun ao => (if ao = true then (some true) else (some false))) = some r := by rw [if_pos rfl] at H; exact H
  clear H
  have H := H1
  clear H1
  replace H := Option.bind_eq_some_iff.mp H
  obtain ⟨ao, A50, H⟩ := H
  replace H : (if ao = true then (some true) else (some false)) = some r := H
  have A5 := am_ A50
  clear A50
  by_cases c6 : ao = true
  ·subst c6
   have H1 : (some true) = some r := by rw [if_pos rfl] at H; exact H
   clear H
   have H := H1
   clear H1
   obtain rfl := Option.some.inj H
   simp only [Option.some.injEq, Prod.mk.injEq] at H
   obtain ⟨rfl⟩ := H
   go_enter Try.func10, Try.ntmps10
   go_wp2_with (first | ((with_reducible refine gate_dst (N := 2) rfl ?_); refine box_event ?hg (N := 2) ?hd (cs := #[.slice A0_0 l0_0.length c0_0, .slice A0_1 l0_1.length c0_1]) (t := 28) ?hr ?_; (case hd => rfl); (case hg => rfl); (case hr => first | (go_simp; done) | (go_simp; rfl)); intro ae hg w7 hbox hb; replace ab := am_ (hbox); replace aB := am_ ((by rw [hg]; exact (below_size (b0_ HB.out)) : w.heap.size ≤ ae)); replace ad := am_ ((by rw [hg]; exact (below_size (b0_ HB.out)) : w.heap.size ≤ ae)); replace HB := am_ (below_step (b0_ HB.out) hb); clear hb hbox hg) | ((with_reducible refine gate_dst (N := 3) rfl ?_); refine box_event ?hg (N := 3) ?hd (cs := #[.slice A1_0 l1_0.length c1_0, .slice A1_1 l1_1.length c1_1]) (t := 28) ?hr ?_; (case hd => rfl); (case hg => rfl); (case hr => first | (go_simp; done) | (go_simp; rfl)); intro af hg w8 hbox hb; have n0_ := am_ (blk_below (rb_ ab.out) hb); have n1_ := am_ (below_step (b1_ HB.out ad.out) hb); have n2_ := am_ (hbox); have n3_ := am_ ((by rw [hg]; exact (below_size (b1_ HB.out ad.out)) : w.heap.size ≤ af)); have n4_ := am_ ((by rw [hg]; exact (below_size (b1_ HB.out ad.out)) : w.heap.size ≤ af)); have n5_ := am_ ((by rw [hg]; exact Nat.ne_of_lt (blk_lt (rb_ ab.out)) : ae ≠ af)); have n6_ := am_ ((by rw [hg]; exact Nat.ne_of_gt (blk_lt (rb_ ab.out)) : af ≠ ae)); clear ab; clear HB; have ab := n0_; have HB := n1_; have ag := n2_; have aC := n3_; have an := n4_; have al := n5_; have am := n6_; clear n0_ n1_ n2_ n3_ n4_ n5_ n6_; clear hb hbox hg; have br := al.out; have bs := am.out; have aP := ck_ (v := (.slice A0_0 l0_0.length c0_0)) ab 0 rfl; have aQ := ck_ (v := (.slice A0_1 l0_1.length c0_1)) ab 1 rfl; have aR := blk_frozen ab.out 0; have aS := blk_frozen ab.out 1; have aT := ck_ (v := (.slice A1_0 l1_0.length c1_0)) ag 0 rfl; have aU := ck_ (v := (.slice A1_1 l1_1.length c1_1)) ag 1 rfl; have aV := blk_frozen ag.out 0; have aW := blk_frozen ag.out 1) | ((with_reducible refine gate_callee (f := 13) rfl ?_); refine gL_ (some 9) Try.func13 #[.slice A0_0 l0_0.length c0_0, .slice A1_0 l1_0.length c1_0] ?_; (with_reducible refine (laws_eqBoolS.calls k _ _ l0_0 _ _ l1_0 true _ ?side1 ?side2 ?side3 ?side4 A3.out).mono ?_); (case side1 => exact rc_ (Kd.C_below aq.out HB.out)); (case side2 => exact ar.out); (case side3 => exact rc_ (Kd.C_below au.out HB.out)); (case side4 => exact av.out); rintro e w' ⟨rfl, ⟨nd, rfl⟩⟩; refine ⟨_, rfl, ?_⟩) | ((with_reducible refine gate_callee (f := 34) rfl ?_); refine gL_ (some 15) Try.func34 #[.slice A0_1 l0_1.length c0_1, .slice A1_1 l1_1.length c1_1] ?_; (with_reducible refine (laws_eqIntSS.calls k _ _ l0_1 _ _ l1_1 true _ ?side1 ?side2 ?side3 ?side4 A5.out).mono ?_); (case side1 => exact rc_ (Kd.C_below ax.out (b2_ HB.out ad.out an.out))); (case side2 => exact ay.out); (case side3 => exact rc_ (Kd.C_below az.out (b2_ HB.out ad.out an.out))); (case side4 => exact aA.out); rintro e w' ⟨rfl, ⟨nd, rfl⟩⟩; refine ⟨_, rfl, ?_⟩))
   go_ret
   exact ⟨by first | rfl | (simp [errW_none, errW_some] <;> rfl) | (simp [*, errW_none, errW_some] <;> rfl), by repeat (first | (with_reducible first | exact HB.out | apply below_alloc | apply pw_below_drewN | apply below_drew1 | refine below_set ?_ ad.out | refine below_set ?_ an.out) | exact HB.out)⟩
  ·replace c6 := Bool.eq_false_iff.mpr c6
   subst c6
   have H1 : (some false) = some r := by rw [if_neg (show ¬ (false = true) by decide)] at H; exact H
   clear H
   have H := H1
   clear H1
   obtain rfl := Option.some.inj H
   simp only [Option.some.injEq, Prod.mk.injEq] at H
   obtain ⟨rfl⟩ := H
   go_enter Try.func10, Try.ntmps10
   go_wp2_with (first | ((with_reducible refine gate_dst (N := 2) rfl ?_); refine box_event ?hg (N := 2) ?hd (cs := #[.slice A0_0 l0_0.length c0_0, .slice A0_1 l0_1.length c0_1]) (t := 28) ?hr ?_; (case hd => rfl); (case hg => rfl); (case hr => first | (go_simp; done) | (go_simp; rfl)); intro ae hg w12 hbox hb; replace ab := am_ (hbox); replace aB := am_ ((by rw [hg]; exact (below_size (b0_ HB.out)) : w.heap.size ≤ ae)); replace ad := am_ ((by rw [hg]; exact (below_size (b0_ HB.out)) : w.heap.size ≤ ae)); replace HB := am_ (below_step (b0_ HB.out) hb); clear hb hbox hg) | ((with_reducible refine gate_dst (N := 3) rfl ?_); refine box_event ?hg (N := 3) ?hd (cs := #[.slice A1_0 l1_0.length c1_0, .slice A1_1 l1_1.length c1_1]) (t := 28) ?hr ?_; (case hd => rfl); (case hg => rfl); (case hr => first | (go_simp; done) | (go_simp; rfl)); intro af hg w13 hbox hb; have n0_ := am_ (blk_below (rb_ ab.out) hb); have n1_ := am_ (below_step (b1_ HB.out ad.out) hb); have n2_ := am_ (hbox); have n3_ := am_ ((by rw [hg]; exact (below_size (b1_ HB.out ad.out)) : w.heap.size ≤ af)); have n4_ := am_ ((by rw [hg]; exact (below_size (b1_ HB.out ad.out)) : w.heap.size ≤ af)); have n5_ := am_ ((by rw [hg]; exact Nat.ne_of_lt (blk_lt (rb_ ab.out)) : ae ≠ af)); have n6_ := am_ ((by rw [hg]; exact Nat.ne_of_gt (blk_lt (rb_ ab.out)) : af ≠ ae)); clear ab; clear HB; have ab := n0_; have HB := n1_; have ag := n2_; have aC := n3_; have an := n4_; have al := n5_; have am := n6_; clear n0_ n1_ n2_ n3_ n4_ n5_ n6_; clear hb hbox hg; have bn := al.out; have bo := am.out; have aX := ck_ (v := (.slice A0_0 l0_0.length c0_0)) ab 0 rfl; have aY := ck_ (v := (.slice A0_1 l0_1.length c0_1)) ab 1 rfl; have aZ := blk_frozen ab.out 0; have ba := blk_frozen ab.out 1; have bb := ck_ (v := (.slice A1_0 l1_0.length c1_0)) ag 0 rfl; have bc := ck_ (v := (.slice A1_1 l1_1.length c1_1)) ag 1 rfl; have bd := blk_frozen ag.out 0; have be := blk_frozen ag.out 1) | ((with_reducible refine gate_callee (f := 13) rfl ?_); refine gL_ (some 9) Try.func13 #[.slice A0_0 l0_0.length c0_0, .slice A1_0 l1_0.length c1_0] ?_; (with_reducible refine (laws_eqBoolS.calls k _ _ l0_0 _ _ l1_0 true _ ?side1 ?side2 ?side3 ?side4 A3.out).mono ?_); (case side1 => exact rc_ (Kd.C_below aq.out HB.out)); (case side2 => exact ar.out); (case side3 => exact rc_ (Kd.C_below au.out HB.out)); (case side4 => exact av.out); rintro e w' ⟨rfl, ⟨nd, rfl⟩⟩; refine ⟨_, rfl, ?_⟩) | ((with_reducible refine gate_callee (f := 34) rfl ?_); refine gL_ (some 15) Try.func34 #[.slice A0_1 l0_1.length c0_1, .slice A1_1 l1_1.length c1_1] ?_; (with_reducible refine (laws_eqIntSS.calls k _ _ l0_1 _ _ l1_1 false _ ?side1 ?side2 ?side3 ?side4 A5.out).mono ?_); (case side1 => exact rc_ (Kd.C_below ax.out (b2_ HB.out ad.out an.out))); (case side2 => exact ay.out); (case side3 => exact rc_ (Kd.C_below az.out (b2_ HB.out ad.out an.out))); (case side4 => exact aA.out); rintro e w' ⟨rfl, ⟨nd, rfl⟩⟩; refine ⟨_, rfl, ?_⟩))
   go_ret
   exact ⟨by first | rfl | (simp [errW_none, errW_some] <;> rfl) | (simp [*, errW_none, errW_some] <;> rfl), by repeat (first | (with_reducible first | exact HB.out | apply below_alloc | apply pw_below_drewN | apply below_drew1 | refine below_set ?_ ad.out | refine below_set ?_ an.out) | exact HB.out)⟩
 ·replace c4 := Bool.eq_false_iff.mpr c4
  subst c4
  have H1 : (some false) = some r := by rw [if_neg (show ¬ (false = true) by decide)] at H; exact H
  clear H
  have H := H1
  clear H1
  obtain rfl := Option.some.inj H
  simp only [Option.some.injEq, Prod.mk.injEq] at H
  obtain ⟨rfl⟩ := H
  go_enter Try.func10, Try.ntmps10
  go_wp2_with (first | ((with_reducible refine gate_dst (N := 2) rfl ?_); refine box_event ?hg (N := 2) ?hd (cs := #[.slice A0_0 l0_0.length c0_0, .slice A0_1 l0_1.length c0_1]) (t := 28) ?hr ?_; (case hd => rfl); (case hg => rfl); (case hr => first | (go_simp; done) | (go_simp; rfl)); intro ae hg w17 hbox hb; replace ab := am_ (hbox); replace aB := am_ ((by rw [hg]; exact (below_size (b0_ HB.out)) : w.heap.size ≤ ae)); replace ad := am_ ((by rw [hg]; exact (below_size (b0_ HB.out)) : w.heap.size ≤ ae)); replace HB := am_ (below_step (b0_ HB.out) hb); clear hb hbox hg) | ((with_reducible refine gate_dst (N := 3) rfl ?_); refine box_event ?hg (N := 3) ?hd (cs := #[.slice A1_0 l1_0.length c1_0, .slice A1_1 l1_1.length c1_1]) (t := 28) ?hr ?_; (case hd => rfl); (case hg => rfl); (case hr => first | (go_simp; done) | (go_simp; rfl)); intro af hg w18 hbox hb; have n0_ := am_ (blk_below (rb_ ab.out) hb); have n1_ := am_ (below_step (b1_ HB.out ad.out) hb); have n2_ := am_ (hbox); have n3_ := am_ ((by rw [hg]; exact (below_size (b1_ HB.out ad.out)) : w.heap.size ≤ af)); have n4_ := am_ ((by rw [hg]; exact (below_size (b1_ HB.out ad.out)) : w.heap.size ≤ af)); have n5_ := am_ ((by rw [hg]; exact Nat.ne_of_lt (blk_lt (rb_ ab.out)) : ae ≠ af)); have n6_ := am_ ((by rw [hg]; exact Nat.ne_of_gt (blk_lt (rb_ ab.out)) : af ≠ ae)); clear ab; clear HB; have ab := n0_; have HB := n1_; have ag := n2_; have aC := n3_; have an := n4_; have al := n5_; have am := n6_; clear n0_ n1_ n2_ n3_ n4_ n5_ n6_; clear hb hbox hg; have bp := al.out; have bq := am.out; have bf := ck_ (v := (.slice A0_0 l0_0.length c0_0)) ab 0 rfl; have bg := ck_ (v := (.slice A0_1 l0_1.length c0_1)) ab 1 rfl; have bh := blk_frozen ab.out 0; have bi := blk_frozen ab.out 1; have bj := ck_ (v := (.slice A1_0 l1_0.length c1_0)) ag 0 rfl; have bk := ck_ (v := (.slice A1_1 l1_1.length c1_1)) ag 1 rfl; have bl := blk_frozen ag.out 0; have bm := blk_frozen ag.out 1) | ((with_reducible refine gate_callee (f := 13) rfl ?_); refine gL_ (some 9) Try.func13 #[.slice A0_0 l0_0.length c0_0, .slice A1_0 l1_0.length c1_0] ?_; (with_reducible refine (laws_eqBoolS.calls k _ _ l0_0 _ _ l1_0 false _ ?side1 ?side2 ?side3 ?side4 A3.out).mono ?_); (case side1 => exact rc_ (Kd.C_below aq.out HB.out)); (case side2 => exact ar.out); (case side3 => exact rc_ (Kd.C_below au.out HB.out)); (case side4 => exact av.out); rintro e w' ⟨rfl, ⟨nd, rfl⟩⟩; refine ⟨_, rfl, ?_⟩))
  go_ret
  exact ⟨by first | rfl | (simp [errW_none, errW_some] <;> rfl) | (simp [*, errW_none, errW_some] <;> rfl), by repeat (first | (with_reducible first | exact HB.out | apply below_alloc | apply pw_below_drewN | apply below_drew1 | refine below_set ?_ ad.out | refine below_set ?_ an.out) | exact HB.out)⟩
end Go.Proofs.Ytpgdhpnmagmooaa.P
end
section
namespace Go.Proofs.Ytpgdhpnmagmooaa.P
open Go.RowKit Go.Proofs.YtpgdhpnmagmooaaW.PrintWords Go.Proofs.YtpgdhpnmagmooaaW.PrintLast Go.Proofs.YtpgdhpnmagmooaaW.PrintMore
attribute [local go_sem] max2_int min2_int max_two min_two max_three min_three max_four min_four
set_option linter.unusedVariables false
set_option linter.unusedSimpArgs false
def laws_toBoolS.l0 : Nat → List Bool → List Bool → Int → Option (List Bool)
  | 0, _, _, _ => none
  | k + 1, x0, x3, x4 => if x4 < (x0.length : Int) then (if 0 ≤ x4 then (if x4 < (x3.length : Int) then (laws_toBoolS.l0 k x0 (x3.set (x4 : Int).toNat (rdOf false x0 x4)) (wrap64 (x4 + 1))) else (none)) else (none)) else (some x3)
def laws_toBoolS.f (k : Nat) (l0 : List Bool) : Option (List Bool) := if 0 ≤ (l0.length : Int) then (if ((l0.length : Int) : Int).toNat ≤ 281474976710656 then (laws_toBoolS.l0 k l0 (List.replicate ((l0.length : Int) : Int).toNat false) 0) else (none)) else (none)
theorem laws_toBoolS.mono_l : ∀ k, (∀ y0 y1 y2, LeO (laws_toBoolS.l0 k y0 y1 y2) (laws_toBoolS.l0 (k + 1) y0 y1 y2))
  | 0 => fun _ _ _ r h => by simp [laws_toBoolS.l0] at h
  | k + 1 => by
    have ih0 := laws_toBoolS.mono_l k
    · intro y0 y1 y2
      unfold laws_toBoolS.l0
      repeat' first
      | (with_reducible exact ih0 _ _ _)
      | (with_reducible exact LeO.refl _)
      | (with_reducible exact LeO.none _)
      | (with_reducible refine LeO.ite ?_ ?_)
      | (with_reducible refine LeO.bind ?_ (fun _ => ?_))
      | exact ih0 _ _ _
      | exact LeO.none _
      | refine LeO.ite ?_ ?_
      | refine LeO.bind ?_ (fun _ => ?_)
theorem laws_toBoolS.mono : ∀ a0 k, LeO (laws_toBoolS.f k a0) (laws_toBoolS.f (k + 1) a0) := by
  intro a0 k
  have ih0 := laws_toBoolS.mono_l k
  unfold laws_toBoolS.f
  repeat' first
      | (with_reducible exact ih0 _ _ _)
      | (with_reducible exact LeO.refl _)
      | (with_reducible exact LeO.none _)
      | (with_reducible refine LeO.ite ?_ ?_)
      | (with_reducible refine LeO.bind ?_ (fun _ => ?_))
      | exact ih0 _ _ _
      | exact LeO.none _
      | refine LeO.ite ?_ ?_
      | refine LeO.bind ?_ (fun _ => ?_)
theorem zp9_0_ {p q : Prop} (h : p) (c : p → q := by intro h_; repeat (first | (with_reducible first | exact h_ | apply below_alloc | apply pw_below_drewN | apply below_drew1) | exact h_)) : q := c h
set_option maxHeartbeats 8000000 in
set_option maxRecDepth 100000 in
theorem laws_toBoolS.calls (k : Nat) (A0 : Option Addr) (c0 : Nat) (l0 : List Bool) (r : List Bool) (w : World) (hr0 : Kd.C Kd.bool w A0 l0.length l0) (hc0 : l0.length ≤ c0) (h : laws_toBoolS.f k l0 = some r) :
    Calls Try.prog 29 #[.slice A0 l0.length c0] w fun e w' => ∃ v0_ : Value, e = .returned (v0_) ∧ Kd.R Kd.bool 4 w' w.heap.size (fun _ => True) v0_ r ∧ Below w.heap.size w w' := by
  have HR0 := am_ hr0
  have HC0 := am_ hc0
  clear hr0 hc0
  have HB := am_ (Below.refl w.heap.size w)
  have H : (if 0 ≤ (l0.length : Int) then (if ((l0.length : Int) : Int).toNat ≤ 281474976710656 then (laws_toBoolS.l0 k l0 (List.replicate ((l0.length : Int) : Int).toNat false) 0) else (none)) else (none)) = some r := h
  clear h
  by_cases c2 : 0 ≤ (l0.length : Int)
  · rw [if_pos c2] at H
    have c2b0 := eq_true c2
    have c2b1 : decide (0 ≤ (l0.length : Int)) = true := decide_eq_true c2
    clear c2
    by_cases c3 : ((l0.length : Int) : Int).toNat ≤ 281474976710656
    · rw [if_pos c3] at H
      have c3b0 := eq_true c3
      have c3b1 : decide (((l0.length : Int) : Int).toNat ≤ 281474976710656) = true := decide_eq_true c3
      clear c3
      obtain ⟨aR, hy195⟩ : ∃ y_ : List Bool, y_ = (List.replicate ((l0.length : Int) : Int).toNat false) := ⟨_, rfl⟩
      replace H : (laws_toBoolS.l0 k l0 aR 0) = some r := by first | (rw [hy195]; with_reducible exact H) | (have H2_ := (Option.bind_some _ _).symm.trans H; rw [hy195]; with_reducible exact H2_) | (have H2_ := (Option.bind_some _ _).symm.trans H; with_reducible exact H2_) | with_reducible exact H | (rw [hy195]; exact H) | exact H
      have aL := am_ hy195
      clear hy195
      have H' := am_ H
      clear H
      go_enter Try.func29, Try.ntmps29
      go_wp2_with (first | ((with_reducible refine gate_dst (N := 7) rfl ?_); refine Kd.R_make Kd.bool _ 4 rfl (N := 7) rfl 22 _ _ rfl (l0.length : Int) rfl rfl Try.underlying22 (.bool false) 1 info4 rfl (by decide) (by omega) false (ok := fun _ => True) (okp := fun _ => True) rfl (fun _ hk => hk) trivial (of_decide_eq_true ah_) (Nat.le_trans (Nat.mul_le_mul_right _ (of_decide_eq_true ah_ : (l0.length : Int).toNat ≤ 281474976710656)) (by omega)) (Below.refl _ _) (Nat.le_refl _) ?_; intro bk w4 ho5 hb hg_ hnew_; clear hg_ hnew_; (first | rw [← aL.out] at ho5 | (simp only [Int.reduceToNat] at ho5; rw [← aL.out] at ho5)); replace aZ := am_ (Kd.R_lower ho5 (below_size (b0_ HB.out))); replace HB := am_ (below_step (b0_ HB.out) hb); clear hb ho5))
      go_loopg [4] k (fun kq v4 w' => ∃ (ae : List Bool) (aa : Int), v4 = .int .i64 aa ∧ Aside0 (laws_toBoolS.l0 kq l0 ae aa = some r) ∧ Aside0 (kq ≤ k) ∧ Aside0 (Kd.R Kd.bool 4 w' w.heap.size (fun _ => True) bk ae) ∧ Aside0 (Below w.heap.size w w'))
      case atStart => exact ⟨(aR), (0), (by first | rfl | (simp; done) | (simp [*]; done)), H', ⟨Nat.le_refl _⟩, ⟨by refine rr_ ?_; exact aZ.out⟩, ⟨by exact zp9_0_ HB.out⟩⟩
      case round =>
        clear H'
        try clear c2
        try clear c2b0
        try clear c2b1
        try clear p2
        try clear c3
        try clear c3b0
        try clear c3b1
        obtain ⟨ae, aa, rfl, HA, HK1, ab, HB⟩ := hrel
        cases gk with
        | zero => exact absurd HA.out (by simp [laws_toBoolS.l0])
        | succ k1 =>
          have H := HA.out
          clear HA
          simp only [laws_toBoolS.l0] at H
          by_cases c6 : aa < (l0.length : Int)
          · rw [if_pos c6] at H
            have c6b0 : decide (aa < (l0.length : Int)) = true := decide_eq_true c6
            clear c6
            by_cases c7 : 0 ≤ aa
            · rw [if_pos c7] at H
              have c7b0 : decide (0 ≤ aa) = true := decide_eq_true c7
              clear c7
              by_cases c8 : aa < (ae.length : Int)
              · rw [if_pos c8] at H
                have c8b0 : decide (aa < (ae.length : Int)) = true := decide_eq_true c8
                clear c8
                obtain ⟨aI, hy199⟩ : ∃ y_ : List Bool, y_ = (ae.set (aa : Int).toNat (rdOf false l0 aa)) := ⟨_, rfl⟩
                replace H : (laws_toBoolS.l0 k1 l0 aI (wrap64 (aa + 1))) = some r := by first | (rw [hy199]; with_reducible exact H) | (have H2_ := (Option.bind_some _ _).symm.trans H; rw [hy199]; with_reducible exact H2_) | (have H2_ := (Option.bind_some _ _).symm.trans H; with_reducible exact H2_) | with_reducible exact H | (rw [hy199]; exact H) | exact H
                have ba := am_ hy199
                clear hy199
                have H' := am_ H
                clear H
                have p198 : 0 ≤ (aa : Int) := of_decide_eq_true ah_
                have q198 : aa < (l0.length : Int) := of_decide_eq_true ah_
                obtain ⟨bK, e198, av⟩ := Kd.at_bool HR0.out aa p198 q198
                cases e198
                replace av := (HB.out.cell (World.block_lt_of_cell? w _ av)).trans av
                replace p198 := eq_true p198
                replace q198 := eq_true q198
                have p9 : 0 ≤ (aa : Int) := of_decide_eq_true ah_
                have q9 : (aa : Int) < ((ae.length : Int) : Int) := of_decide_eq_true ah_
                obtain ⟨go9, co9, eo9, gb9, gl9, cl9, HG9⟩ := Kd.R_form ab.out (by omega)
                (first | cases eo9 | (injection eo9 with ea_ en_ ec_; (first | subst ea_ | (injection ea_ with ea_; subst ea_)); subst ec_; clear en_))
                have GB9 := am_ gb9
                have GG9 := am_ HG9
                clear gb9 gl9 HG9
                obtain ⟨bb, hf9_0⟩ := Kd.R_celln false ab.out (aa : Int) p9 q9
                replace p9 := eq_true p9
                replace q9 := eq_true q9
                have HP10 := Kd.R_putg ab.out (aa : Int) (rdOf false l0 aa)
                go_wp2_with (first | ((with_reducible refine gate_store (t := 4) (p := 20) rfl ?_); refine store_event (t := 4) (p := 20) (v := ?vo_w11) (w1 := (wr.setCell ⟨go9, (aa : Int).toNat, none⟩ (.bool (rdOf false l0 aa)))) ?hg ?ho ?hn ?hr ?_; (case ho => rfl); (case hg => rfl); (case hn => rfl); (case hr => first | (go_simp; done) | (go_simp; rfl)); intro w11 hw; have hg : wr.grownBy w11 (some go9) := (by rw [hw]; exact HP10.2); have hp_ : Kd.R Kd.bool 4 w11 w.heap.size (fun _ => True) (.slice (some ⟨go9, 0, none⟩) ae.length co9) aI := (by rw [hw, ba.out]; exact HP10.1); clear HP10; have n0_ := am_ (hp_); have n1_ := am_ ((by rw [hw]; exact below_set (HB.out) GB9.out : Below w.heap.size w w11)); clear ab; clear HB; have ab := n0_; have HB := n1_; clear n0_ n1_; clear hg hw hp_))
                go_roundg k1
                case measure => have := HK1.out; omega
                case rel => exact ⟨(aI), (wrap64 (aa + 1)), (by first | rfl | (simp; done) | (simp [*]; done)), H', ⟨by have := HK1.out; omega⟩, ⟨by refine rr_ ?_; exact ab.out⟩, ⟨by exact zp9_0_ HB.out⟩⟩
              · rw [if_neg c8] at H
                exact absurd H (by simp)
            · rw [if_neg c7] at H
              exact absurd H (by simp)
          · rw [if_neg c6] at H
            have c6b0 : decide (aa < (l0.length : Int)) = false := decide_eq_false c6
            clear c6
            obtain rfl := Option.some.inj H
            simp only [Option.some.injEq, Prod.mk.injEq] at H
            obtain ⟨rfl⟩ := H
            go_wp2
            go_ret
            exact ⟨_, by first | rfl | (simp [errW_none, errW_some] <;> rfl) | (simp [*, errW_none, errW_some] <;> rfl), by refine rr_ ?_; exact ab.out, by exact zp9_0_ HB.out⟩
    · rw [if_neg c3] at H
      exact absurd H (by simp)
  · rw [if_neg c2] at H
    exact absurd H (by simp)
def laws_toIntS.l0 : Nat → List Int → List Int → Int → Option (List Int)
  | 0, _, _, _ => none
  | k + 1, x0, x3, x4 => if x4 < (x0.length : Int) then (if 0 ≤ x4 then (if x4 < (x3.length : Int) then (laws_toIntS.l0 k x0 (x3.set (x4 : Int).toNat (rd x0 x4)) (wrap64 (x4 + 1))) else (none)) else (none)) else (some x3)
def laws_toIntS.f (k : Nat) (l0 : List Int) : Option (List Int) := if 0 ≤ (l0.length : Int) then (if ((l0.length : Int) : Int).toNat ≤ 35184372088832 then (laws_toIntS.l0 k l0 (List.replicate ((l0.length : Int) : Int).toNat 0) 0) else (none)) else (none)
theorem laws_toIntS.mono_l : ∀ k, (∀ y0 y1 y2, LeO (laws_toIntS.l0 k y0 y1 y2) (laws_toIntS.l0 (k + 1) y0 y1 y2))
  | 0 => fun _ _ _ r h => by simp [laws_toIntS.l0] at h
  | k + 1 => by
    have ih0 := laws_toIntS.mono_l k
    · intro y0 y1 y2
      unfold laws_toIntS.l0
      repeat' first
      | (with_reducible exact ih0 _ _ _)
      | (with_reducible exact LeO.refl _)
      | (with_reducible exact LeO.none _)
      | (with_reducible refine LeO.ite ?_ ?_)
      | (with_reducible refine LeO.bind ?_ (fun _ => ?_))
      | exact ih0 _ _ _
      | exact LeO.none _
      | refine LeO.ite ?_ ?_
      | refine LeO.bind ?_ (fun _ => ?_)
theorem laws_toIntS.mono : ∀ a0 k, LeO (laws_toIntS.f k a0) (laws_toIntS.f (k + 1) a0) := by
  intro a0 k
  have ih0 := laws_toIntS.mono_l k
  unfold laws_toIntS.f
  repeat' first
      | (with_reducible exact ih0 _ _ _)
      | (with_reducible exact LeO.refl _)
      | (with_reducible exact LeO.none _)
      | (with_reducible refine LeO.ite ?_ ?_)
      | (with_reducible refine LeO.bind ?_ (fun _ => ?_))
      | exact ih0 _ _ _
      | exact LeO.none _
      | refine LeO.ite ?_ ?_
      | refine LeO.bind ?_ (fun _ => ?_)
set_option maxHeartbeats 8000000 in
set_option maxRecDepth 100000 in
theorem laws_toIntS.calls (k : Nat) (A0 : Option Addr) (c0 : Nat) (l0 : List Int) (r : List Int) (w : World) (hr0 : Kd.C (Kd.int .i64) w A0 l0.length l0) (hc0 : l0.length ≤ c0) (h : laws_toIntS.f k l0 = some r) :
    Calls Try.prog 48 #[.slice A0 l0.length c0] w fun e w' => ∃ v0_ : Value, e = .returned (v0_) ∧ Kd.R (Kd.int .i64) 3 w' w.heap.size (fun _ => True) v0_ r ∧ Below w.heap.size w w' := by
  have HR0 := am_ hr0
  have HC0 := am_ hc0
  clear hr0 hc0
  have HB := am_ (Below.refl w.heap.size w)
  have H : (if 0 ≤ (l0.length : Int) then (if ((l0.length : Int) : Int).toNat ≤ 35184372088832 then (laws_toIntS.l0 k l0 (List.replicate ((l0.length : Int) : Int).toNat 0) 0) else (none)) else (none)) = some r := h
  clear h
  by_cases c2 : 0 ≤ (l0.length : Int)
  · rw [if_pos c2] at H
    have c2b0 := eq_true c2
    have c2b1 : decide (0 ≤ (l0.length : Int)) = true := decide_eq_true c2
    clear c2
    by_cases c3 : ((l0.length : Int) : Int).toNat ≤ 35184372088832
    · rw [if_pos c3] at H
      have c3b0 := eq_true c3
      have c3b1 : decide (((l0.length : Int) : Int).toNat ≤ 35184372088832) = true := decide_eq_true c3
      clear c3
      obtain ⟨aS, hy200⟩ : ∃ y_ : List Int, y_ = (List.replicate ((l0.length : Int) : Int).toNat 0) := ⟨_, rfl⟩
      replace H : (laws_toIntS.l0 k l0 aS 0) = some r := by first | (rw [hy200]; with_reducible exact H) | (have H2_ := (Option.bind_some _ _).symm.trans H; rw [hy200]; with_reducible exact H2_) | (have H2_ := (Option.bind_some _ _).symm.trans H; with_reducible exact H2_) | with_reducible exact H | (rw [hy200]; exact H) | exact H
      have aM := am_ hy200
      clear hy200
      have H' := am_ H
      clear H
      go_enter Try.func48, Try.ntmps48
      go_wp2_with (first | ((with_reducible refine gate_dst (N := 7) rfl ?_); refine Kd.R_make (Kd.int .i64) _ 3 rfl (N := 7) rfl 43 _ _ rfl (l0.length : Int) rfl rfl Try.underlying43 (.int .i64 0) 8 info3 rfl (by decide) (by omega) 0 (ok := fun _ => True) (okp := fun _ => True) rfl (fun _ hk => hk) trivial (of_decide_eq_true ah_) (Nat.le_trans (Nat.mul_le_mul_right _ (of_decide_eq_true ah_ : (l0.length : Int).toNat ≤ 35184372088832)) (by omega)) (Below.refl _ _) (Nat.le_refl _) ?_; intro bl w4 ho5 hb hg_ hnew_; clear hg_ hnew_; (first | rw [← aM.out] at ho5 | (simp only [Int.reduceToNat] at ho5; rw [← aM.out] at ho5)); replace bc := am_ (Kd.R_lower ho5 (below_size (b0_ HB.out))); replace HB := am_ (below_step (b0_ HB.out) hb); clear hb ho5))
      go_loopg [4] k (fun kq v4 w' => ∃ (ae : List Int) (aa : Int), v4 = .int .i64 aa ∧ Aside0 (laws_toIntS.l0 kq l0 ae aa = some r) ∧ Aside0 (kq ≤ k) ∧ Aside0 (Kd.R (Kd.int .i64) 3 w' w.heap.size (fun _ => True) bl ae) ∧ Aside0 (Below w.heap.size w w'))
      case atStart => exact ⟨(aS), (0), (by first | rfl | (simp; done) | (simp [*]; done)), H', ⟨Nat.le_refl _⟩, ⟨by refine rr_ ?_; exact bc.out⟩, ⟨by exact zp9_0_ HB.out⟩⟩
      case round =>
        clear H'
        try clear c2
        try clear c2b0
        try clear c2b1
        try clear p2
        try clear c3
        try clear c3b0
        try clear c3b1
        try clear c4
        obtain ⟨ae, aa, rfl, HA, HK1, ab, HB⟩ := hrel
        cases gk with
        | zero => exact absurd HA.out (by simp [laws_toIntS.l0])
        | succ k1 =>
          have H := HA.out
          clear HA
          simp only [laws_toIntS.l0] at H
          by_cases c6 : aa < (l0.length : Int)
          · rw [if_pos c6] at H
            have c6b0 : decide (aa < (l0.length : Int)) = true := decide_eq_true c6
            clear c6
            by_cases c7 : 0 ≤ aa
            · rw [if_pos c7] at H
              have c7b0 : decide (0 ≤ aa) = true := decide_eq_true c7
              clear c7
              by_cases c8 : aa < (ae.length : Int)
              · rw [if_pos c8] at H
                have c8b0 : decide (aa < (ae.length : Int)) = true := decide_eq_true c8
                clear c8
                obtain ⟨aJ, hy204⟩ : ∃ y_ : List Int, y_ = (ae.set (aa : Int).toNat (rd l0 aa)) := ⟨_, rfl⟩
                replace H : (laws_toIntS.l0 k1 l0 aJ (wrap64 (aa + 1))) = some r := by first | (rw [hy204]; with_reducible exact H) | (have H2_ := (Option.bind_some _ _).symm.trans H; rw [hy204]; with_reducible exact H2_) | (have H2_ := (Option.bind_some _ _).symm.trans H; with_reducible exact H2_) | with_reducible exact H | (rw [hy204]; exact H) | exact H
                have bd := am_ hy204
                clear hy204
                have H' := am_ H
                clear H
                have p203 : 0 ≤ (aa : Int) := of_decide_eq_true ah_
                have q203 : aa < (l0.length : Int) := of_decide_eq_true ah_
                obtain ⟨bL, e203, aw⟩ := Kd.at_int HR0.out aa p203 q203
                cases e203
                replace aw := (HB.out.cell (World.block_lt_of_cell? w _ aw)).trans aw
                replace p203 := eq_true p203
                replace q203 := eq_true q203
                have p9 : 0 ≤ (aa : Int) := of_decide_eq_true ah_
                have q9 : (aa : Int) < ((ae.length : Int) : Int) := of_decide_eq_true ah_
                obtain ⟨go9, co9, eo9, gb9, gl9, cl9, HG9⟩ := Kd.R_form ab.out (by omega)
                (first | cases eo9 | (injection eo9 with ea_ en_ ec_; (first | subst ea_ | (injection ea_ with ea_; subst ea_)); subst ec_; clear en_))
                have GB9 := am_ gb9
                have GG9 := am_ HG9
                clear gb9 gl9 HG9
                obtain ⟨bb, hf9_0⟩ := Kd.R_celln 0 ab.out (aa : Int) p9 q9
                replace p9 := eq_true p9
                replace q9 := eq_true q9
                have HP10 := Kd.R_putg ab.out (aa : Int) (rd l0 aa)
                go_wp2_with (first | ((with_reducible refine gate_store (t := 3) (p := 20) rfl ?_); refine store_event (t := 3) (p := 20) (v := ?vo_w11) (w1 := (wr.setCell ⟨go9, (aa : Int).toNat, none⟩ (.int .i64 (rd l0 aa)))) ?hg ?ho ?hn ?hr ?_; (case ho => rfl); (case hg => rfl); (case hn => rfl); (case hr => first | (go_simp; done) | (go_simp; rfl)); intro w11 hw; have hg : wr.grownBy w11 (some go9) := (by rw [hw]; exact HP10.2); have hp_ : Kd.R (Kd.int .i64) 3 w11 w.heap.size (fun _ => True) (.slice (some ⟨go9, 0, none⟩) ae.length co9) aJ := (by rw [hw, bd.out]; exact HP10.1); clear HP10; have n0_ := am_ (hp_); have n1_ := am_ ((by rw [hw]; exact below_set (HB.out) GB9.out : Below w.heap.size w w11)); clear ab; clear HB; have ab := n0_; have HB := n1_; clear n0_ n1_; clear hg hw hp_))
                go_roundg k1
                case measure => have := HK1.out; omega
                case rel => exact ⟨(aJ), (wrap64 (aa + 1)), (by first | rfl | (simp; done) | (simp [*]; done)), H', ⟨by have := HK1.out; omega⟩, ⟨by refine rr_ ?_; exact ab.out⟩, ⟨by exact zp9_0_ HB.out⟩⟩
              · rw [if_neg c8] at H
                exact absurd H (by simp)
            · rw [if_neg c7] at H
              exact absurd H (by simp)
          · rw [if_neg c6] at H
            have c6b0 : decide (aa < (l0.length : Int)) = false := decide_eq_false c6
            clear c6
            obtain rfl := Option.some.inj H
            simp only [Option.some.injEq, Prod.mk.injEq] at H
            obtain ⟨rfl⟩ := H
            go_wp2
            go_ret
            exact ⟨_, by first | rfl | (simp [errW_none, errW_some] <;> rfl) | (simp [*, errW_none, errW_some] <;> rfl), by refine rr_ ?_; exact ab.out, by exact zp9_0_ HB.out⟩
    · rw [if_neg c3] at H
      exact absurd H (by simp)
  · rw [if_neg c2] at H
    exact absurd H (by simp)
def laws_toIntSS.l0 : Nat → List (List Int) → List (List Int) → Int → Option ((List (List Int)))
  | 0, _, _, _ => none
  | k + 1, x0, x3, x4 => if x4 < (x0.length : Int) then (if 0 ≤ x4 then ((laws_toIntS.f k (rd_L1 x0 x4)).bind fun aA => (if x4 < (x3.length : Int) then (laws_toIntSS.l0 k x0 (x3.set (x4 : Int).toNat aA) (wrap64 (x4 + 1))) else (none))) else (none)) else (some x3)
def laws_toIntSS.f (k : Nat) (l0 : List (List Int)) : Option ((List (List Int))) := if 0 ≤ (l0.length : Int) then (if ((l0.length : Int) : Int).toNat ≤ 11728124029610 then (laws_toIntSS.l0 k l0 (List.replicate ((l0.length : Int) : Int).toNat []) 0) else (none)) else (none)
theorem laws_toIntSS.mono_l : ∀ k, (∀ y0 y1 y2, LeO (laws_toIntSS.l0 k y0 y1 y2) (laws_toIntSS.l0 (k + 1) y0 y1 y2))
  | 0 => fun _ _ _ r h => by simp [laws_toIntSS.l0] at h
  | k + 1 => by
    have ih0 := laws_toIntSS.mono_l k
    · intro y0 y1 y2
      unfold laws_toIntSS.l0
      repeat' first
      | (with_reducible exact ih0 _ _ _)
      | (with_reducible exact laws_toIntS.mono _ _)
      | (with_reducible exact LeO.refl _)
      | (with_reducible exact LeO.none _)
      | (with_reducible refine LeO.ite ?_ ?_)
      | (with_reducible refine LeO.bind ?_ (fun _ => ?_))
      | exact ih0 _ _ _
      | exact laws_toIntS.mono _ _
      | exact LeO.none _
      | refine LeO.ite ?_ ?_
      | refine LeO.bind ?_ (fun _ => ?_)
theorem laws_toIntSS.mono : ∀ a0 k, LeO (laws_toIntSS.f k a0) (laws_toIntSS.f (k + 1) a0) := by
  intro a0 k
  have ih0 := laws_toIntSS.mono_l k
  unfold laws_toIntSS.f
  repeat' first
      | (with_reducible exact ih0 _ _ _)
      | (with_reducible exact laws_toIntS.mono _ _)
      | (with_reducible exact LeO.refl _)
      | (with_reducible exact LeO.none _)
      | (with_reducible refine LeO.ite ?_ ?_)
      | (with_reducible refine LeO.bind ?_ (fun _ => ?_))
      | exact ih0 _ _ _
      | exact laws_toIntS.mono _ _
      | exact LeO.none _
      | refine LeO.ite ?_ ?_
      | refine LeO.bind ?_ (fun _ => ?_)
set_option maxHeartbeats 8000000 in
set_option maxRecDepth 100000 in
theorem laws_toIntSS.calls (k : Nat) (A0 : Option Addr) (c0 : Nat) (l0 : List (List Int)) (r : List (List Int)) (w : World) (hr0 : Kd.C (Kd.slice 3 (Kd.int .i64)) w A0 l0.length l0) (hc0 : l0.length ≤ c0) (h : laws_toIntSS.f k l0 = some r) :
    Calls Try.prog 30 #[.slice A0 l0.length c0] w fun e w' => ∃ v0_ : Value, e = .returned (v0_) ∧ Kd.S (Kd.slice 3 (Kd.int .i64)) 43 w' w.heap.size (fun _ => True) v0_ r ∧ Below w.heap.size w w' := by
  have HR0 := am_ hr0
  have HC0 := am_ hc0
  clear hr0 hc0
  have HB := am_ (Below.refl w.heap.size w)
  have H : (if 0 ≤ (l0.length : Int) then (if ((l0.length : Int) : Int).toNat ≤ 11728124029610 then (laws_toIntSS.l0 k l0 (List.replicate ((l0.length : Int) : Int).toNat []) 0) else (none)) else (none)) = some r := h
  clear h
  by_cases c2 : 0 ≤ (l0.length : Int)
  · rw [if_pos c2] at H
    have c2b0 := eq_true c2
    have c2b1 : decide (0 ≤ (l0.length : Int)) = true := decide_eq_true c2
    clear c2
    by_cases c3 : ((l0.length : Int) : Int).toNat ≤ 11728124029610
    · rw [if_pos c3] at H
      have c3b0 := eq_true c3
      have c3b1 : decide (((l0.length : Int) : Int).toNat ≤ 11728124029610) = true := decide_eq_true c3
      clear c3
      obtain ⟨aT, hy205⟩ : ∃ y_ : List (List Int), y_ = (List.replicate ((l0.length : Int) : Int).toNat []) := ⟨_, rfl⟩
      replace H : (laws_toIntSS.l0 k l0 aT 0) = some r := by first | (rw [hy205]; with_reducible exact H) | (have H2_ := (Option.bind_some _ _).symm.trans H; rw [hy205]; with_reducible exact H2_) | (have H2_ := (Option.bind_some _ _).symm.trans H; with_reducible exact H2_) | with_reducible exact H | (rw [hy205]; exact H) | exact H
      have aN := am_ hy205
      clear hy205
      have H' := am_ H
      clear H
      go_enter Try.func30, Try.ntmps30
      go_wp2_with (first | ((with_reducible refine gate_dst (N := 7) rfl ?_); refine Kd.S_make (Kd.slice 3 (Kd.int .i64)) _ 43 rfl (N := 7) rfl 23 _ _ rfl (l0.length : Int) rfl rfl Try.underlying23 (.slice none 0 0) 24 info43 rfl (by decide) (by omega) [] (ok := fun _ => True) (okp := fun _ => True) ⟨_, rfl, Kd.R_nil _ _ _ _ _⟩ (fun _ hk => hk) trivial (of_decide_eq_true ah_) (Nat.le_trans (Nat.mul_le_mul_right _ (of_decide_eq_true ah_ : (l0.length : Int).toNat ≤ 11728124029610)) (by omega)) (Below.refl _ _) (Nat.le_refl _) ?_; intro bm w4 ho5 hb hg_ hnew_; clear hg_ hnew_; (first | rw [← aN.out] at ho5 | (simp only [Int.reduceToNat] at ho5; rw [← aN.out] at ho5)); replace be := am_ (Kd.S_lower ho5 (below_size (b0_ HB.out))); replace HB := am_ (below_step (b0_ HB.out) hb); clear hb ho5))
      go_loopg [4] k (fun kq v4 w' => ∃ (ae : List (List Int)) (aa : Int), v4 = .int .i64 aa ∧ Aside0 (laws_toIntSS.l0 kq l0 ae aa = some r) ∧ Aside0 (kq ≤ k) ∧ Aside0 (Kd.S (Kd.slice 3 (Kd.int .i64)) 43 w' w.heap.size (fun _ => True) bm ae) ∧ Aside0 (Below w.heap.size w w'))
      case atStart => exact ⟨(aT), (0), (by first | rfl | (simp; done) | (simp [*]; done)), H', ⟨Nat.le_refl _⟩, ⟨by refine rs_ ?_; exact be.out⟩, ⟨by exact zp9_0_ HB.out⟩⟩
      case round =>
        clear H'
        try clear c2
        try clear c2b0
        try clear c2b1
        try clear p2
        try clear c3
        try clear c3b0
        try clear c3b1
        obtain ⟨ae, aa, rfl, HA, HK1, ab, HB⟩ := hrel
        cases gk with
        | zero => exact absurd HA.out (by simp [laws_toIntSS.l0])
        | succ k1 =>
          have H := HA.out
          clear HA
          simp only [laws_toIntSS.l0] at H
          by_cases c6 : aa < (l0.length : Int)
          · rw [if_pos c6] at H
            have c6b0 : decide (aa < (l0.length : Int)) = true := decide_eq_true c6
            clear c6
            by_cases c7 : 0 ≤ aa
            · rw [if_pos c7] at H
              have c7b0 : decide (0 ≤ aa) = true := decide_eq_true c7
              clear c7
              replace H := Option.bind_eq_some_iff.mp H
              obtain ⟨aA, A80, H⟩ := H
              have A8 := am_ A80
              clear A80
              by_cases c9 : aa < (ae.length : Int)
              · rw [if_pos c9] at H
                have c9b0 : decide (aa < (ae.length : Int)) = true := decide_eq_true c9
                clear c9
                obtain ⟨aK, hy212⟩ : ∃ y_ : List (List Int), y_ = (ae.set (aa : Int).toNat aA) := ⟨_, rfl⟩
                replace H : (laws_toIntSS.l0 k1 l0 aK (wrap64 (aa + 1))) = some r := by first | (rw [hy212]; with_reducible exact H) | (have H2_ := (Option.bind_some _ _).symm.trans H; rw [hy212]; with_reducible exact H2_) | (have H2_ := (Option.bind_some _ _).symm.trans H; with_reducible exact H2_) | with_reducible exact H | (rw [hy212]; exact H) | exact H
                have bf := am_ hy212
                clear hy212
                have H' := am_ H
                clear H
                have p208 : 0 ≤ (aa : Int) := of_decide_eq_true ah_
                have q208 : aa < (l0.length : Int) := of_decide_eq_true ah_
                obtain ⟨bM, A208_0, c208_0, e208, ax, hl208_0, hi208_0⟩ := at_L1 HR0.out aa p208 q208
                cases e208
                replace ax := (HB.out.cell (World.block_lt_of_cell? w _ ax)).trans ax
                have aP := am_ hi208_0
                have aQ := am_ hl208_0
                clear hi208_0 hl208_0
                replace p208 := eq_true p208
                replace q208 := eq_true q208
                go_wp2_with (first | ((with_reducible refine gate_callee (f := 48) rfl ?_); refine gL_ (some 20) Try.func48 #[.slice A208_0 (rd_L1 l0 aa).length c208_0] ?_; (with_reducible refine (laws_toIntS.calls k1 _ _ (rd_L1 l0 aa) aA _ ?side1 ?side2 A8.out).mono ?_); (case side1 => exact rc_ (Kd.C_below aP.out HB.out)); (case side2 => exact aQ.out); rintro e w11 ⟨aD, rfl, ho0, hb⟩; refine ⟨_, rfl, ?_⟩; have n0_ := am_ (Kd.S_elder' (rs_ ab.out) (Kd.R_base ho0) hb); have n1_ := am_ (Kd.R_lower ho0 (below_size (b0_ HB.out))); have n2_ := am_ (below_step (b0_ HB.out) hb); clear ab; clear HB; have ab := n0_; have az := n1_; have HB := n2_; clear n0_ n1_ n2_; (try clear hb); (try clear hb2); (try clear hk); (try clear hi); (try clear ho0); have p10 : 0 ≤ (aa : Int) := of_decide_eq_true ah_; have q10 : (aa : Int) < ((ae.length : Int) : Int) := of_decide_eq_true ah_; obtain ⟨go10, aU, aV, aW, gl10, cl10, HG10⟩ := Kd.S_form ab.out (by omega); (first | cases aV | (injection aV with ea_ en_ ec_; (first | subst ea_ | (injection ea_ with ea_; subst ea_)); subst ec_; clear en_)); have GB10 := am_ aW; have GG10 := am_ HG10; clear aW gl10 HG10; obtain ⟨_, ce10, hcl10, hM10, hcc10, hfr10, _, _⟩ := Kd.S_elem ab.out [] (aa : Int) p10 q10; obtain ⟨ve10_0, rfl, ge10_0⟩ := hM10; have aX := hcc10 0 _ rfl; have hf10_0 := hfr10 0; (try simp only [show ((Kd.slice 3 (Kd.int .i64))).sz = 1 from rfl, Nat.mul_one, Nat.add_zero] at aX); (try simp only [show ((Kd.slice 3 (Kd.int .i64))).sz = 1 from rfl, Nat.mul_one, Nat.add_zero] at hf10_0); (try clear hcl10); (try clear hcc10); (try clear hfr10); (try clear hM10); replace p10 := eq_true p10; replace q10 := eq_true q10; have n_ := am_ (Kd.S_mono (ok' := (fun k_ => some k_ ≠ (aD : Value).ownBlock)) ab.out (fun k_ hk => hk.2)); clear ab; have ab := n_; clear n_; have HX12 := am_ (show Kd.S (Kd.slice 3 (Kd.int .i64)) 43 w11 w.heap.size (fun k_ => ((fun _ => True)) k_ ∧ ¬ ((fun k_ => some k_ = (aD : Value).ownBlock)) k_) (.slice (some ⟨go10, 0, none⟩) ae.length aU) ae from (by refine rs_ ?_; exact Kd.S_mono ab.out (fun k_ hk => ⟨trivial, fun e_ => hk e_⟩))); obtain ⟨oki12, ce12, hcl12, hM12, hcc12, hfr12, hoki12, hH12⟩ := Kd.S_elem HX12.out [] (aa : Int) (of_decide_eq_true ah_) (by have h_ : (aa : Int) < ((ae.length : Int) : Int) := of_decide_eq_true ah_; first | exact h_ | (have e_ := (Kd.S_reads' ab.out).1; omega) | simpa using h_); obtain ⟨ve12_0, rfl, ge12_0⟩ := hM12; have HP12 := Kd.S_seg hH12 (of_decide_eq_true ah_) (by have h_ : (aa : Int) < ((ae.length : Int) : Int) := of_decide_eq_true ah_; first | exact h_ | (have e_ := (Kd.S_reads' ab.out).1; omega) | simpa using h_) (seg := [aD]) (j := 0) (show 1 ≤ 1 from by decide) (x' := aA) (Kd.M_row (Kd.R_mono (Kd.R_tight rfl (Kd.R_mono (ok' := fun k_ => ((fun _ => True)) k_ ∧ k_ ≠ go10) (Kd.R_apart' (az.out) (Kd.S_typed ab.out) (by decide)) (fun k_ hk => ⟨trivial, fun e_ => (hk.2) (by rw [e_]; rfl)⟩))) (fun _ h_ => Or.inr (h_)))) (fun _ hk => hk) (fun k_ hk_ => ((Kd.R_mono (ok' := fun k_ => ((fun _ => True)) k_ ∧ k_ ≠ go10) (Kd.R_apart' (az.out) (Kd.S_typed ab.out) (by decide)) (fun k_ hk => ⟨trivial, fun e_ => (hk.2) (by rw [e_]; rfl)⟩))).1 k_ hk_.symm); have aY := hcc12 0 _ rfl; (try simp only [show ((Kd.slice 3 (Kd.int .i64))).sz = 1 from rfl, Nat.mul_one, Nat.add_zero] at aY); have hf12_0 := hfr12 0; (try simp only [show ((Kd.slice 3 (Kd.int .i64))).sz = 1 from rfl, Nat.mul_one, Nat.add_zero] at hf12_0); (try clear hcl12); (try clear hcc12); (try clear hfr12); (try clear hM12); (try clear hoki12); (try clear hH12); (try simp only [show ((Kd.slice 3 (Kd.int .i64))).sz = 1 from rfl, Nat.mul_one, Nat.add_zero] at HP12)) | ((with_reducible refine gate_store (t := 43) (p := 21) rfl ?_); refine store_event (t := 43) (p := 21) (v := ?vo_w13) (w1 := (w11.setCell ⟨go10, (aa : Int).toNat, none⟩ (aD))) ?hg ?ho ?hn ?hr ?_; (case ho => rfl); (case hg => rfl); (case hn => rfl); (case hr => first | (go_simp; done) | (go_simp; rfl) | (obtain ⟨A_, c_, hv_, _⟩ := Kd.R_reads az.out; rw [hv_]; first | (go_simp; done) | (go_simp; rfl))); intro w13 hw; have hg : w11.grownBy w13 (some go10) := (by rw [hw]; exact HP12.2); have hp_ : Kd.S (Kd.slice 3 (Kd.int .i64)) 43 w13 w.heap.size (fun _ => True) (.slice (some ⟨go10, 0, none⟩) ae.length aU) aK := (by rw [hw, bf.out]; exact HP12.1); clear HP12; have n0_ := am_ (hp_); have n1_ := am_ ((by rw [hw]; exact below_set (HB.out) GB10.out : Below w.heap.size w w13)); clear ab; clear HB; clear az; have ab := n0_; have HB := n1_; clear n0_ n1_; clear hg hw hp_))
                go_roundg k1
                case measure => have := HK1.out; omega
                case rel => exact ⟨(aK), (wrap64 (aa + 1)), (by first | rfl | (simp; done) | (simp [*]; done)), H', ⟨by have := HK1.out; omega⟩, ⟨by refine rs_ ?_; exact ab.out⟩, ⟨by exact zp9_0_ HB.out⟩⟩
              · rw [if_neg c9] at H
                exact absurd H (by simp)
            · rw [if_neg c7] at H
              exact absurd H (by simp)
          · rw [if_neg c6] at H
            have c6b0 : decide (aa < (l0.length : Int)) = false := decide_eq_false c6
            clear c6
            obtain rfl := Option.some.inj H
            simp only [Option.some.injEq, Prod.mk.injEq] at H
            obtain ⟨rfl⟩ := H
            go_wp2
            go_ret
            exact ⟨_, by first | rfl | (simp [errW_none, errW_some] <;> rfl) | (simp [*, errW_none, errW_some] <;> rfl), by refine rs_ ?_; exact ab.out, by exact zp9_0_ HB.out⟩
    · rw [if_neg c3] at H
      exact absurd H (by simp)
  · rw [if_neg c2] at H
    exact absurd H (by simp)
def laws_toDfa.f (k : Nat) (l0_0 : List Bool) (l0_1 : List (List Int)) : Option (List Bool × (List (List Int))) := (laws_toBoolS.f k l0_0).bind fun aj => ((laws_toIntSS.f k l0_1).bind fun ak => (some (aj, ak)))
theorem laws_toDfa.mono : ∀ a0 a1 k, LeO (laws_toDfa.f k a0 a1) (laws_toDfa.f (k + 1) a0 a1) := by
  intro a0 a1 k
  unfold laws_toDfa.f
  repeat' first
      | (with_reducible exact laws_toBoolS.mono _ _)
      | (with_reducible exact laws_toIntSS.mono _ _)
      | (with_reducible exact LeO.refl _)
      | (with_reducible exact LeO.none _)
      | (with_reducible refine LeO.ite ?_ ?_)
      | (with_reducible refine LeO.bind ?_ (fun _ => ?_))
      | exact laws_toBoolS.mono _ _
      | exact laws_toIntSS.mono _ _
      | exact LeO.none _
      | refine LeO.ite ?_ ?_
      | refine LeO.bind ?_ (fun _ => ?_)
set_option maxHeartbeats 8000000 in
set_option maxRecDepth 100000 in
theorem laws_toDfa.calls (k : Nat) (A0_0 : Option Addr) (c0_0 : Nat) (l0_0 : List Bool) (A0_1 : Option Addr) (c0_1 : Nat) (l0_1 : List (List Int)) (r1 : List Bool) (r2 : List (List Int)) (w : World) (hr0_0 : Kd.C Kd.bool w A0_0 l0_0.length l0_0) (hc0_0 : l0_0.length ≤ c0_0) (hr0_1 : Kd.C (Kd.slice 3 (Kd.int .i64)) w A0_1 l0_1.length l0_1) (hc0_1 : l0_1.length ≤ c0_1) (h : laws_toDfa.f k l0_0 l0_1 = some (r1, r2)) :
    Calls Try.prog 8 #[.agg #[.slice A0_0 l0_0.length c0_0, .slice A0_1 l0_1.length c0_1]] w fun e w' => ∃ v0_ v1_ : Value, e = .returned (.agg #[v0_, v1_]) ∧ Kd.R Kd.bool 4 w' w.heap.size (fun _ => True) v0_ r1 ∧ Kd.S (Kd.slice 3 (Kd.int .i64)) 43 w' w.heap.size (fun _ => True) v1_ r2 ∧ Below w.heap.size w w' := by
  have hu25 := Try.underlying25
  have hu28 := Try.underlying28
  have bg := am_ hr0_0
  have bh := am_ hc0_0
  clear hr0_0 hc0_0
  have bi := am_ hr0_1
  have bj := am_ hc0_1
  clear hr0_1 hc0_1
  have HB := am_ (Below.refl w.heap.size w)
  have H : ((laws_toBoolS.f k l0_0).bind fun aj => ((laws_toIntSS.f k l0_1).bind fun ak => (some (aj, ak)))) = some (r1, r2) := h
  clear h
  replace H := Option.bind_eq_some_iff.mp H
  obtain ⟨aj, A20, H⟩ := H
  replace H : ((laws_toIntSS.f k l0_1).bind fun ak => (some (aj, ak))) = some (r1, r2) := H
  have A2 := am_ A20
  clear A20
  replace H := Option.bind_eq_some_iff.mp H
  obtain ⟨ak, A30, H⟩ := H
  replace H : (some (aj, ak)) = some (r1, r2) := H
  have A3 := am_ A30
  clear A30
  simp only [Option.some.injEq, Prod.mk.injEq] at H
  obtain ⟨rfl, rfl⟩ := H
  go_enter Try.func8, Try.ntmps8
  go_wp2_with (first | ((with_reducible refine gate_dst (N := 1) rfl ?_); refine box_event ?hg (N := 1) ?hd (cs := #[.slice A0_0 l0_0.length c0_0, .slice A0_1 l0_1.length c0_1]) (t := 25) ?hr ?_; (case hd => rfl); (case hg => rfl); (case hr => first | (go_simp; done) | (go_simp; rfl)); intro an hg w4 hbox hb; replace ad := am_ (hbox); replace bN := am_ ((by rw [hg]; exact (below_size (b0_ HB.out)) : w.heap.size ≤ an)); replace ah := am_ ((by rw [hg]; exact (below_size (b0_ HB.out)) : w.heap.size ≤ an)); replace HB := am_ (below_step (b0_ HB.out) hb); clear hb hbox hg) | ((with_reducible refine gate_dst (N := 2) rfl ?_); refine box_event ?hg (N := 2) ?hd (cs := #[.slice none 0 0, .slice none 0 0]) (t := 28) ?hr ?_; (case hd => rfl); (case hg => rfl); (case hr => first | (go_simp; done) | (go_simp; rfl)); intro ai hg w5 hbox hb; have n0_ := am_ (blk_below (rb_ ad.out) hb); have n1_ := am_ (below_step (b1_ HB.out ah.out) hb); have n2_ := am_ (hbox); have n3_ := am_ ((by rw [hg]; exact (below_size (b1_ HB.out ah.out)) : w.heap.size ≤ ai)); have n4_ := am_ ((by rw [hg]; exact (below_size (b1_ HB.out ah.out)) : w.heap.size ≤ ai)); have n5_ := am_ ((by rw [hg]; exact Nat.ne_of_lt (blk_lt (rb_ ad.out)) : an ≠ ai)); have n6_ := am_ ((by rw [hg]; exact Nat.ne_of_gt (blk_lt (rb_ ad.out)) : ai ≠ an)); clear ad; clear HB; have ad := n0_; have HB := n1_; have af := n2_; have bO := n3_; have am := n4_; have aE := n5_; have aF := n6_; clear n0_ n1_ n2_ n3_ n4_ n5_ n6_; clear hb hbox hg) | ((with_reducible refine gate_dst (N := 3) rfl ?_); refine box_event ?hg (N := 3) ?hd (cs := #[.slice none 0 0, .slice none 0 0]) (t := 28) ?hr ?_; (case hd => rfl); (case hg => rfl); (case hr => first | (go_simp; done) | (go_simp; rfl)); intro al hg w6 hbox hb; have n0_ := am_ (blk_below (rb_ ad.out) hb); have n1_ := am_ (blk_below (rb_ af.out) hb); have n2_ := am_ (below_step (b2_ HB.out ah.out am.out) hb); have n3_ := am_ (hbox); have n4_ := am_ ((by rw [hg]; exact (below_size (b2_ HB.out ah.out am.out)) : w.heap.size ≤ al)); have n5_ := am_ ((by rw [hg]; exact (below_size (b2_ HB.out ah.out am.out)) : w.heap.size ≤ al)); have n6_ := am_ ((by rw [hg]; exact Nat.ne_of_lt (blk_lt (rb_ ad.out)) : an ≠ al)); have n7_ := am_ ((by rw [hg]; exact Nat.ne_of_gt (blk_lt (rb_ ad.out)) : al ≠ an)); have n8_ := am_ ((by rw [hg]; exact Nat.ne_of_lt (blk_lt (rb_ af.out)) : ai ≠ al)); have n9_ := am_ ((by rw [hg]; exact Nat.ne_of_gt (blk_lt (rb_ af.out)) : al ≠ ai)); clear ad; clear af; clear HB; have ad := n0_; have af := n1_; have HB := n2_; have ag := n3_; have bP := n4_; have ap := n5_; have ay := n6_; have aG := n7_; have ao := n8_; have aH := n9_; clear n0_ n1_ n2_ n3_ n4_ n5_ n6_ n7_ n8_ n9_; clear hb hbox hg; have bS := aE.out; have bT := aF.out; have bU := ay.out; have bV := aG.out; have bG := ck_ (v := (.slice A0_0 l0_0.length c0_0)) ad 0 rfl; have bH := ck_ (v := (.slice A0_1 l0_1.length c0_1)) ad 1 rfl; have bI := blk_frozen ad.out 0; have bJ := blk_frozen ad.out 1) | ((with_reducible refine gate_callee (f := 29) rfl ?_); refine gL_ (some 6) Try.func29 #[.slice A0_0 l0_0.length c0_0] ?_; (with_reducible refine (laws_toBoolS.calls k _ _ l0_0 aj _ ?side1 ?side2 A2.out).mono ?_); (case side1 => exact rc_ (Kd.C_below bg.out HB.out)); (case side2 => exact bh.out); rintro e w10 ⟨bW, rfl, ho0, hb⟩; refine ⟨_, rfl, ?_⟩; have n0_ := am_ (Kd.R_lower ho0 (below_size (b3_ HB.out ah.out am.out ap.out))); have n1_ := am_ (blk_below (rb_ ad.out) hb); have n2_ := am_ (blk_below (rb_ af.out) hb); have n3_ := am_ (blk_below (rb_ ag.out) hb); have n4_ := am_ (below_step (b3_ HB.out ah.out am.out ap.out) hb); clear ad; clear af; clear ag; clear HB; have au := n0_; have ad := n1_; have af := n2_; have ag := n3_; have HB := n4_; clear n0_ n1_ n2_ n3_ n4_; (try clear hb); (try clear hb2); (try clear hk); (try clear hi); (try clear ho0); obtain ⟨aq, ar, bn⟩ := Kd.R_slice au.out; subst bn; have bQ := aH.out; have bR := ao.out; have bp := ck_ (v := (.slice none 0 0)) ag 0 rfl; have bq := ck_ (v := (.slice none 0 0)) ag 1 rfl; have br := blk_frozen ag.out 0; have bs := blk_frozen ag.out 1; have bt := ck_ (v := (.slice A0_0 l0_0.length c0_0)) ad 0 rfl; have bu := ck_ (v := (.slice A0_1 l0_1.length c0_1)) ad 1 rfl; have bv := blk_frozen ad.out 0; have bw := blk_frozen ad.out 1) | ((with_reducible refine gate_callee (f := 30) rfl ?_); refine gL_ (some 10) Try.func30 #[.slice A0_1 l0_1.length c0_1] ?_; (with_reducible refine (laws_toIntSS.calls k _ _ l0_1 ak _ ?side1 ?side2 A3.out).mono ?_); (case side1 => exact Kd.C_below bi.out (b3_ HB.out ah.out am.out ap.out)); (case side2 => exact bj.out); rintro e w15 ⟨bX, rfl, ho0, hb⟩; refine ⟨_, rfl, ?_⟩; have n0_ := am_ (Kd.R_below (rr_ (Kd.R_mono (Kd.R_far (p := ⟨al, 0, none⟩) (Kd.R_types au.out ag.out (by decide)) (fun _ hk => hk.2) (.slice aq aj.length ar)) (fun _ h_ => h_.1))) hb); have n1_ := am_ (Kd.S_lower ho0 (below_size (b3_ HB.out ah.out am.out ap.out))); have n2_ := am_ (blk_below (g := an) (o := .cells #[.slice A0_0 l0_0.length c0_0, .slice A0_1 l0_1.length c0_1] 25 (0, 0)) (by refine rb_ ?_; refine blk_far ?_ ay.out _; refine rb_ ?_; exact ad.out) hb); have n3_ := am_ (blk_below (g := ai) (o := .cells #[.slice none 0 0, .slice none 0 0] 28 (0, 0)) (by refine rb_ ?_; refine blk_far ?_ ao.out _; refine rb_ ?_; exact af.out) hb); have n4_ := am_ (blk_below (g := al) (o := .cells #[.slice aq aj.length ar, .slice none 0 0] 28 (0, 0)) (by refine rb_ ?_; refine blk_put (cs := #[.slice none 0 0, .slice none 0 0]) ?_ 0 _ rfl; refine rb_ ?_; exact ag.out) hb); have n5_ := am_ (below_step (b3_ HB.out ah.out am.out ap.out) hb); clear au; clear ad; clear af; clear ag; clear HB; have au := n0_; have aO := n1_; have ad := n2_; have af := n3_; have ag := n4_; have HB := n5_; clear n0_ n1_ n2_ n3_ n4_ n5_; (try clear hb); (try clear hb2); (try clear hk); (try clear hi); (try clear ho0); obtain ⟨aB, aC, bo⟩ := Kd.S_slice aO.out; subst bo; have bx := ck_ (v := (.slice aq aj.length ar)) ag 0 rfl; have bz := ck_ (v := (.slice none 0 0)) ag 1 rfl; have bA := blk_frozen ag.out 0; have bB := blk_frozen ag.out 1; have bC := ck_ (v := (.slice none 0 0)) af 0 rfl; have bD := ck_ (v := (.slice none 0 0)) af 1 rfl; have bE := blk_frozen af.out 0; have bF := blk_frozen af.out 1))
  refine bodyPost_ret (results_cell_row rfl _ _ ai 28 #[.slice aq aj.length ar, .slice aB ak.length aC] (0, 0) _ rfl (by refine rb_ ?_; refine blk_put (cs := #[.slice aq aj.length ar, .slice none 0 0]) ?_ 1 _ rfl; refine rb_ ?_; refine blk_put (cs := #[.slice none 0 0, .slice none 0 0]) ?_ 0 _ rfl; refine rb_ ?_; refine blk_far ?_ ao.out _; refine rb_ ?_; exact af.out) Try.underlying28 rfl (by kernel_rfl)) rfl ?_
  exact ⟨_, _, by first | rfl | (simp [errW_none, errW_some] <;> rfl) | (simp [*, errW_none, errW_some] <;> rfl), by refine rr_ ?_; exact Kd.R_mono (Kd.R_far (p := ⟨ai, 1, none⟩) (Kd.R_far (p := ⟨ai, 0, none⟩) (Kd.R_far (p := ⟨al, 1, none⟩) (Kd.R_types (Kd.R_types au.out ag.out (by decide)) af.out (by decide)) (fun _ hk => hk.1.2) (.slice aB ak.length aC)) (fun _ hk => hk.2) (.slice aq aj.length ar)) (fun _ hk => hk.2) (.slice aB ak.length aC)) (fun _ hk => trivial), by refine rs_ ?_; exact Kd.S_mono (Kd.S_far (p := ⟨ai, 1, none⟩) (Kd.S_far (p := ⟨ai, 0, none⟩) (Kd.S_far (p := ⟨al, 1, none⟩) (Kd.S_types (Kd.S_types aO.out ag.out (by decide)) af.out (by decide)) (fun _ hk => hk.1.2) (.slice aB ak.length aC)) (fun _ hk => hk.2) (.slice aq aj.length ar)) (fun _ hk => hk.2) (.slice aB ak.length aC)) (fun _ hk => trivial), by repeat (first | (with_reducible first | exact HB.out | apply below_alloc | apply pw_below_drewN | apply below_drew1 | refine below_set ?_ ah.out | refine below_set ?_ am.out | refine below_set ?_ ap.out) | exact HB.out)⟩
end Go.Proofs.Ytpgdhpnmagmooaa.P
end
section
namespace Go.Proofs.Ytpgdhpnmagmooaa.Pl
open Go.RowKit Go.Proofs.Ytpgdhpnmagmooaa.P Go.Proofs.YtpgdhpnmagmooaaW.PrintWords Go.Proofs.YtpgdhpnmagmooaaW.PrintLast Go.Proofs.YtpgdhpnmagmooaaW.PrintMore Wk
set_option linter.unusedVariables false
set_option linter.unusedSimpArgs false
theorem rows_get (xs : List (List Int)) (i : Nat) (h : i < xs.length) : rd_L1 xs i = xs[i] := by
  simp [rd_L1, List.getD_eq_getElem?_getD, h]
theorem szRows_l0 (xs : List (List Int)) (hx : ∀ r ∈ xs, r.length ≤ 9223372036854775807) (hl : xs.length ≤ 1048576) : ∀ (d i : Nat) (left : Int), i + d = xs.length → 0 ≤ left → left ≤ 1048576 →
    ∃ r : Int, Ev (fun k => laws_szIntSS.l0 k xs left i) r ∧ -1 ≤ r ∧ r ≤ left ∧ (0 ≤ r → ∀ x ∈ xs.drop i, (x.length : Int) ≤ 1048576) := by
  intro d
  induction d with
  | zero =>
    intro i left h h0 h1
    refine ⟨left, next ?_, by omega, by omega, fun _ => by rw [List.drop_eq_nil_of_le (by omega)]; intro x hx; cases hx⟩
    simp only [laws_szIntSS.l0, if_neg (show ¬ (i : Int) < (xs.length : Int) by omega)]
    exact Ev.now _
  | succ d ih =>
    intro i left h h0 h1
    have hi : i < xs.length := by omega
    have hb := hx xs[i] (List.getElem_mem _)
    have hw : wrap64 (left - (xs[i].length : Int)) = left - (xs[i].length : Int) := w64 (by omega) (by omega)
    by_cases hneg : left - (xs[i].length : Int) < 0
    · refine ⟨-1, next ?_, by omega, by omega, fun h => by omega⟩
      simp only [laws_szIntSS.l0, if_pos (show (i : Int) < (xs.length : Int) by omega), if_pos (show (0 : Int) ≤ i by omega), laws_szIntS.f, rows_get xs i hi, hw, if_pos hneg, Option.bind_some, if_pos (show (-1 : Int) < 0 by omega)]
      exact Ev.now _
    · obtain ⟨r, hr, h2, h3, h4⟩ := ih (i + 1) (left - (xs[i].length : Int)) (by omega) (by omega) (by omega)
      refine ⟨r, next ?_, h2, by omega, fun hr0 x hx => ?_⟩
      · simp only [laws_szIntSS.l0, if_pos (show (i : Int) < (xs.length : Int) by omega), if_pos (show (0 : Int) ≤ i by omega), laws_szIntS.f, rows_get xs i hi, hw, if_neg hneg, Option.bind_some, up1 (show i < 9223372036854775807 by omega)]
        exact hr
      · rw [List.drop_eq_getElem_cons hi] at hx
        rcases List.mem_cons.mp hx with rfl | hx
        · omega
        · exact h4 hr0 x hx
theorem szDfa (a : List Bool) (n : List (List Int)) (ha : a.length ≤ 9223372036854775807) (hn : n.length ≤ 9223372036854775807) (hx : ∀ r ∈ n, r.length ≤ 9223372036854775807) (left : Int) (h0 : 0 ≤ left) (h1 : left ≤ 1048576) :
    ∃ r : Int, Ev (fun k => laws_szDfa.f k a n left) r ∧ -1 ≤ r ∧ r ≤ left ∧ (0 ≤ r → a.length ≤ 1048576 ∧ n.length ≤ 1048576 ∧ ∀ x ∈ n, x.length ≤ 1048576) := by
  simp only [laws_szDfa.f, laws_szBoolS.f, laws_szIntSS.f]
  have hw : wrap64 (left - (a.length : Int)) = left - (a.length : Int) := w64 (by omega) (by omega)
  rw [hw]
  by_cases hneg : left - (a.length : Int) < 0
  · refine ⟨-1, ?_, by omega, by omega, fun h => by omega⟩
    simp only [if_pos hneg, Option.bind_some, if_pos (show (-1 : Int) < 0 by omega)]
    exact Ev.now _
  · have hw2 : wrap64 (left - (a.length : Int) - (n.length : Int)) = left - (a.length : Int) - (n.length : Int) := w64 (by omega) (by omega)
    simp only [if_neg hneg, Option.bind_some, hw2]
    by_cases hneg2 : left - (a.length : Int) - (n.length : Int) < 0
    · refine ⟨-1, ?_, by omega, by omega, fun h => by omega⟩
      simp only [if_pos hneg2, Option.bind_some, if_pos (show (-1 : Int) < 0 by omega)]
      exact Ev.now _
    · obtain ⟨r, hr, h2, h3, h4⟩ := szRows_l0 n hx (by omega) n.length 0 (left - (a.length : Int) - (n.length : Int)) (by omega) (by omega) (by omega)
      refine ⟨r, ?_, h2, by omega, fun hr0 => ⟨by omega, by omega, fun x hx => ?_⟩⟩
      · simp only [if_neg hneg2]
        refine Ev.bind hr ?_
        by_cases hr0 : r < 0
        · simp only [if_pos hr0]
          exact ev_some (by omega)
        · simp only [if_neg hr0]
          exact Ev.now _
      · have := h4 hr0 x hx
        omega
theorem toBools_l0 (xs : List Bool) (hl : xs.length ≤ 1048576) : ∀ (d i : Nat) (ys : List Bool), i + d = xs.length → ys.length = xs.length → (∀ j, j < i → ys[j]? = xs[j]?) → Ev (fun k => laws_toBoolS.l0 k xs ys i) xs := by
  intro d
  induction d with
  | zero =>
    intro i ys h hy hj
    refine next ?_
    simp only [laws_toBoolS.l0, if_neg (show ¬ (i : Int) < (xs.length : Int) by omega)]
    refine ev_some (List.ext_getElem? fun j => ?_)
    by_cases hlt : j < i
    · exact hj j hlt
    · rw [List.getElem?_eq_none (by omega), List.getElem?_eq_none (by omega)]
  | succ d ih =>
    intro i ys h hy hj
    have hi : i < xs.length := by omega
    refine next ?_
    simp only [laws_toBoolS.l0, if_pos (show (i : Int) < (xs.length : Int) by omega), if_pos (show (0 : Int) ≤ i by omega), if_pos (show (i : Int) < (ys.length : Int) by omega), rdOf_get _ xs i hi, up1 (show i < 9223372036854775807 by omega), Int.toNat_natCast]
    refine ih (i + 1) _ (by omega) (by simp [hy]) (fun j hlt => ?_)
    by_cases e : j = i
    · subst e
      rw [List.getElem?_set_self (by omega), List.getElem?_eq_getElem hi]
    · rw [List.getElem?_set_ne (by omega)]
      exact hj j (by omega)
theorem toBools (xs : List Bool) (hl : xs.length ≤ 1048576) : Ev (fun k => laws_toBoolS.f k xs) xs := by
  simp only [laws_toBoolS.f, if_pos (show (0 : Int) ≤ (xs.length : Int) by omega), Int.toNat_natCast, if_pos (show xs.length ≤ 281474976710656 by omega)]
  exact toBools_l0 xs hl xs.length 0 _ (by omega) (by simp) (fun j hj => by omega)
theorem toInts_l0 (xs : List Int) (hl : xs.length ≤ 1048576) : ∀ (d i : Nat) (ys : List Int), i + d = xs.length → ys.length = xs.length → (∀ j, j < i → ys[j]? = xs[j]?) → Ev (fun k => laws_toIntS.l0 k xs ys i) xs := by
  intro d
  induction d with
  | zero =>
    intro i ys h hy hj
    refine next ?_
    simp only [laws_toIntS.l0, if_neg (show ¬ (i : Int) < (xs.length : Int) by omega)]
    refine ev_some (List.ext_getElem? fun j => ?_)
    by_cases hlt : j < i
    · exact hj j hlt
    · rw [List.getElem?_eq_none (by omega), List.getElem?_eq_none (by omega)]
  | succ d ih =>
    intro i ys h hy hj
    have hi : i < xs.length := by omega
    refine next ?_
    simp only [laws_toIntS.l0, if_pos (show (i : Int) < (xs.length : Int) by omega), if_pos (show (0 : Int) ≤ i by omega), if_pos (show (i : Int) < (ys.length : Int) by omega), rd_get xs i hi, up1 (show i < 9223372036854775807 by omega), Int.toNat_natCast]
    refine ih (i + 1) _ (by omega) (by simp [hy]) (fun j hlt => ?_)
    by_cases e : j = i
    · subst e
      rw [List.getElem?_set_self (by omega), List.getElem?_eq_getElem hi]
    · rw [List.getElem?_set_ne (by omega)]
      exact hj j (by omega)
theorem toInts (xs : List Int) (hl : xs.length ≤ 1048576) : Ev (fun k => laws_toIntS.f k xs) xs := by
  simp only [laws_toIntS.f, if_pos (show (0 : Int) ≤ (xs.length : Int) by omega), Int.toNat_natCast, if_pos (show xs.length ≤ 35184372088832 by omega)]
  exact toInts_l0 xs hl xs.length 0 _ (by omega) (by simp) (fun j hj => by omega)
theorem toRows_l0 (xs : List (List Int)) (hl : xs.length ≤ 1048576) (hx : ∀ x ∈ xs, x.length ≤ 1048576) : ∀ (d i : Nat) (ys : List (List Int)), i + d = xs.length → ys.length = xs.length → (∀ j, j < i → ys[j]? = xs[j]?) → Ev (fun k => laws_toIntSS.l0 k xs ys i) xs := by
  intro d
  induction d with
  | zero =>
    intro i ys h hy hj
    refine next ?_
    simp only [laws_toIntSS.l0, if_neg (show ¬ (i : Int) < (xs.length : Int) by omega)]
    refine ev_some (List.ext_getElem? fun j => ?_)
    by_cases hlt : j < i
    · exact hj j hlt
    · rw [List.getElem?_eq_none (by omega), List.getElem?_eq_none (by omega)]
  | succ d ih =>
    intro i ys h hy hj
    have hi : i < xs.length := by omega
    refine next ?_
    simp only [laws_toIntSS.l0, if_pos (show (i : Int) < (xs.length : Int) by omega), if_pos (show (0 : Int) ≤ i by omega), rows_get xs i hi]
    refine Ev.bind (toInts xs[i] (hx _ (List.getElem_mem _))) ?_
    simp only [if_pos (show (i : Int) < (ys.length : Int) by omega), up1 (show i < 9223372036854775807 by omega), Int.toNat_natCast]
    refine ih (i + 1) _ (by omega) (by simp [hy]) (fun j hlt => ?_)
    by_cases e : j = i
    · subst e
      rw [List.getElem?_set_self (by omega), List.getElem?_eq_getElem hi]
    · rw [List.getElem?_set_ne (by omega)]
      exact hj j (by omega)
theorem toRows (xs : List (List Int)) (hl : xs.length ≤ 1048576) (hx : ∀ x ∈ xs, x.length ≤ 1048576) : Ev (fun k => laws_toIntSS.f k xs) xs := by
  simp only [laws_toIntSS.f, if_pos (show (0 : Int) ≤ (xs.length : Int) by omega), Int.toNat_natCast, if_pos (show xs.length ≤ 11728124029610 by omega)]
  exact toRows_l0 xs hl hx xs.length 0 _ (by omega) (by simp) (fun j hj => by omega)
theorem toDfa (a : List Bool) (n : List (List Int)) (ha : a.length ≤ 1048576) (hn : n.length ≤ 1048576) (hx : ∀ x ∈ n, x.length ≤ 1048576) : Ev (fun k => laws_toDfa.f k a n) (a, n) := by
  simp only [laws_toDfa.f]
  refine Ev.bind (toBools a ha) (Ev.bind (toRows n hn hx) ?_)
  exact Ev.now _
theorem sameInts_l0 (a b : List Int) (hl : a.length = b.length) (hn : a.length ≤ 1048576) : ∀ d i : Nat, i + d = a.length → Ev (fun k => laws_eqIntS.l0 k a b i) (decide (a.drop i = b.drop i)) := by
  intro d
  induction d with
  | zero =>
    intro i h
    refine next ?_
    simp only [laws_eqIntS.l0, if_neg (show ¬ (i : Int) < (a.length : Int) by omega)]
    exact ev_some (by rw [List.drop_eq_nil_of_le (by omega), List.drop_eq_nil_of_le (by omega)]; simp)
  | succ d ih =>
    intro i h
    refine next ?_
    have ha : i < a.length := by omega
    have hb : i < b.length := by omega
    have e : (a.drop i = b.drop i) ↔ (a[i] = b[i] ∧ a.drop (i + 1) = b.drop (i + 1)) := by
      rw [List.drop_eq_getElem_cons ha, List.drop_eq_getElem_cons hb]
      exact List.cons_eq_cons
    simp only [laws_eqIntS.l0, if_pos (show (i : Int) < (a.length : Int) by omega), if_pos (show (0 : Int) ≤ i by omega), if_pos (show (i : Int) < (b.length : Int) by omega), rd_get a i ha, rd_get b i hb]
    by_cases he : a[i] = b[i]
    · simp only [if_pos he, up1 (show i < 9223372036854775807 by omega)]
      exact ev_eq (ih (i + 1) (by omega)) (decide_eq_decide.mpr (by rw [e]; exact ⟨fun x => ⟨he, x⟩, fun x => x.2⟩))
    · simp only [if_neg he]
      exact ev_some (by rw [eq_comm, decide_eq_false_iff_not, e]; exact fun x => he x.1)
theorem sameInts (a b : List Int) (hn : a.length ≤ 1048576) : Ev (fun k => laws_eqIntS.f k a b) (decide (a = b)) := by
  simp only [laws_eqIntS.f]
  by_cases h : a.length = b.length
  · simp only [if_pos (show (a.length : Int) = (b.length : Int) by omega)]
    exact sameInts_l0 a b h hn a.length 0 (by omega)
  · simp only [if_neg (show ¬ (a.length : Int) = (b.length : Int) by omega)]
    exact ev_some (by simp; intro e; exact h (by rw [e]))
theorem sameBools_l0 (a b : List Bool) (hl : a.length = b.length) (hn : a.length ≤ 1048576) : ∀ d i : Nat, i + d = a.length → Ev (fun k => laws_eqBoolS.l0 k a b i) (decide (a.drop i = b.drop i)) := by
  intro d
  induction d with
  | zero =>
    intro i h
    refine next ?_
    simp only [laws_eqBoolS.l0, if_neg (show ¬ (i : Int) < (a.length : Int) by omega)]
    exact ev_some (by rw [List.drop_eq_nil_of_le (by omega), List.drop_eq_nil_of_le (by omega)]; simp)
  | succ d ih =>
    intro i h
    refine next ?_
    have ha : i < a.length := by omega
    have hb : i < b.length := by omega
    have e : (a.drop i = b.drop i) ↔ (a[i] = b[i] ∧ a.drop (i + 1) = b.drop (i + 1)) := by
      rw [List.drop_eq_getElem_cons ha, List.drop_eq_getElem_cons hb]
      exact List.cons_eq_cons
    simp only [laws_eqBoolS.l0, if_pos (show (i : Int) < (a.length : Int) by omega), if_pos (show (0 : Int) ≤ i by omega), if_pos (show (i : Int) < (b.length : Int) by omega), rdOf_get _ a i ha, rdOf_get _ b i hb]
    by_cases he : a[i] = b[i]
    · simp only [show (a[i] != b[i]) = false from bne_eq_false_iff_eq.mpr he, Bool.false_ne_true, if_false, up1 (show i < 9223372036854775807 by omega)]
      exact ev_eq (ih (i + 1) (by omega)) (decide_eq_decide.mpr (by rw [e]; exact ⟨fun x => ⟨he, x⟩, fun x => x.2⟩))
    · simp only [show (a[i] != b[i]) = true from bne_iff_ne.mpr he, if_true]
      exact ev_some (by rw [eq_comm, decide_eq_false_iff_not, e]; exact fun x => he x.1)
theorem sameBools (a b : List Bool) (hn : a.length ≤ 1048576) : Ev (fun k => laws_eqBoolS.f k a b) (decide (a = b)) := by
  simp only [laws_eqBoolS.f]
  by_cases h : a.length = b.length
  · simp only [if_pos (show (a.length : Int) = (b.length : Int) by omega)]
    exact sameBools_l0 a b h hn a.length 0 (by omega)
  · simp only [if_neg (show ¬ (a.length : Int) = (b.length : Int) by omega)]
    exact ev_some (by simp; intro e; exact h (by rw [e]))
theorem sameRows_l0 (a b : List (List Int)) (hl : a.length = b.length) (hn : a.length ≤ 1048576) (hx : ∀ x ∈ a, x.length ≤ 1048576) : ∀ d i : Nat, i + d = a.length → Ev (fun k => laws_eqIntSS.l0 k a b i) (decide (a.drop i = b.drop i)) := by
  intro d
  induction d with
  | zero =>
    intro i h
    refine next ?_
    simp only [laws_eqIntSS.l0, if_neg (show ¬ (i : Int) < (a.length : Int) by omega)]
    exact ev_some (by rw [List.drop_eq_nil_of_le (by omega), List.drop_eq_nil_of_le (by omega)]; simp)
  | succ d ih =>
    intro i h
    refine next ?_
    have ha : i < a.length := by omega
    have hb : i < b.length := by omega
    have e : (a.drop i = b.drop i) ↔ (a[i] = b[i] ∧ a.drop (i + 1) = b.drop (i + 1)) := by
      rw [List.drop_eq_getElem_cons ha, List.drop_eq_getElem_cons hb]
      exact List.cons_eq_cons
    simp only [laws_eqIntSS.l0, if_pos (show (i : Int) < (a.length : Int) by omega), if_pos (show (0 : Int) ≤ i by omega), if_pos (show (i : Int) < (b.length : Int) by omega), rows_get a i ha, rows_get b i hb]
    refine Ev.bind (sameInts a[i] b[i] (hx _ (List.getElem_mem _))) ?_
    by_cases he : a[i] = b[i]
    · simp only [decide_eq_true he, if_true, up1 (show i < 9223372036854775807 by omega)]
      exact ev_eq (ih (i + 1) (by omega)) (decide_eq_decide.mpr (by rw [e]; exact ⟨fun x => ⟨he, x⟩, fun x => x.2⟩))
    · simp only [decide_eq_false he, Bool.false_ne_true, if_false]
      exact ev_some (by rw [eq_comm, decide_eq_false_iff_not, e]; exact fun x => he x.1)
theorem sameRows (a b : List (List Int)) (hn : a.length ≤ 1048576) (hx : ∀ x ∈ a, x.length ≤ 1048576) : Ev (fun k => laws_eqIntSS.f k a b) (decide (a = b)) := by
  simp only [laws_eqIntSS.f]
  by_cases h : a.length = b.length
  · simp only [if_pos (show (a.length : Int) = (b.length : Int) by omega)]
    exact sameRows_l0 a b h hn hx a.length 0 (by omega)
  · simp only [if_neg (show ¬ (a.length : Int) = (b.length : Int) by omega)]
    exact ev_some (by simp; intro e; exact h (by rw [e]))
theorem sameDfa (a : List Bool) (n : List (List Int)) (a2 : List Bool) (n2 : List (List Int)) (ha : a.length ≤ 1048576) (hn : n.length ≤ 1048576) (hx : ∀ x ∈ n, x.length ≤ 1048576) : Ev (fun k => laws_eqDfa.f k a n a2 n2) (decide (a = a2) && decide (n = n2)) := by
  simp only [laws_eqDfa.f]
  refine Ev.bind (sameBools a a2 ha) ?_
  by_cases h1 : a = a2
  · simp only [decide_eq_true h1, if_true, Bool.true_and]
    refine Ev.bind (sameRows n n2 hn hx) ?_
    by_cases h2 : n = n2
    · simp only [decide_eq_true h2, if_true]
      exact Ev.now _
    · simp only [decide_eq_false h2, Bool.false_ne_true, if_false]
      exact Ev.now _
  · simp only [decide_eq_false h1, Bool.false_ne_true, if_false, Bool.false_and]
    exact Ev.now _
theorem spec_in (a lo hi : Int) : spec_l1In.f a lo hi = some (decide (lo ≤ a) && decide (a ≤ hi)) := by
  unfold spec_l1In.f
  by_cases h : a ≥ lo
  · rw [if_pos h, decide_eq_true (show lo ≤ a from h), Bool.true_and]
  · rw [if_neg h, decide_eq_false (show ¬ lo ≤ a from h), Bool.false_and]
theorem impl_in (a lo hi : Int) : impl_within.f a lo hi = some (decide (lo ≤ a) && decide (a ≤ hi)) := by
  unfold impl_within.f
  by_cases h : a ≥ lo
  · rw [if_pos h, decide_eq_true (show lo ≤ a from h), Bool.true_and]
  · rw [if_neg h, decide_eq_false (show ¬ lo ≤ a from h), Bool.false_and]
theorem badState_eq (n q : Int) : badState n q = !(decide (0 ≤ q) && decide (q ≤ n - 1)) := by
  unfold badState
  cases decide (0 ≤ q) <;> cases decide (q ≤ n - 1) <;> rfl
theorem spec_valid_l1 (acc : List Bool) (nxt : List (List Int)) (q : Nat) (hq : q < nxt.length) (hnl : nxt.length ≤ 1048576) (h3 : nxt[q].length = 3) (hn1 : 1 ≤ acc.length) (hn : acc.length ≤ 40) (res : Bool) (h : Ev (fun k => spec_IsValidDfa.l0 k (acc.length : Int) ((q + 1 : Nat) : Int) acc nxt) res) :
    ∀ d i : Nat, i + d = 3 → Ev (fun k => spec_IsValidDfa.l1 k (acc.length : Int) q i acc nxt) (if (nxt[q].drop i).any (badState acc.length) = true then false else res) := by
  intro d
  induction d with
  | zero =>
    intro i hd
    refine next ?_
    simp only [spec_IsValidDfa.l1, if_pos (show (0 : Int) ≤ q by omega), if_pos (show (q : Int) < (nxt.length : Int) by omega), rows_get nxt q hq, if_neg (show ¬ (i : Int) < (nxt[q].length : Int) by omega)]
    rw [List.drop_eq_nil_of_le (by omega), List.any_nil, if_neg (by simp)]
    simp only [up1 (show q < 9223372036854775807 by omega)]
    exact h
  | succ d ih =>
    intro i hd
    refine next ?_
    have hi : i < nxt[q].length := by omega
    have hw : wrap64 ((acc.length : Int) - 1) = (acc.length : Int) - 1 := w64 (by omega) (by omega)
    simp only [spec_IsValidDfa.l1, if_pos (show (0 : Int) ≤ q by omega), if_pos (show (q : Int) < (nxt.length : Int) by omega), rows_get nxt q hq, if_pos (show (i : Int) < (nxt[q].length : Int) by omega), if_pos (show (0 : Int) ≤ i by omega), rd_get nxt[q] i hi, spec_in, Option.bind_some, hw, up1 (show i < 9223372036854775807 by omega)]
    rw [List.drop_eq_getElem_cons hi, List.any_cons]
    have hbe := badState_eq (acc.length : Int) nxt[q][i]
    by_cases hb : badState acc.length nxt[q][i] = true
    · have hb2 : (decide (0 ≤ nxt[q][i]) && decide (nxt[q][i] ≤ (acc.length : Int) - 1)) = false := by
        rw [hb] at hbe
        cases hc : (decide (0 ≤ nxt[q][i]) && decide (nxt[q][i] ≤ (acc.length : Int) - 1)) with
        | true => rw [hc] at hbe; cases hbe
        | false => rfl
      simp only [hb2, Bool.false_ne_true, if_false, hb, Bool.true_or, if_true]
      exact Ev.now _
    · have hb2 : (decide (0 ≤ nxt[q][i]) && decide (nxt[q][i] ≤ (acc.length : Int) - 1)) = true := by
        rw [eq_false_of_ne_true hb] at hbe
        cases hc : (decide (0 ≤ nxt[q][i]) && decide (nxt[q][i] ≤ (acc.length : Int) - 1)) with
        | true => rfl
        | false => rw [hc] at hbe; cases hbe
      simp only [hb2, if_true, eq_false_of_ne_true hb, Bool.false_or]
      exact ih (i + 1) (by omega)
theorem spec_valid_l0 (acc : List Bool) (nxt : List (List Int)) (hl : nxt.length = acc.length) (hn1 : 1 ≤ acc.length) (hn : acc.length ≤ 40) :
    ∀ d q : Nat, q + d = acc.length → Ev (fun k => spec_IsValidDfa.l0 k (acc.length : Int) q acc nxt) (!((nxt.drop q).any (badRow acc.length))) := by
  intro d
  induction d with
  | zero =>
    intro q hd
    refine next ?_
    simp only [spec_IsValidDfa.l0, if_neg (show ¬ (q : Int) < (acc.length : Int) by omega)]
    exact ev_some (by rw [List.drop_eq_nil_of_le (by omega)]; rfl)
  | succ d ih =>
    intro q hd
    have hq : q < nxt.length := by omega
    refine next ?_
    simp only [spec_IsValidDfa.l0, if_pos (show (q : Int) < (acc.length : Int) by omega), if_pos (show (0 : Int) ≤ q by omega), if_pos (show (q : Int) < (nxt.length : Int) by omega), rows_get nxt q hq]
    rw [List.drop_eq_getElem_cons hq, List.any_cons]
    by_cases h3 : nxt[q].length = 3
    · simp only [if_pos (show (nxt[q].length : Int) = 3 by omega)]
      refine ev_eq (spec_valid_l1 acc nxt q hq (by omega) h3 hn1 hn _ (ih (q + 1) (by omega)) 3 0 rfl) ?_
      rw [List.drop_zero]
      have e : badRow acc.length nxt[q] = nxt[q].any (badState acc.length) := by simp [badRow, h3]
      rw [e]
      cases nxt[q].any (badState acc.length) <;> simp
    · simp only [if_neg (show ¬ (nxt[q].length : Int) = 3 by omega)]
      exact ev_some (by simp [badRow, h3])
theorem spec_valid (acc : List Bool) (nxt : List (List Int)) (ha : acc.length ≤ 1048576) (hn : nxt.length ≤ 1048576) : Ev (fun k => spec_IsValidDfa.f k acc nxt) (validD acc nxt) := by
  have jt : ∀ b : Bool, Ev (fun k => spec_IsValidDfa.j0 k (acc.length : Int) true acc nxt) false := by
    intro b
    refine next ?_
    simp only [spec_IsValidDfa.j0, if_true]
    exact Ev.now _
  simp only [spec_IsValidDfa.f, spec_in, Option.bind_some, validD]
  by_cases h : 1 ≤ acc.length ∧ acc.length ≤ 40
  · have e1 : (decide ((1 : Int) ≤ (acc.length : Int)) && decide ((acc.length : Int) ≤ 40)) = true := by
      rw [decide_eq_true (show (1 : Int) ≤ (acc.length : Int) by omega), decide_eq_true (show (acc.length : Int) ≤ 40 by omega)]; rfl
    simp only [e1, if_true, decide_eq_true h.1, decide_eq_true h.2, Bool.true_and]
    by_cases hl : nxt.length = acc.length
    · have e2 : ((nxt.length : Int) != (acc.length : Int)) = false := by rw [bne_eq_false_iff_eq]; omega
      simp only [e2, decide_eq_true hl, Bool.true_and]
      refine next ?_
      simp only [spec_IsValidDfa.j0, Bool.false_ne_true, if_false]
      exact spec_valid_l0 acc nxt hl h.1 h.2 acc.length 0 (by omega)
    · have e2 : ((nxt.length : Int) != (acc.length : Int)) = true := by rw [bne_iff_ne]; omega
      simp only [e2, decide_eq_false hl, Bool.false_and]
      exact jt true
  · have e1 : (decide ((1 : Int) ≤ (acc.length : Int)) && decide ((acc.length : Int) ≤ 40)) = false := by
      by_cases h1 : 1 ≤ acc.length
      · rw [decide_eq_false (show ¬ (acc.length : Int) ≤ 40 by omega), Bool.and_false]
      · rw [decide_eq_false (show ¬ (1 : Int) ≤ (acc.length : Int) by omega), Bool.false_and]
    have e2 : (decide (1 ≤ acc.length) && decide (acc.length ≤ 40)) = false := by
      by_cases h1 : 1 ≤ acc.length
      · rw [decide_eq_false (show ¬ acc.length ≤ 40 by omega), Bool.and_false]
      · rw [decide_eq_false h1, Bool.false_and]
    simp only [e1, e2, Bool.false_ne_true, if_false, Bool.false_and]
    exact jt true
theorem valid_facts {acc : List Bool} {nxt : List (List Int)} (h : validD acc nxt = true) : 1 ≤ acc.length ∧ acc.length ≤ 40 ∧ nxt.length = acc.length ∧ ∀ r ∈ nxt, r.length = 3 ∧ ∀ x ∈ r, 0 ≤ x ∧ x < (acc.length : Int) := by
  simp only [validD, Bool.and_eq_true, decide_eq_true_eq, Bool.not_eq_true', List.any_eq_false] at h
  obtain ⟨⟨⟨h1, h2⟩, h3⟩, h4⟩ := h
  refine ⟨h1, h2, h3, fun r hr => ?_⟩
  have := h4 r hr
  simp only [badRow, Bool.or_eq_true, decide_eq_true_eq, not_or, List.any_eq_true, not_exists, not_and] at this
  refine ⟨by omega, fun x hx => ?_⟩
  have hb := this.2 x hx
  rw [badState_eq] at hb
  simp at hb
  omega
theorem next_range {acc : List Bool} {nxt : List (List Int)} (h : validD acc nxt = true) (q : Int) (h0 : 0 ≤ q) (h1 : q < (acc.length : Int)) (i : Int) (hi0 : 0 ≤ i) (hi1 : i < 3) : (rd_L1 nxt q).length = 3 ∧ 0 ≤ rd (rd_L1 nxt q) i ∧ rd (rd_L1 nxt q) i < (acc.length : Int) := by
  obtain ⟨_, _, hl, hr⟩ := valid_facts h
  obtain ⟨n, rfl⟩ := Int.eq_ofNat_of_zero_le h0
  obtain ⟨j, rfl⟩ := Int.eq_ofNat_of_zero_le hi0
  have hn : n < nxt.length := by omega
  rw [rows_get nxt n hn]
  have h3 := hr nxt[n] (List.getElem_mem _)
  have hj : j < nxt[n].length := by omega
  rw [rd_get _ j hj]
  exact ⟨h3.1, h3.2 _ (List.getElem_mem _)⟩
theorem lens {n : List (List Int)} (w : Rk.rowsOf (Rk.rowsOf (Rk.wfI .i64)) n) : ∀ r ∈ n, r.length ≤ 9223372036854775807 := fun r hr => (w.2 r hr).1
end Go.Proofs.Ytpgdhpnmagmooaa.Pl
end
section
namespace Go.Proofs.Ytpgdhpnmagmooaa.Pl
open Go.RowKit Go.Proofs.Ytpgdhpnmagmooaa.P Go.Proofs.YtpgdhpnmagmooaaW.PrintWords Go.Proofs.YtpgdhpnmagmooaaW.PrintLast Go.Proofs.YtpgdhpnmagmooaaW.PrintMore Wk
set_option linter.unusedVariables false
set_option linter.unusedSimpArgs false
def runD (nxt : List (List Int)) (q : Int) (l : List Int) : Int := l.foldl (fun q b => rd (rd_L1 nxt q) (letIdx b)) q
theorem lets_cons {b : Int} {l : List Int} : lets (b :: l) = true ↔ 0 ≤ letIdx b ∧ lets l = true := by simp [lets]
theorem spec_run_l0 (acc : List Bool) (nxt : List (List Int)) (hv : validD acc nxt = true) (s : ByteArray) (hs : s.size ≤ 140737488351232) : ∀ (d i : Nat) (q : Int), i + d = s.size → lets ((bytesOf s).drop i) = true → 0 ≤ q → q < (acc.length : Int) → Ev (fun k => spec_RunDfa.l0 k s q i acc nxt) (runD nxt q ((bytesOf s).drop i), true) := by
  have hl := (valid_facts hv).2.2.1
  intro d
  induction d with
  | zero =>
    intro i q h hw h0 h1
    refine next ?_
    simp only [spec_RunDfa.l0, if_neg (show ¬ (i : Int) < (s.size : Int) by omega), drop_end s i (by omega)]
    exact Ev.now _
  | succ d ih =>
    intro i q h hw h0 h1
    rw [drop_cons s i (by omega)] at hw ⊢
    have hb := lets_cons.mp hw
    have hlr := letIdx_range (bt s i)
    have hn := next_range hv q h0 h1 (letIdx (bt s i)) hb.1 (by omega)
    refine next ?_
    simp only [spec_RunDfa.l0, if_pos (show (i : Int) < (s.size : Int) by omega), if_pos h0, if_pos (show q < (nxt.length : Int) by omega), if_pos (show (0 : Int) ≤ i by omega)]
    refine Ev.bind (spec_letter _) ?_
    simp only [if_pos hb.1, hn.1, if_pos (show letIdx (bt s i) < ((3 : Nat) : Int) by omega), up1 (show i < 9223372036854775807 by omega)]
    exact ih (i + 1) _ (by omega) hb.2 hn.2.1 hn.2.2
theorem impl_run_l0 (acc : List Bool) (nxt : List (List Int)) (hv : validD acc nxt = true) (s : ByteArray) (hs : s.size ≤ 140737488351232) : ∀ (d i : Nat) (q : Int), i + d = s.size → lets ((bytesOf s).drop i) = true → 0 ≤ q → q < (acc.length : Int) → Ev (fun k => impl_after.l0 k q s i acc nxt) (runD nxt q ((bytesOf s).drop i)) := by
  have hl := (valid_facts hv).2.2.1
  intro d
  induction d with
  | zero =>
    intro i q h hw h0 h1
    refine next ?_
    simp only [impl_after.l0, if_neg (show ¬ (i : Int) < (s.size : Int) by omega), drop_end s i (by omega)]
    exact Ev.now _
  | succ d ih =>
    intro i q h hw h0 h1
    rw [drop_cons s i (by omega)] at hw ⊢
    have hb := lets_cons.mp hw
    have hlr := letIdx_range (bt s i)
    have hn := next_range hv q h0 h1 (letIdx (bt s i)) hb.1 (by omega)
    refine next ?_
    simp only [impl_after.l0, if_pos (show (i : Int) < (s.size : Int) by omega), if_pos h0, if_pos (show q < (nxt.length : Int) by omega), if_pos (show (0 : Int) ≤ i by omega), impl_letter (bt_range s i).1 (bt_range s i).2, Option.bind_some, if_pos hb.1, hn.1, if_pos (show letIdx (bt s i) < ((3 : Nat) : Int) by omega), up1 (show i < 9223372036854775807 by omega)]
    exact ih (i + 1) _ (by omega) hb.2 hn.2.1 hn.2.2
def runOf (acc : List Bool) (nxt : List (List Int)) (q : Int) (s : ByteArray) : Int × Bool :=
  if validD acc nxt = true ∧ 0 ≤ q ∧ q ≤ (acc.length : Int) - 1 ∧ word s = true then (runD nxt q (bytesOf s), true) else (0, false)
theorem spec_run (acc : List Bool) (nxt : List (List Int)) (ha : acc.length ≤ 1048576) (hn : nxt.length ≤ 1048576) (q : Int) (s : ByteArray) (hs : s.size ≤ 140737488351232) : Ev (fun k => spec_RunDfa.f k acc nxt q s) (runOf acc nxt q s) := by
  have jt : Ev (fun k => spec_RunDfa.j0 k q s true acc nxt) (0, false) := by
    refine next ?_
    simp only [spec_RunDfa.j0, if_true]
    exact Ev.now _
  have hw : wrap64 ((acc.length : Int) - 1) = (acc.length : Int) - 1 := w64 (by omega) (by omega)
  simp only [spec_RunDfa.f, hw, spec_in, Option.bind_some, runOf]
  refine Ev.bind (spec_valid acc nxt ha hn) ?_
  by_cases hv : validD acc nxt = true
  · simp only [hv, if_true, true_and]
    by_cases hq : 0 ≤ q ∧ q ≤ (acc.length : Int) - 1
    · simp only [decide_eq_true hq.1, decide_eq_true hq.2, Bool.true_and, if_true, hq.1, hq.2, true_and]
      refine Ev.bind (spec_word s hs) ?_
      by_cases hwd : word s = true
      · simp only [hwd, Bool.not_true, if_true]
        refine next ?_
        simp only [spec_RunDfa.j0, Bool.false_ne_true, if_false]
        refine spec_run_l0 acc nxt hv s hs s.size 0 q (by omega) ?_ hq.1 (by omega)
        simp only [word, Bool.and_eq_true] at hwd
        exact hwd.1
      · simp only [eq_false_of_ne_true hwd, Bool.not_false, Bool.false_ne_true, if_false]
        exact jt
    · have e : (decide (0 ≤ q) && decide (q ≤ (acc.length : Int) - 1)) = false := by
        by_cases h1 : 0 ≤ q
        · rw [decide_eq_false (show ¬ q ≤ (acc.length : Int) - 1 by omega), Bool.and_false]
        · rw [decide_eq_false h1, Bool.false_and]
      simp only [e, Bool.false_ne_true, if_false]
      rw [if_neg (by rintro ⟨h1, h2, _⟩; exact hq ⟨h1, h2⟩)]
      exact jt
  · simp only [hv, if_false, false_and]
    exact jt
theorem impl_run (acc : List Bool) (nxt : List (List Int)) (q : Int) (ha : acc.length ≤ 1048576) (s : ByteArray) (hs : s.size ≤ 140737488351232) : Ev (fun k => impl_RunDfa.f k acc nxt q s) (runOf acc nxt q s) := by
  have hw : wrap64 ((acc.length : Int) - 1) = (acc.length : Int) - 1 := w64 (by omega) (by omega)
  simp only [impl_RunDfa.f, impl_IsValidDfa.f, hw, impl_in, Option.bind_some, runOf]
  by_cases hv : validD acc nxt = true
  · simp only [hv, if_true, true_and]
    by_cases hq : 0 ≤ q ∧ q ≤ (acc.length : Int) - 1
    · simp only [decide_eq_true hq.1, decide_eq_true hq.2, Bool.true_and, if_true, hq.1, hq.2, true_and]
      refine Ev.bind (impl_word s hs) ?_
      by_cases hwd : word s = true
      · simp only [hwd, if_true]
        refine Ev.bind (impl_run_l0 acc nxt hv s hs s.size 0 q (by omega) ?_ hq.1 (by omega)) (Ev.now _)
        simp only [word, Bool.and_eq_true] at hwd
        exact hwd.1
      · simp only [eq_false_of_ne_true hwd, Bool.false_ne_true, if_false]
        exact Ev.now _
    · have e : (decide (0 ≤ q) && decide (q ≤ (acc.length : Int) - 1)) = false := by
        by_cases h1 : 0 ≤ q
        · rw [decide_eq_false (show ¬ q ≤ (acc.length : Int) - 1 by omega), Bool.and_false]
        · rw [decide_eq_false h1, Bool.false_and]
      simp only [e, Bool.false_ne_true, if_false]
      rw [if_neg (by rintro ⟨h1, h2, _⟩; exact hq ⟨h1, h2⟩)]
      exact Ev.now _
  · simp only [hv, if_false, false_and]
    exact Ev.now _
theorem runD_range {acc : List Bool} {nxt : List (List Int)} (hv : validD acc nxt = true) : ∀ (l : List Int) (q : Int), lets l = true → 0 ≤ q → q < (acc.length : Int) → 0 ≤ runD nxt q l ∧ runD nxt q l < (acc.length : Int) := by
  intro l
  induction l with
  | nil => intro q _ h0 h1; exact ⟨h0, h1⟩
  | cons b l ih =>
    intro q hw h0 h1
    have hb := lets_cons.mp hw
    have hlr := letIdx_range b
    have hn := next_range hv q h0 h1 (letIdx b) hb.1 (by omega)
    exact ih _ hb.2 hn.2.1 hn.2.2
def accOf (acc : List Bool) (nxt : List (List Int)) (s : ByteArray) : Bool := validD acc nxt && word s && rdOf false acc (runD nxt 0 (bytesOf s))
theorem runOf_zero (acc : List Bool) (nxt : List (List Int)) (s : ByteArray) : (runOf acc nxt 0 s).2 = (validD acc nxt && word s) ∧ ((runOf acc nxt 0 s).2 = true → (runOf acc nxt 0 s).1 = runD nxt 0 (bytesOf s) ∧ 0 ≤ runD nxt 0 (bytesOf s) ∧ runD nxt 0 (bytesOf s) < (acc.length : Int)) := by
  unfold runOf
  by_cases hv : validD acc nxt = true
  · have hf := valid_facts hv
    by_cases hwd : word s = true
    · rw [if_pos ⟨hv, by omega, by omega, hwd⟩]
      simp only [word, Bool.and_eq_true] at hwd
      exact ⟨by simp [hv, word, hwd.1, hwd.2], fun _ => ⟨rfl, runD_range hv _ 0 hwd.1 (by omega) (by omega)⟩⟩
    · rw [if_neg (by rintro ⟨_, _, _, h⟩; exact hwd h)]
      exact ⟨by simp [hwd], fun h => by cases h⟩
  · rw [if_neg (by rintro ⟨h, _⟩; exact hv h)]
    exact ⟨by simp [hv], fun h => by cases h⟩
theorem impl_acc (acc : List Bool) (nxt : List (List Int)) (ha : acc.length ≤ 1048576) (s : ByteArray) (hs : s.size ≤ 140737488351232) : Ev (fun k => impl_AcceptsWord.f k acc nxt s) (accOf acc nxt s) := by
  simp only [impl_AcceptsWord.f]
  refine Ev.bind (impl_run acc nxt 0 ha s hs) ?_
  obtain ⟨h1, h2⟩ := runOf_zero acc nxt s
  by_cases h : (runOf acc nxt 0 s).2 = true
  · obtain ⟨e, r0, r1⟩ := h2 h
    rw [h] at h1
    simp only [h, if_true, e, if_pos r0, if_pos r1]
    exact ev_some (by unfold accOf; rw [← h1, Bool.true_and])
  · simp only [eq_false_of_ne_true h, Bool.false_ne_true, if_false]
    rw [eq_false_of_ne_true h] at h1
    exact ev_some (by unfold accOf; rw [← h1, Bool.false_and])
end Go.Proofs.Ytpgdhpnmagmooaa.Pl
end
section
namespace Go.Proofs.Ytpgdhpnmagmooaa.Pl
open Go.RowKit Go.Proofs.Ytpgdhpnmagmooaa.P Go.Proofs.YtpgdhpnmagmooaaW.PrintWords Go.Proofs.YtpgdhpnmagmooaaW.PrintLast Go.Proofs.YtpgdhpnmagmooaaW.PrintMore Wk
set_option linter.unusedVariables false
set_option linter.unusedSimpArgs false
theorem spec_acc (acc : List Bool) (nxt : List (List Int)) (ha : acc.length ≤ 1048576) (hn : nxt.length ≤ 1048576) (s : ByteArray) (hs : s.size ≤ 140737488351232) : Ev (fun k => spec_AcceptsWord.f k acc nxt s) (accOf acc nxt s) := by
  simp only [spec_AcceptsWord.f]
  refine Ev.bind (spec_run acc nxt ha hn 0 s hs) ?_
  obtain ⟨h1, h2⟩ := runOf_zero acc nxt s
  by_cases h : (runOf acc nxt 0 s).2 = true
  · obtain ⟨e, r0, r1⟩ := h2 h
    rw [h] at h1
    simp only [h, if_true, e, if_pos r0, if_pos r1]
    exact ev_some (by unfold accOf; rw [← h1, Bool.true_and])
  · simp only [eq_false_of_ne_true h, Bool.false_ne_true, if_false]
    rw [eq_false_of_ne_true h] at h1
    exact ev_some (by unfold accOf; rw [← h1, Bool.false_and])
end Go.Proofs.Ytpgdhpnmagmooaa.Pl
end
section
namespace Go.Proofs.Ytpgdhpnmagmooaa.Aw
open Go.RowKit Go.Shelf Go.Proofs.Ytpgdhpnmagmooaa Go.Proofs.Ytpgdhpnmagmooaa.P Go.Proofs.Ytpgdhpnmagmooaa.Pl Go.Proofs.Ytpgdhpnmagmooaa.Wk Go.Proofs.YtpgdhpnmagmooaaW.PrintWords Go.Proofs.YtpgdhpnmagmooaaW.PrintLast Go.Proofs.YtpgdhpnmagmooaaW.PrintMore
set_option linter.unusedVariables false
set_option linter.unusedSimpArgs false
theorem upto_pos : ∀ n : Nat, 0 < (Wu.upto n).length
  | 0 => by rw [Wu.upto, Wu.len_words]; exact Nat.pos_of_ne_zero (by decide)
  | n + 1 => by rw [Wu.upto, List.length_append]; have := upto_pos n; omega
section
variable {acc : List Bool} {nxt : List (List Int)} {A0 : Option Addr} {c0 : Nat} {A1 : Option Addr} {c1 : Nat} {w : World}
set_option maxHeartbeats 4000000 in
set_option maxRecDepth 100000 in
theorem delCall {gb : Nat} {W : World} {ps : List Pc} {s : ByteArray} {b : Bool} {k : Nat} (HC : Aside0 ((Kd.C Kd.bool w A0 acc.length acc ∧ acc.length ≤ c0) ∧ Kd.C (Kd.slice 3 (Kd.int .i64)) w A1 nxt.length nxt ∧ nxt.length ≤ c1)) (H : Sl w W ps) (hb : W.heap[gb]? = some (.cells #[.slice A0 acc.length c0, .slice A1 nxt.length c1] 28 (0, 0))) (h : impl_AcceptsWord.f k acc nxt s = some b) :
    Calls Try.prog 43 #[.string s, .pointer (some ⟨gb, 0, none⟩)] W fun e W' => e = .returned (.bool (!b)) ∧ Below W.heap.size W W' := by
  have F0 : W.cell? ⟨gb, 0, none⟩ = some (.slice A0 acc.length c0) := (blk_cell hb 0).trans rfl
  have F1 : W.cell? ⟨gb, 1, none⟩ = some (.slice A1 nxt.length c1) := (blk_cell hb 1).trans rfl
  have HK := am_ h
  have hu := Try.underlying28
  clear hb h
  go_enter Try.func43, Try.ntmps43
  go_wp2_with ((with_reducible refine gate_dst (N := 6) rfl ?_); refine gL_ (some 6) Try.func44 #[.agg #[.slice A0 acc.length c0, .slice A1 nxt.length c1], .string s] ?_; refine (impl_AcceptsWord.calls k A0 c0 acc A1 c1 nxt s b _ (Kd.C_below HC.out.1.1 H.bel) HC.out.1.2 (Kd.C_below HC.out.2.1 H.bel) HC.out.2.2 HK.out).mono ?_; rintro e w2 ⟨rfl, hb⟩; clear F0 F1; have HB := am_ hb; clear hb; refine ⟨_, rfl, ?_⟩)
  go_ret
  exact ⟨by cases b <;> rfl, HB.out⟩
set_option maxHeartbeats 4000000 in
set_option maxRecDepth 100000 in
theorem implAw (most : Int) (ha : acc.length ≤ 1048576) (hr0 : Kd.C Kd.bool w A0 acc.length acc) (hc0 : acc.length ≤ c0) (hr1 : Kd.C (Kd.slice 3 (Kd.int .i64)) w A1 nxt.length nxt) (hc1 : nxt.length ≤ c1) :
    Calls Try.prog 18 #[.agg #[.slice A0 acc.length c0, .slice A1 nxt.length c1], .int .i64 most] w fun e w' => ∃ v, e = .returned v ∧ Kd.R Kd.string 9 w' w.heap.size (fun _ => True) v (if validD acc nxt = true ∧ ¬ most < 0 then (Wu.upto (min most 5).toNat).filter (accOf acc nxt) else []) ∧ Below w.heap.size w w' := by
  have H := Sl.start w
  have HC := am_ (And.intro (And.intro hr0 hc0) (And.intro hr1 hc1))
  have hu := Try.underlying28
  clear hr0 hc0 hr1 hc1
  cases hv : validD acc nxt with
  | false =>
    have HV : Aside0 (impl_IsValidDfa.f acc nxt = some false) := ⟨by rw [impl_IsValidDfa.f, hv]⟩
    simp only [Bool.false_eq_true, false_and, if_false]
    clear hv
    go_enter Try.func18, Try.ntmps18
    go_wp2_with (first
      | ((with_reducible refine gate_dst (N := 2) rfl ?_); refine nw_ H 2 #[.slice A0 acc.length c0, .slice A1 nxt.length c1] 28 rfl ?_; clear H; intro g2 w1 H; replace H := H.nz; have F0 := H.f2 0)
      | ((with_reducible refine gate_dst (N := 6) rfl ?_); refine gL_ (some 6) Try.func31 #[.agg #[.slice A0 acc.length c0, .slice A1 nxt.length c1]] ?_; refine (impl_IsValidDfa.calls A0 c0 acc A1 c1 nxt false _ (Kd.C_below HC.out.1.1 H.bel) HC.out.1.2 (Kd.C_below HC.out.2.1 H.bel) HC.out.2.2 HV.out).mono ?_; rintro e w2 ⟨rfl, hb⟩; clear F0; replace H := H.only hb; clear hb; refine ⟨_, rfl, ?_⟩))
    go_ret
    exact ⟨_, rfl, Kd.R_nil _ _ _ _ _, H.bel⟩
  | true =>
    have HV : Aside0 (impl_IsValidDfa.f acc nxt = some true) := ⟨by rw [impl_IsValidDfa.f, hv]⟩
    simp only [true_and]
    clear hv
    by_cases hneg : most < 0
    · have q1 : (most < 0) = True := eq_true hneg
      simp only [if_neg (not_not_intro hneg)]
      clear hneg
      go_enter Try.func18, Try.ntmps18
      go_wp2_with (first
        | ((with_reducible refine gate_dst (N := 2) rfl ?_); refine nw_ H 2 #[.slice A0 acc.length c0, .slice A1 nxt.length c1] 28 rfl ?_; clear H; intro g2 w1 H; replace H := H.nz; have F0 := H.f2 0)
        | ((with_reducible refine gate_dst (N := 6) rfl ?_); refine gL_ (some 6) Try.func31 #[.agg #[.slice A0 acc.length c0, .slice A1 nxt.length c1]] ?_; refine (impl_IsValidDfa.calls A0 c0 acc A1 c1 nxt true _ (Kd.C_below HC.out.1.1 H.bel) HC.out.1.2 (Kd.C_below HC.out.2.1 H.bel) HC.out.2.2 HV.out).mono ?_; rintro e w2 ⟨rfl, hb⟩; clear F0; replace H := H.only hb; clear hb; refine ⟨_, rfl, ?_⟩))
      go_ret
      exact ⟨_, rfl, Kd.R_nil _ _ _ _ _, H.bel⟩
    · have q1 : (most < 0) = False := eq_false hneg
      simp only [if_pos hneg]
      obtain ⟨L, hL⟩ : ∃ L, L = Wu.upto (min most 5).toNat := ⟨_, rfl⟩
      obtain ⟨ku, hku⟩ := (Wu.impl_upto most).rounds
      rw [if_neg hneg, ← hL] at hku
      have hpos : 0 < L.length := by rw [hL]; exact upto_pos _
      have hlen : L.length ≤ 1000 := by rw [hL]; exact (Wu.len_upto _ (by omega)).1
      have hw : ∀ x ∈ L, ∃ k, impl_AcceptsWord.f k acc nxt x = some (accOf acc nxt x) := fun x hx => (impl_acc acc nxt ha x (by rw [hL] at hx; have := (Wu.upto_words _ x hx).2; omega)).rounds
      rw [← hL]
      have HL := am_ (And.intro hku (And.intro hpos hlen))
      have HW := am_ hw
      clear hneg hku hpos hlen hw hL ha
      go_enter Try.func18, Try.ntmps18
      go_wp2_with (first
        | ((with_reducible refine gate_dst (N := 2) rfl ?_); refine nw_ H 2 #[.slice A0 acc.length c0, .slice A1 nxt.length c1] 28 rfl ?_; clear H; intro g2 w1 H; replace H := H.nz; have F0 := H.f2 0)
        | ((with_reducible refine gate_dst (N := 6) rfl ?_); refine gL_ (some 6) Try.func31 #[.agg #[.slice A0 acc.length c0, .slice A1 nxt.length c1]] ?_; refine (impl_IsValidDfa.calls A0 c0 acc A1 c1 nxt true _ (Kd.C_below HC.out.1.1 H.bel) HC.out.1.2 (Kd.C_below HC.out.2.1 H.bel) HC.out.2.2 HV.out).mono ?_; rintro e w2 ⟨rfl, hb⟩; clear F0; replace H := H.only hb; clear hb; refine ⟨_, rfl, ?_⟩)
        | ((with_reducible refine gate_dst (N := 13) rfl ?_); refine gL_ (some 13) Try.func42 #[.int .i64 most] ?_; refine (impl_WordsUpTo.calls ku most L _ HL.out.1).mono ?_; rintro e w3 ⟨v, rfl, ho, hb⟩; replace H := (H.newR hb ho).nz; clear ho hb; refine ⟨_, rfl, ?_⟩)
        | ((with_reducible refine gate_dst (N := 15) rfl ?_); refine gL_ (some 15) Try.func41 #[v, .func (.func 43) #[] #[.pointer (some ⟨g2, 0, none⟩)]] ?_; refine (deleteS (q := fun x => !accOf acc nxt x) (fun _ _ => rfl) (by have := HL.out.2.2; omega) HL.out.2.1 H (fun b cur x hx W H' => by obtain ⟨k, hk⟩ := HW.out x hx; exact delCall HC H' (H'.blk 0 rfl) hk)).mono ?_; rintro e w4 ⟨v2, rfl, H2⟩; clear H; refine ⟨_, rfl, ?_⟩))
      go_ret
      have e : L.filter (fun x => !(fun x => !accOf acc nxt x) x) = L.filter (accOf acc nxt) := by congr 1; funext x; simp
      rw [e] at H2
      exact ⟨_, rfl, (H2.rd 1).1, H2.bel⟩
end
end Go.Proofs.Ytpgdhpnmagmooaa.Aw
end
section
namespace Go.Proofs.Ytpgdhpnmagmooaa.Mp
open Go.RowKit Go.Maps Go.Proofs.YtpgdhpnmagmooaaW.PrintWords Go.Proofs.YtpgdhpnmagmooaaW.PrintLast Go.Proofs.YtpgdhpnmagmooaaW.PrintMore
set_option linter.unusedVariables false
set_option linter.unusedSimpArgs false
section
variable {P : Program} {t k e : TypeId} {q : IntKind} {α : Type} {enc : α → Value} {ok : α → Prop} {w w' : World} {b c : Nat} {m : α → Option Int}
open Classical in
noncomputable def upd (m : α → Option Int) (x : α) (v : Int) : α → Option Int := fun y => if y = x then some v else m y
variable {ops : Array Oper} {rest : List Oper} {o : Oper} {a : Act} {Q : Exit → Act → World → Prop}
end
end Go.Proofs.Ytpgdhpnmagmooaa.Mp
end
section
namespace Go.Proofs.Ytpgdhpnmagmooaa.P
open Go.RowKit Go.Proofs.YtpgdhpnmagmooaaW.PrintWords Go.Proofs.YtpgdhpnmagmooaaW.PrintLast Go.Proofs.YtpgdhpnmagmooaaW.PrintMore
attribute [local go_sem] max2_int min2_int max_two min_two max_three min_three max_four min_four
set_option linter.unusedVariables false
set_option linter.unusedSimpArgs false
end Go.Proofs.Ytpgdhpnmagmooaa.P
end
section
namespace Go.Proofs.Ytpgdhpnmagmooaa.P
open Go.RowKit Go.Proofs.YtpgdhpnmagmooaaW.PrintWords Go.Proofs.YtpgdhpnmagmooaaW.PrintLast Go.Proofs.YtpgdhpnmagmooaaW.PrintMore
attribute [local go_sem] max2_int min2_int max_two min_two max_three min_three max_four min_four
set_option linter.unusedVariables false
set_option linter.unusedSimpArgs false
theorem zp14_1_ {p q : Prop} (h : p) (c : p → q := by intro h_; repeat (first | (with_reducible first | exact h_ | apply Kept.alloc | apply Kept.drewN | apply Kept.drew) | exact h_)) : q := c h
theorem zp14_2_ {p q : Prop} (h : p) (c : p → q := by intro h_; repeat (first | (with_reducible first | exact h_ | apply below_alloc | apply pw_below_drewN | apply below_drew1) | exact h_)) : q := c h
def laws_markBoolS.l0 : Nat → List Bool → Int → Int → Option (Int × List Bool)
  | 0, _, _, _ => none
  | k + 1, x0, x1, x5 => if x5 < (x0.length : Int) then (if 0 ≤ x5 then (laws_markBoolS.l0 k (x0.set (x5 : Int).toNat ((Int.tmod x1 3) == 0)) (wrap64 (x1 + 1)) (wrap64 (x5 + 1))) else (none)) else (some (x1, x0))
def laws_markBoolS.f (k : Nat) (l0 : List Bool) (a1 : Int) : Option (Int × List Bool) := laws_markBoolS.l0 k l0 a1 0
theorem laws_markBoolS.mono_l : ∀ k, (∀ y0 y1 y2, LeO (laws_markBoolS.l0 k y0 y1 y2) (laws_markBoolS.l0 (k + 1) y0 y1 y2))
  | 0 => fun _ _ _ r h => by simp [laws_markBoolS.l0] at h
  | k + 1 => by
    have ih0 := laws_markBoolS.mono_l k
    · intro y0 y1 y2
      unfold laws_markBoolS.l0
      repeat' first
      | (with_reducible exact ih0 _ _ _)
      | (with_reducible exact LeO.refl _)
      | (with_reducible exact LeO.none _)
      | (with_reducible refine LeO.ite ?_ ?_)
      | (with_reducible refine LeO.bind ?_ (fun _ => ?_))
      | exact ih0 _ _ _
      | exact LeO.none _
      | refine LeO.ite ?_ ?_
      | refine LeO.bind ?_ (fun _ => ?_)
theorem laws_markBoolS.mono : ∀ a0 a1 k, LeO (laws_markBoolS.f k a0 a1) (laws_markBoolS.f (k + 1) a0 a1) := by
  intro a0 a1 k
  have ih0 := laws_markBoolS.mono_l k
  unfold laws_markBoolS.f
  repeat' first
      | (with_reducible exact ih0 _ _ _)
      | (with_reducible exact LeO.refl _)
      | (with_reducible exact LeO.none _)
      | (with_reducible refine LeO.ite ?_ ?_)
      | (with_reducible refine LeO.bind ?_ (fun _ => ?_))
      | exact ih0 _ _ _
      | exact LeO.none _
      | refine LeO.ite ?_ ?_
      | refine LeO.bind ?_ (fun _ => ?_)
set_option maxHeartbeats 8000000 in
set_option maxRecDepth 100000 in
theorem laws_markBoolS.calls (k : Nat) (P0_ : Nat → Prop) (u9000_ : Value) (l0 : List Bool) (a1 : Int) (r1 : Int) (r2 : List Bool) (w0 w : World) (hB : Below w0.heap.size w0 w) (ho0 : Kd.R Kd.bool 4 w w0.heap.size P0_ u9000_ l0) (h : laws_markBoolS.f k l0 a1 = some (r1, r2)) :
    Calls Try.prog 15 #[u9000_, .int .i64 a1] w fun e w' => e = .returned (.int .i64 r1) ∧ Kd.R Kd.bool 4 w' w0.heap.size (fun k_ => (P0_ k_ ∨ w.heap.size ≤ k_)) u9000_ r2 ∧ Below w0.heap.size w0 w' ∧ Kept w w' (fun k_ => P0_ k_) := by
  have HO0 := am_ (show Kd.R Kd.bool 4 w w0.heap.size (fun k_ => (P0_ k_ ∨ w.heap.size ≤ k_)) u9000_ l0 from Kd.R_mono ho0 (fun k_ hk => (.inl hk)))
  have HK := am_ (Kept.refl w (fun k_ => P0_ k_))
  have HW0 := am_ hB.size
  have HB := am_ hB
  clear hB
  have H : (laws_markBoolS.l0 k l0 a1 0) = some (r1, r2) := h
  clear h
  have H' := am_ H
  clear H
  go_enter Try.func15, Try.ntmps15
  go_wp2
  go_loopg [1, 5] k (fun kq v1 v5 w' => ∃ (ag : List Bool) (ad : Int) (aa : Int), v1 = .int .i64 ad ∧ v5 = .int .i64 aa ∧ Aside0 (laws_markBoolS.l0 kq ag ad aa = some (r1, r2)) ∧ Aside0 (kq ≤ k) ∧ Aside0 (Kd.R Kd.bool 4 w' w0.heap.size (fun k_ => (P0_ k_ ∨ w.heap.size ≤ k_)) u9000_ ag) ∧ Aside0 (Kept w w' (fun k_ => P0_ k_)) ∧ Aside0 (Below w0.heap.size w0 w'))
  case atStart => exact ⟨(l0), (a1), (0), (by first | rfl | (simp; done) | (simp [*]; done)), (by first | rfl | (simp; done) | (simp [*]; done)), H', ⟨Nat.le_refl _⟩, ⟨by refine rr_ ?_; exact HO0.out⟩, ⟨by exact zp14_1_ HK.out⟩, ⟨by exact zp14_2_ HB.out⟩⟩
  case round =>
    clear H'
    try clear c1
    try clear p2
    obtain ⟨ag, ad, aa, rfl, rfl, HA, HK1, ae, HK, HB⟩ := hrel
    cases gk with
    | zero => exact absurd HA.out (by simp [laws_markBoolS.l0])
    | succ k1 =>
      have H := HA.out
      clear HA
      simp only [laws_markBoolS.l0] at H
      by_cases c3 : aa < (ag.length : Int)
      · rw [if_pos c3] at H
        have c3b0 : decide (aa < (ag.length : Int)) = true := decide_eq_true c3
        clear c3
        by_cases c4 : 0 ≤ aa
        · rw [if_pos c4] at H
          have c4b0 : decide (0 ≤ aa) = true := decide_eq_true c4
          clear c4
          obtain ⟨ay, hy331⟩ : ∃ y_ : List Bool, y_ = (ag.set (aa : Int).toNat ((Int.tmod ad 3) == 0)) := ⟨_, rfl⟩
          replace H : (laws_markBoolS.l0 k1 ay (wrap64 (ad + 1)) (wrap64 (aa + 1))) = some (r1, r2) := by first | (rw [hy331]; with_reducible exact H) | (have H2_ := (Option.bind_some _ _).symm.trans H; rw [hy331]; with_reducible exact H2_) | (have H2_ := (Option.bind_some _ _).symm.trans H; with_reducible exact H2_) | with_reducible exact H | (rw [hy331]; exact H) | exact H
          have aQ := am_ hy331
          clear hy331
          have H' := am_ H
          clear H
          obtain ⟨Ao6, co6, eo6⟩ := Kd.R_slice ae.out
          subst eo6
          have p5 : 0 ≤ (aa : Int) := of_decide_eq_true ah_
          have q5 : (aa : Int) < ((ag.length : Int) : Int) := of_decide_eq_true ah_
          obtain ⟨go5, co5, eo5, gb5, gl5, cl5, HG5⟩ := Kd.R_form ae.out (by omega)
          (first | cases eo5 | (injection eo5 with ea_ en_ ec_; (first | subst ea_ | (injection ea_ with ea_; subst ea_)); subst ec_; clear en_))
          have GB5 := am_ gb5
          have GG5 := am_ HG5
          clear gb5 gl5 HG5
          have HMgo5 := am_ (show (P0_ go5 ∨ w.heap.size ≤ go5) from (ae.out.1 _ rfl))
          obtain ⟨aR, hf5_0⟩ := Kd.R_celln false ae.out (aa : Int) p5 q5
          replace p5 := eq_true p5
          replace q5 := eq_true q5
          have HP7 := Kd.R_putg ae.out (aa : Int) ((Int.tmod ad 3) == 0)
          go_wp2_with (first | ((with_reducible refine gate_store (t := 4) (p := 17) rfl ?_); refine store_event (t := 4) (p := 17) (v := ?vo_w8) (w1 := (wr.setCell ⟨go5, (aa : Int).toNat, none⟩ (.bool ((Int.tmod ad 3) == 0)))) ?hg ?ho ?hn ?hr ?_; (case ho => rfl); (case hg => rfl); (case hn => rfl); (case hr => first | (go_simp; done) | (go_simp; rfl)); intro w8 hw; have hg : wr.grownBy w8 (some go5) := (by rw [hw]; exact HP7.2); have hp_ : Kd.R Kd.bool 4 w8 w0.heap.size (fun k_ => (P0_ k_ ∨ w.heap.size ≤ k_)) (.slice (some ⟨go5, 0, none⟩) ag.length co6) ay := (by rw [hw, aQ.out]; exact HP7.1); clear HP7; have n0_ := am_ (hp_); have n1_ := am_ ((by rw [hw]; exact below_set (HB.out) GB5.out : Below w0.heap.size w0 w8)); have n2_ := am_ (Kept.of_grown (S := (fun k_ => P0_ k_)) hg (zp14_1_ HK.out) (fun k_ e_ => (ae.out.1 k_ e_))); clear ae; clear HB; clear HK; have ae := n0_; have HB := n1_; have HK := n2_; clear n0_ n1_ n2_; clear hg hw hp_))
          go_roundg k1
          case measure => have := HK1.out; omega
          case rel => exact ⟨(ay), (wrap64 (ad + 1)), (wrap64 (aa + 1)), (by first | rfl | (simp; done) | (simp [*]; done)), (by first | rfl | (simp; done) | (simp [*]; done)), H', ⟨by have := HK1.out; omega⟩, ⟨by refine rr_ ?_; exact ae.out⟩, ⟨by exact zp14_1_ HK.out⟩, ⟨by exact zp14_2_ HB.out⟩⟩
        · rw [if_neg c4] at H
          exact absurd H (by simp)
      · rw [if_neg c3] at H
        have c3b0 : decide (aa < (ag.length : Int)) = false := decide_eq_false c3
        clear c3
        simp only [Option.some.injEq, Prod.mk.injEq] at H
        obtain ⟨rfl, rfl⟩ := H
        obtain ⟨Ao9, co9, eo9⟩ := Kd.R_slice ae.out
        subst eo9
        go_wp2
        go_ret
        exact ⟨by first | rfl | (simp [errW_none, errW_some] <;> rfl) | (simp [*, errW_none, errW_some] <;> rfl), by refine rr_ ?_; exact ae.out, by exact zp14_2_ HB.out, by exact zp14_1_ HK.out⟩
def laws_markIntS.l0 : Nat → List Int → Int → Int → Option (Int × List Int)
  | 0, _, _, _ => none
  | k + 1, x0, x1, x5 => if x5 < (x0.length : Int) then (if 0 ≤ x5 then (laws_markIntS.l0 k (x0.set (x5 : Int).toNat x1) (wrap64 (x1 + 1)) (wrap64 (x5 + 1))) else (none)) else (some (x1, x0))
def laws_markIntS.f (k : Nat) (l0 : List Int) (a1 : Int) : Option (Int × List Int) := laws_markIntS.l0 k l0 a1 0
theorem laws_markIntS.mono_l : ∀ k, (∀ y0 y1 y2, LeO (laws_markIntS.l0 k y0 y1 y2) (laws_markIntS.l0 (k + 1) y0 y1 y2))
  | 0 => fun _ _ _ r h => by simp [laws_markIntS.l0] at h
  | k + 1 => by
    have ih0 := laws_markIntS.mono_l k
    · intro y0 y1 y2
      unfold laws_markIntS.l0
      repeat' first
      | (with_reducible exact ih0 _ _ _)
      | (with_reducible exact LeO.refl _)
      | (with_reducible exact LeO.none _)
      | (with_reducible refine LeO.ite ?_ ?_)
      | (with_reducible refine LeO.bind ?_ (fun _ => ?_))
      | exact ih0 _ _ _
      | exact LeO.none _
      | refine LeO.ite ?_ ?_
      | refine LeO.bind ?_ (fun _ => ?_)
theorem laws_markIntS.mono : ∀ a0 a1 k, LeO (laws_markIntS.f k a0 a1) (laws_markIntS.f (k + 1) a0 a1) := by
  intro a0 a1 k
  have ih0 := laws_markIntS.mono_l k
  unfold laws_markIntS.f
  repeat' first
      | (with_reducible exact ih0 _ _ _)
      | (with_reducible exact LeO.refl _)
      | (with_reducible exact LeO.none _)
      | (with_reducible refine LeO.ite ?_ ?_)
      | (with_reducible refine LeO.bind ?_ (fun _ => ?_))
      | exact ih0 _ _ _
      | exact LeO.none _
      | refine LeO.ite ?_ ?_
      | refine LeO.bind ?_ (fun _ => ?_)
set_option maxHeartbeats 8000000 in
set_option maxRecDepth 100000 in
theorem laws_markIntS.calls (k : Nat) (P0_ : Nat → Prop) (u9000_ : Value) (l0 : List Int) (a1 : Int) (r1 : Int) (r2 : List Int) (w0 w : World) (hB : Below w0.heap.size w0 w) (ho0 : Kd.R (Kd.int .i64) 3 w w0.heap.size P0_ u9000_ l0) (h : laws_markIntS.f k l0 a1 = some (r1, r2)) :
    Calls Try.prog 55 #[u9000_, .int .i64 a1] w fun e w' => e = .returned (.int .i64 r1) ∧ Kd.R (Kd.int .i64) 3 w' w0.heap.size (fun k_ => (P0_ k_ ∨ w.heap.size ≤ k_)) u9000_ r2 ∧ Below w0.heap.size w0 w' ∧ Kept w w' (fun k_ => P0_ k_) := by
  have HO0 := am_ (show Kd.R (Kd.int .i64) 3 w w0.heap.size (fun k_ => (P0_ k_ ∨ w.heap.size ≤ k_)) u9000_ l0 from Kd.R_mono ho0 (fun k_ hk => (.inl hk)))
  have HK := am_ (Kept.refl w (fun k_ => P0_ k_))
  have HW0 := am_ hB.size
  have HB := am_ hB
  clear hB
  have H : (laws_markIntS.l0 k l0 a1 0) = some (r1, r2) := h
  clear h
  have H' := am_ H
  clear H
  go_enter Try.func55, Try.ntmps55
  go_wp2
  go_loopg [1, 5] k (fun kq v1 v5 w' => ∃ (ag : List Int) (ad : Int) (aa : Int), v1 = .int .i64 ad ∧ v5 = .int .i64 aa ∧ Aside0 (laws_markIntS.l0 kq ag ad aa = some (r1, r2)) ∧ Aside0 (kq ≤ k) ∧ Aside0 (Kd.R (Kd.int .i64) 3 w' w0.heap.size (fun k_ => (P0_ k_ ∨ w.heap.size ≤ k_)) u9000_ ag) ∧ Aside0 (Kept w w' (fun k_ => P0_ k_)) ∧ Aside0 (Below w0.heap.size w0 w'))
  case atStart => exact ⟨(l0), (a1), (0), (by first | rfl | (simp; done) | (simp [*]; done)), (by first | rfl | (simp; done) | (simp [*]; done)), H', ⟨Nat.le_refl _⟩, ⟨by refine rr_ ?_; exact HO0.out⟩, ⟨by exact zp14_1_ HK.out⟩, ⟨by exact zp14_2_ HB.out⟩⟩
  case round =>
    clear H'
    try clear p2
    obtain ⟨ag, ad, aa, rfl, rfl, HA, HK1, ae, HK, HB⟩ := hrel
    cases gk with
    | zero => exact absurd HA.out (by simp [laws_markIntS.l0])
    | succ k1 =>
      have H := HA.out
      clear HA
      simp only [laws_markIntS.l0] at H
      by_cases c3 : aa < (ag.length : Int)
      · rw [if_pos c3] at H
        have c3b0 : decide (aa < (ag.length : Int)) = true := decide_eq_true c3
        clear c3
        by_cases c4 : 0 ≤ aa
        · rw [if_pos c4] at H
          have c4b0 : decide (0 ≤ aa) = true := decide_eq_true c4
          clear c4
          obtain ⟨az, hy332⟩ : ∃ y_ : List Int, y_ = (ag.set (aa : Int).toNat ad) := ⟨_, rfl⟩
          replace H : (laws_markIntS.l0 k1 az (wrap64 (ad + 1)) (wrap64 (aa + 1))) = some (r1, r2) := by first | (rw [hy332]; with_reducible exact H) | (have H2_ := (Option.bind_some _ _).symm.trans H; rw [hy332]; with_reducible exact H2_) | (have H2_ := (Option.bind_some _ _).symm.trans H; with_reducible exact H2_) | with_reducible exact H | (rw [hy332]; exact H) | exact H
          have aS := am_ hy332
          clear hy332
          have H' := am_ H
          clear H
          obtain ⟨Ao6, co6, eo6⟩ := Kd.R_slice ae.out
          subst eo6
          have p5 : 0 ≤ (aa : Int) := of_decide_eq_true ah_
          have q5 : (aa : Int) < ((ag.length : Int) : Int) := of_decide_eq_true ah_
          obtain ⟨go5, co5, eo5, gb5, gl5, cl5, HG5⟩ := Kd.R_form ae.out (by omega)
          (first | cases eo5 | (injection eo5 with ea_ en_ ec_; (first | subst ea_ | (injection ea_ with ea_; subst ea_)); subst ec_; clear en_))
          have GB5 := am_ gb5
          have GG5 := am_ HG5
          clear gb5 gl5 HG5
          have HMgo5 := am_ (show (P0_ go5 ∨ w.heap.size ≤ go5) from (ae.out.1 _ rfl))
          obtain ⟨aR, hf5_0⟩ := Kd.R_celln 0 ae.out (aa : Int) p5 q5
          replace p5 := eq_true p5
          replace q5 := eq_true q5
          have HP7 := Kd.R_putg ae.out (aa : Int) ad
          go_wp2_with (first | ((with_reducible refine gate_store (t := 3) (p := 15) rfl ?_); refine store_event (t := 3) (p := 15) (v := ?vo_w8) (w1 := (wr.setCell ⟨go5, (aa : Int).toNat, none⟩ (.int .i64 ad))) ?hg ?ho ?hn ?hr ?_; (case ho => rfl); (case hg => rfl); (case hn => rfl); (case hr => first | (go_simp; done) | (go_simp; rfl)); intro w8 hw; have hg : wr.grownBy w8 (some go5) := (by rw [hw]; exact HP7.2); have hp_ : Kd.R (Kd.int .i64) 3 w8 w0.heap.size (fun k_ => (P0_ k_ ∨ w.heap.size ≤ k_)) (.slice (some ⟨go5, 0, none⟩) ag.length co6) az := (by rw [hw, aS.out]; exact HP7.1); clear HP7; have n0_ := am_ (hp_); have n1_ := am_ ((by rw [hw]; exact below_set (HB.out) GB5.out : Below w0.heap.size w0 w8)); have n2_ := am_ (Kept.of_grown (S := (fun k_ => P0_ k_)) hg (zp14_1_ HK.out) (fun k_ e_ => (ae.out.1 k_ e_))); clear ae; clear HB; clear HK; have ae := n0_; have HB := n1_; have HK := n2_; clear n0_ n1_ n2_; clear hg hw hp_))
          go_roundg k1
          case measure => have := HK1.out; omega
          case rel => exact ⟨(az), (wrap64 (ad + 1)), (wrap64 (aa + 1)), (by first | rfl | (simp; done) | (simp [*]; done)), (by first | rfl | (simp; done) | (simp [*]; done)), H', ⟨by have := HK1.out; omega⟩, ⟨by refine rr_ ?_; exact ae.out⟩, ⟨by exact zp14_1_ HK.out⟩, ⟨by exact zp14_2_ HB.out⟩⟩
        · rw [if_neg c4] at H
          exact absurd H (by simp)
      · rw [if_neg c3] at H
        have c3b0 : decide (aa < (ag.length : Int)) = false := decide_eq_false c3
        clear c3
        simp only [Option.some.injEq, Prod.mk.injEq] at H
        obtain ⟨rfl, rfl⟩ := H
        obtain ⟨Ao9, co9, eo9⟩ := Kd.R_slice ae.out
        subst eo9
        go_wp2
        go_ret
        exact ⟨by first | rfl | (simp [errW_none, errW_some] <;> rfl) | (simp [*, errW_none, errW_some] <;> rfl), by refine rr_ ?_; exact ae.out, by exact zp14_2_ HB.out, by exact zp14_1_ HK.out⟩
end Go.Proofs.Ytpgdhpnmagmooaa.P
end
section
namespace Go.Proofs.Ytpgdhpnmagmooaa.Wk
open Go.RowKit Go.Shelf Go.Proofs.Ytpgdhpnmagmooaa.P Go.Proofs.Ytpgdhpnmagmooaa.Pl Go.Proofs.Ytpgdhpnmagmooaa.Mp Go.Proofs.YtpgdhpnmagmooaaW.PrintWords Go.Proofs.YtpgdhpnmagmooaaW.PrintLast Go.Proofs.YtpgdhpnmagmooaaW.PrintMore
set_option linter.unusedVariables false
set_option linter.unusedSimpArgs false
def mkB (a : Int) (xs : List Bool) : List Bool := (List.range xs.length).map fun (i : Nat) => (Int.tmod (a + i) 3) == 0
theorem markBools_l0 (xs : List Bool) (hl : xs.length ≤ 4000000000000) (a : Int) (ha : 0 ≤ a ∧ a ≤ 1000000000000000) : ∀ d i : Nat, i + d = xs.length → Ev (fun k => laws_markBoolS.l0 k ((List.range i).map (fun (m : Nat) => (Int.tmod (a + m) 3) == 0) ++ xs.drop i) (a + i) i) (a + xs.length, mkB a xs) := by
  intro d
  induction d with
  | zero =>
    intro i hi
    refine next ?_
    rw [List.drop_eq_nil_of_le (by omega), List.append_nil]
    simp only [laws_markBoolS.l0, List.length_map, List.length_range, if_neg (show ¬ (i : Int) < (i : Int) by omega)]
    exact ev_some (by unfold mkB; rw [show xs.length = i by omega])
  | succ d ih =>
    intro i hi
    refine next ?_
    have hlen : (((List.range i).map (fun (m : Nat) => (Int.tmod (a + m) 3) == 0) ++ xs.drop i).length : Int) = (xs.length : Int) := by simp; omega
    have hset : ((List.range i).map (fun (m : Nat) => (Int.tmod (a + m) 3) == 0) ++ xs.drop i).set i ((Int.tmod (a + i) 3) == 0) = (List.range (i + 1)).map (fun (m : Nat) => (Int.tmod (a + m) 3) == 0) ++ xs.drop (i + 1) := by
      rw [List.drop_eq_getElem_cons (by omega), List.range_succ, List.map_append, List.map_singleton]
      rw [List.set_append_right _ _ (by simp)]
      simp only [List.length_map, List.length_range, Nat.sub_self, List.set_cons_zero, List.append_assoc, List.singleton_append]
    have IH := ih (i + 1) (by omega)
    simp only [laws_markBoolS.l0, hlen, if_pos (show (i : Int) < (xs.length : Int) by omega), if_pos (show (0 : Int) ≤ (i : Int) by omega), Int.toNat_natCast, hset]
    rw [up1 (by omega), w64 (by omega) (by omega)]
    rw [show a + ((i + 1 : Nat) : Int) = a + i + 1 by omega] at IH
    exact IH
theorem markBools (xs : List Bool) (hl : xs.length ≤ 4000000000000) (a : Int) (ha : 0 ≤ a ∧ a ≤ 1000000000000000) : Ev (fun k => laws_markBoolS.f k xs a) (a + xs.length, mkB a xs) := by
  have := markBools_l0 xs hl a ha xs.length 0 (by omega)
  refine this.congr fun k => ?_
  simp [laws_markBoolS.f]
end Go.Proofs.Ytpgdhpnmagmooaa.Wk
end
