/- Automata: runs and acceptance. No condition. -/
import Derived.Test.YtoknogcefajfiaaWd0
import Derived.Test.YtoknogcefajfiaaDf
import Derived.Test.YtoknogcefajfiaaP0
import Derived.Test.YtoknogcefajfiaaP4
import Derived.Test.YtoknogcefajfiaaP8
import Derived.Test.YtoknogcefajfiaaP9
namespace Go.Proofs.Ytoknogcefajfiaa.Pl
open Go.RowKit Go.Proofs.Ytoknogcefajfiaa.P Go.Proofs.YtoknogcefajfiaaW.PrintWords Go.Proofs.YtoknogcefajfiaaW.PrintLast Go.Proofs.YtoknogcefajfiaaW.PrintMore Wk
set_option linter.unusedVariables false
set_option linter.unusedSimpArgs false

/-! runs -/
def runD (nxt : List (List Int)) (q : Int) (l : List Int) : Int := l.foldl (fun q b => rd (rd_L2 nxt q) (letIdx b)) q
theorem lets_cons {b : Int} {l : List Int} : lets (b :: l) = true ↔ 0 ≤ letIdx b ∧ lets l = true := by simp [lets]
theorem spec_run_l0 (acc : List Bool) (nxt : List (List Int)) (hv : validD acc nxt = true) (s : ByteArray) (hs : s.size ≤ 140737488351232) : ∀ (d i : Nat) (q : Int), i + d = s.size → lets ((bytesOf s).drop i) = true → 0 ≤ q → q < (acc.length : Int) → Ev (fun k => spec_RunDfa.l0 k s q i acc nxt) (runD nxt q ((bytesOf s).drop i), true) := by
  have hl := (valid_facts hv).2.2.1
  intro d
  induction d with
  | zero =>
    intro i q h hw h0 h1
    refine next ?_
    simp only [spec_RunDfa.l0, if_neg (show ¬ (i : Int) < (s.size : Int) by omega), drop_end s i (by omega)]
    exact Ev.now _
  | succ d ih =>
    intro i q h hw h0 h1
    rw [drop_cons s i (by omega)] at hw ⊢
    have hb := lets_cons.mp hw
    have hlr := letIdx_range (bt s i)
    have hn := next_range hv q h0 h1 (letIdx (bt s i)) hb.1 (by omega)
    refine next ?_
    simp only [spec_RunDfa.l0, if_pos (show (i : Int) < (s.size : Int) by omega), if_pos h0, if_pos (show q < (nxt.length : Int) by omega), if_pos (show (0 : Int) ≤ i by omega)]
    refine Ev.bind (spec_letter _) ?_
    simp only [if_pos hb.1, hn.1, if_pos (show letIdx (bt s i) < ((3 : Nat) : Int) by omega), up1 (show i < 9223372036854775807 by omega)]
    exact ih (i + 1) _ (by omega) hb.2 hn.2.1 hn.2.2
theorem impl_run_l0 (acc : List Bool) (nxt : List (List Int)) (hv : validD acc nxt = true) (s : ByteArray) (hs : s.size ≤ 140737488351232) : ∀ (d i : Nat) (q : Int), i + d = s.size → lets ((bytesOf s).drop i) = true → 0 ≤ q → q < (acc.length : Int) → Ev (fun k => impl_after.l0 k q s i acc nxt) (runD nxt q ((bytesOf s).drop i)) := by
  have hl := (valid_facts hv).2.2.1
  intro d
  induction d with
  | zero =>
    intro i q h hw h0 h1
    refine next ?_
    simp only [impl_after.l0, if_neg (show ¬ (i : Int) < (s.size : Int) by omega), drop_end s i (by omega)]
    exact Ev.now _
  | succ d ih =>
    intro i q h hw h0 h1
    rw [drop_cons s i (by omega)] at hw ⊢
    have hb := lets_cons.mp hw
    have hlr := letIdx_range (bt s i)
    have hn := next_range hv q h0 h1 (letIdx (bt s i)) hb.1 (by omega)
    refine next ?_
    simp only [impl_after.l0, if_pos (show (i : Int) < (s.size : Int) by omega), if_pos h0, if_pos (show q < (nxt.length : Int) by omega), if_pos (show (0 : Int) ≤ i by omega), impl_letter (bt_range s i).1 (bt_range s i).2, Option.bind_some, if_pos hb.1, hn.1, if_pos (show letIdx (bt s i) < ((3 : Nat) : Int) by omega), up1 (show i < 9223372036854775807 by omega)]
    exact ih (i + 1) _ (by omega) hb.2 hn.2.1 hn.2.2
/-- What RunDfa answers. -/
def runOf (acc : List Bool) (nxt : List (List Int)) (q : Int) (s : ByteArray) : Int × Bool :=
  if validD acc nxt = true ∧ 0 ≤ q ∧ q ≤ (acc.length : Int) - 1 ∧ word s = true then (runD nxt q (bytesOf s), true) else (0, false)
theorem spec_run (acc : List Bool) (nxt : List (List Int)) (ha : acc.length ≤ 1048576) (hn : nxt.length ≤ 1048576) (q : Int) (s : ByteArray) (hs : s.size ≤ 140737488351232) : Ev (fun k => spec_RunDfa.f k acc nxt q s) (runOf acc nxt q s) := by
  have jt : Ev (fun k => spec_RunDfa.j0 k q s true acc nxt) (0, false) := by
    refine next ?_
    simp only [spec_RunDfa.j0, if_true]
    exact Ev.now _
  have hw : wrap64 ((acc.length : Int) - 1) = (acc.length : Int) - 1 := w64 (by omega) (by omega)
  simp only [spec_RunDfa.f, hw, spec_in, Option.bind_some, runOf]
  refine Ev.bind (spec_valid acc nxt ha hn) ?_
  by_cases hv : validD acc nxt = true
  · simp only [hv, if_true, true_and]
    by_cases hq : 0 ≤ q ∧ q ≤ (acc.length : Int) - 1
    · simp only [decide_eq_true hq.1, decide_eq_true hq.2, Bool.true_and, if_true, hq.1, hq.2, true_and]
      refine Ev.bind (spec_word s hs) ?_
      by_cases hwd : word s = true
      · simp only [hwd, Bool.not_true, if_true]
        refine next ?_
        simp only [spec_RunDfa.j0, Bool.false_ne_true, if_false]
        refine spec_run_l0 acc nxt hv s hs s.size 0 q (by omega) ?_ hq.1 (by omega)
        simp only [word, Bool.and_eq_true] at hwd
        exact hwd.1
      · simp only [eq_false_of_ne_true hwd, Bool.not_false, Bool.false_ne_true, if_false]
        exact jt
    · have e : (decide (0 ≤ q) && decide (q ≤ (acc.length : Int) - 1)) = false := by
        by_cases h1 : 0 ≤ q
        · rw [decide_eq_false (show ¬ q ≤ (acc.length : Int) - 1 by omega), Bool.and_false]
        · rw [decide_eq_false h1, Bool.false_and]
      simp only [e, Bool.false_ne_true, if_false]
      rw [if_neg (by rintro ⟨h1, h2, _⟩; exact hq ⟨h1, h2⟩)]
      exact jt
  · simp only [hv, if_false, false_and]
    exact jt
theorem impl_run (acc : List Bool) (nxt : List (List Int)) (q : Int) (ha : acc.length ≤ 1048576) (s : ByteArray) (hs : s.size ≤ 140737488351232) : Ev (fun k => impl_RunDfa.f k acc nxt q s) (runOf acc nxt q s) := by
  have hw : wrap64 ((acc.length : Int) - 1) = (acc.length : Int) - 1 := w64 (by omega) (by omega)
  simp only [impl_RunDfa.f, impl_IsValidDfa.f, hw, impl_in, Option.bind_some, runOf]
  by_cases hv : validD acc nxt = true
  · simp only [hv, if_true, true_and]
    by_cases hq : 0 ≤ q ∧ q ≤ (acc.length : Int) - 1
    · simp only [decide_eq_true hq.1, decide_eq_true hq.2, Bool.true_and, if_true, hq.1, hq.2, true_and]
      refine Ev.bind (impl_word s hs) ?_
      by_cases hwd : word s = true
      · simp only [hwd, if_true]
        refine Ev.bind (impl_run_l0 acc nxt hv s hs s.size 0 q (by omega) ?_ hq.1 (by omega)) (Ev.now _)
        simp only [word, Bool.and_eq_true] at hwd
        exact hwd.1
      · simp only [eq_false_of_ne_true hwd, Bool.false_ne_true, if_false]
        exact Ev.now _
    · have e : (decide (0 ≤ q) && decide (q ≤ (acc.length : Int) - 1)) = false := by
        by_cases h1 : 0 ≤ q
        · rw [decide_eq_false (show ¬ q ≤ (acc.length : Int) - 1 by omega), Bool.and_false]
        · rw [decide_eq_false h1, Bool.false_and]
      simp only [e, Bool.false_ne_true, if_false]
      rw [if_neg (by rintro ⟨h1, h2, _⟩; exact hq ⟨h1, h2⟩)]
      exact Ev.now _
  · simp only [hv, if_false, false_and]
    exact Ev.now _
theorem runD_range {acc : List Bool} {nxt : List (List Int)} (hv : validD acc nxt = true) : ∀ (l : List Int) (q : Int), lets l = true → 0 ≤ q → q < (acc.length : Int) → 0 ≤ runD nxt q l ∧ runD nxt q l < (acc.length : Int) := by
  intro l
  induction l with
  | nil => intro q _ h0 h1; exact ⟨h0, h1⟩
  | cons b l ih =>
    intro q hw h0 h1
    have hb := lets_cons.mp hw
    have hlr := letIdx_range b
    have hn := next_range hv q h0 h1 (letIdx b) hb.1 (by omega)
    exact ih _ hb.2 hn.2.1 hn.2.2
/-- What AcceptsWord answers. -/
def accOf (acc : List Bool) (nxt : List (List Int)) (s : ByteArray) : Bool := validD acc nxt && word s && rdOf false acc (runD nxt 0 (bytesOf s))
theorem runOf_zero (acc : List Bool) (nxt : List (List Int)) (s : ByteArray) : (runOf acc nxt 0 s).2 = (validD acc nxt && word s) ∧ ((runOf acc nxt 0 s).2 = true → (runOf acc nxt 0 s).1 = runD nxt 0 (bytesOf s) ∧ 0 ≤ runD nxt 0 (bytesOf s) ∧ runD nxt 0 (bytesOf s) < (acc.length : Int)) := by
  unfold runOf
  by_cases hv : validD acc nxt = true
  · have hf := valid_facts hv
    by_cases hwd : word s = true
    · rw [if_pos ⟨hv, by omega, by omega, hwd⟩]
      simp only [word, Bool.and_eq_true] at hwd
      exact ⟨by simp [hv, word, hwd.1, hwd.2], fun _ => ⟨rfl, runD_range hv _ 0 hwd.1 (by omega) (by omega)⟩⟩
    · rw [if_neg (by rintro ⟨_, _, _, h⟩; exact hwd h)]
      exact ⟨by simp [hwd], fun h => by cases h⟩
  · rw [if_neg (by rintro ⟨h, _⟩; exact hv h)]
    exact ⟨by simp [hv], fun h => by cases h⟩
theorem spec_acc (acc : List Bool) (nxt : List (List Int)) (ha : acc.length ≤ 1048576) (hn : nxt.length ≤ 1048576) (s : ByteArray) (hs : s.size ≤ 140737488351232) : Ev (fun k => spec_AcceptsWord.f k acc nxt s) (accOf acc nxt s) := by
  simp only [spec_AcceptsWord.f]
  refine Ev.bind (spec_run acc nxt ha hn 0 s hs) ?_
  obtain ⟨h1, h2⟩ := runOf_zero acc nxt s
  by_cases h : (runOf acc nxt 0 s).2 = true
  · obtain ⟨e, r0, r1⟩ := h2 h
    rw [h] at h1
    simp only [h, if_true, e, if_pos r0, if_pos r1]
    exact ev_some (by unfold accOf; rw [← h1, Bool.true_and])
  · simp only [eq_false_of_ne_true h, Bool.false_ne_true, if_false]
    rw [eq_false_of_ne_true h] at h1
    exact ev_some (by unfold accOf; rw [← h1, Bool.false_and])
theorem impl_acc (acc : List Bool) (nxt : List (List Int)) (ha : acc.length ≤ 1048576) (s : ByteArray) (hs : s.size ≤ 140737488351232) : Ev (fun k => impl_AcceptsWord.f k acc nxt s) (accOf acc nxt s) := by
  simp only [impl_AcceptsWord.f]
  refine Ev.bind (impl_run acc nxt 0 ha s hs) ?_
  obtain ⟨h1, h2⟩ := runOf_zero acc nxt s
  by_cases h : (runOf acc nxt 0 s).2 = true
  · obtain ⟨e, r0, r1⟩ := h2 h
    rw [h] at h1
    simp only [h, if_true, e, if_pos r0, if_pos r1]
    exact ev_some (by unfold accOf; rw [← h1, Bool.true_and])
  · simp only [eq_false_of_ne_true h, Bool.false_ne_true, if_false]
    rw [eq_false_of_ne_true h] at h1
    exact ev_some (by unfold accOf; rw [← h1, Bool.false_and])
end Go.Proofs.Ytoknogcefajfiaa.Pl
