/- Letters, words, . No condition. -/
import Derived.Test.YtldgkgdgcfllmaaBase
import Derived.Test.YtldgkgdgcfllmaaP7
import Derived.Test.YtldgkgdgcfllmaaP9
namespace Go.Proofs.Ytldgkgdgcfllmaa.Pl
open Go.RowKit Go.Proofs.Ytldgkgdgcfllmaa.P Go.Proofs.YtldgkgdgcfllmaaW.PrintWords Go.Proofs.YtldgkgdgcfllmaaW.PrintLast Go.Proofs.YtldgkgdgcfllmaaW.PrintMore
set_option linter.unusedVariables false
set_option linter.unusedSimpArgs false

/-! letters -/
def letIdx (b : Int) : Int := if b = 97 then 0 else if b = 98 then 1 else if b = 99 then 2 else -1
theorem spec_letter (b : Int) : Ev (fun k => spec_LetterIndex.f k b) (letIdx b) := by
  simp only [spec_LetterIndex.f]
  have e0 : bt (⟨#[97, 98, 99]⟩ : ByteArray) 0 = 97 := rfl
  have e1 : bt (⟨#[97, 98, 99]⟩ : ByteArray) 1 = 98 := rfl
  have e2 : bt (⟨#[97, 98, 99]⟩ : ByteArray) 2 = 99 := rfl
  have w0 : wrap64 ((0 : Int) + 1) = 1 := by unfold wrap64; omega
  have w1 : wrap64 ((1 : Int) + 1) = 2 := by unfold wrap64; omega
  have w2 : wrap64 ((2 : Int) + 1) = 3 := by unfold wrap64; omega
  refine next ?_
  simp only [spec_LetterIndex.l0, if_pos (show (0 : Int) < 3 by omega), if_pos (show (0 : Int) ≤ 0 by omega), e0, w0, letIdx]
  by_cases h : b = 97
  · simp only [h, if_true]
    exact Ev.now _
  · simp only [if_neg h, if_neg (fun e => h (Eq.symm e))]
    refine next ?_
    simp only [spec_LetterIndex.l0, if_pos (show (1 : Int) < 3 by omega), if_pos (show (0 : Int) ≤ 1 by omega), e1, w1]
    by_cases h : b = 98
    · simp only [h, if_true]
      exact Ev.now _
    · simp only [if_neg h, if_neg (fun e => h (Eq.symm e))]
      refine next ?_
      simp only [spec_LetterIndex.l0, if_pos (show (2 : Int) < 3 by omega), if_pos (show (0 : Int) ≤ 2 by omega), e2, w2]
      by_cases h : b = 99
      · simp only [h, if_true]
        exact Ev.now _
      · simp only [if_neg h, if_neg (fun e => h (Eq.symm e))]
        refine next ?_
        simp only [spec_LetterIndex.l0, if_neg (show ¬ (3 : Int) < 3 by omega)]
        exact Ev.now _
theorem u8_eq {b : Int} (h0 : 0 ≤ b) (h1 : b ≤ 255) (c : Nat) (hc : c < 256) : (b.toNat.toUInt8 = UInt8.ofNat c) ↔ b = c := by
  constructor
  · intro h
    have := congrArg UInt8.toNat h
    simp at this
    omega
  · rintro rfl
    simp
theorem impl_letter {b : Int} (h0 : 0 ≤ b) (h1 : b ≤ 255) : impl_LetterIndex.f b = some (letIdx b) := by
  simp only [impl_LetterIndex.f, strings_IndexByte.f, Option.bind_some, letIdx]
  have e97 := u8_eq h0 h1 97 (by omega)
  have e98 := u8_eq h0 h1 98 (by omega)
  have e99 := u8_eq h0 h1 99 (by omega)
  congr 1
  by_cases h : b = 97
  · rw [h]; rfl
  · by_cases h2 : b = 98
    · rw [h2]; rfl
    · by_cases h3 : b = 99
      · rw [h3]; rfl
      · have n97 : ¬ b.toNat.toUInt8 = 97 := fun e => h (e97.mp e)
        have n98 : ¬ b.toNat.toUInt8 = 98 := fun e => h2 (e98.mp e)
        have n99 : ¬ b.toNat.toUInt8 = 99 := fun e => h3 (e99.mp e)
        rw [if_neg h, if_neg h2, if_neg h3]
        have q1 : ¬ (97 : UInt8) = b.toNat.toUInt8 := fun e => n97 e.symm
        have q2 : ¬ (98 : UInt8) = b.toNat.toUInt8 := fun e => n98 e.symm
        have q3 : ¬ (99 : UInt8) = b.toNat.toUInt8 := fun e => n99 e.symm
        simp only [Lib.indexByte, beq_iff_eq, n97, n98, n99, q1, q2, q3, if_false]
        rfl

/-! words -/
def lets (l : List Int) : Bool := l.all fun b => decide (0 ≤ letIdx b)
def word (s : ByteArray) : Bool := lets (bytesOf s) && decide (s.size ≤ 30)
theorem letIdx_range (b : Int) : -1 ≤ letIdx b ∧ letIdx b ≤ 2 := by
  unfold letIdx
  split
  · omega
  · split
    · omega
    · split <;> omega
theorem spec_word_l0 (s : ByteArray) (hs : s.size ≤ 140737488351232) : ∀ d i : Nat, i + d = s.size → Ev (fun k => spec_IsWord.l0 k s i) (lets ((bytesOf s).drop i) && decide ((s.size : Int) ≤ 30)) := by
  intro d
  induction d with
  | zero =>
    intro i h
    refine next ?_
    simp only [spec_IsWord.l0, if_neg (show ¬ (i : Int) < (s.size : Int) by omega), drop_end s i (by omega)]
    exact ev_some (by simp [lets])
  | succ d ih =>
    intro i h
    refine next ?_
    simp only [spec_IsWord.l0, if_pos (show (i : Int) < (s.size : Int) by omega), if_pos (show (0 : Int) ≤ i by omega)]
    refine Ev.bind (spec_letter _) ?_
    rw [drop_cons s i (by omega)]
    by_cases hl : letIdx (bt s i) < 0
    · simp only [if_pos hl]
      exact ev_some (by simp [lets, show ¬ 0 ≤ letIdx (bt s i) by omega])
    · simp only [if_neg hl, up1 (show i < 9223372036854775807 by omega)]
      exact ev_eq (ih (i + 1) (by omega)) (by simp [lets, show 0 ≤ letIdx (bt s i) by omega])
theorem spec_word (s : ByteArray) (hs : s.size ≤ 140737488351232) : Ev (fun k => spec_IsWord.f k s) (word s) :=
  ev_eq (spec_word_l0 s hs s.size 0 (by omega)) (by
    have e : decide ((s.size : Int) ≤ 30) = decide (s.size ≤ 30) := decide_eq_decide.mpr (by omega)
    simp only [word, e, List.drop_zero])
theorem impl_lets_l0 (s : ByteArray) (hs : s.size ≤ 140737488351232) : ∀ d i : Nat, i + d = s.size → Ev (fun k => impl_isLetters.l0 k s i) (lets ((bytesOf s).drop i)) := by
  intro d
  induction d with
  | zero =>
    intro i h
    refine next ?_
    simp only [impl_isLetters.l0, if_neg (show ¬ (i : Int) < (s.size : Int) by omega), drop_end s i (by omega)]
    exact ev_some (by simp [lets])
  | succ d ih =>
    intro i h
    refine next ?_
    simp only [impl_isLetters.l0, if_pos (show (i : Int) < (s.size : Int) by omega), if_pos (show (0 : Int) ≤ i by omega), impl_letter (bt_range s i).1 (bt_range s i).2, Option.bind_some]
    rw [drop_cons s i (by omega)]
    by_cases hl : letIdx (bt s i) < 0
    · simp only [if_pos hl]
      exact ev_some (by simp [lets, show ¬ 0 ≤ letIdx (bt s i) by omega])
    · simp only [if_neg hl, up1 (show i < 9223372036854775807 by omega)]
      exact ev_eq (ih (i + 1) (by omega)) (by simp [lets, show 0 ≤ letIdx (bt s i) by omega])
theorem impl_word (s : ByteArray) (hs : s.size ≤ 140737488351232) : Ev (fun k => impl_IsWord.f k s) (word s) := by
  simp only [impl_IsWord.f]
  by_cases h : s.size ≤ 30
  · simp only [if_pos (show (s.size : Int) ≤ 30 by omega)]
    refine Ev.bind (impl_lets_l0 s hs s.size 0 (by omega)) ?_
    exact ev_some (by simp [word, h])
  · simp only [if_neg (show ¬ (s.size : Int) ≤ 30 by omega)]
    exact ev_some (by simp [word, h])

end Go.Proofs.Ytldgkgdgcfllmaa.Pl
