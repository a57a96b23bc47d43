/- The pure statements of the laws on letters, words and lists of words. No condition. -/
import Derived.Test.YtdhgmmgdblnciaaWdA
import Derived.OpenShut
import Derived.Test.YtdhgmmgdblnciaaP1
import Derived.Test.YtdhgmmgdblnciaaP13
import Derived.Test.YtdhgmmgdblnciaaP15
import Derived.Test.YtdhgmmgdblnciaaP2
import Derived.Test.YtdhgmmgdblnciaaP3
import Derived.Test.YtdhgmmgdblnciaaP7
namespace Go.Proofs.Ytdhgmmgdblnciaa.Pl
open Go.RowKit Go.Proofs.Ytdhgmmgdblnciaa.P Go.Proofs.YtdhgmmgdblnciaaW.PrintWords Go.Proofs.YtdhgmmgdblnciaaW.PrintLast Go.Proofs.YtdhgmmgdblnciaaW.PrintMore
set_option linter.unusedVariables false
set_option linter.unusedSimpArgs false

theorem pureFnExactConstants : laws_FnExactConstants.Pure := rfl
theorem pureFnExactLetterIndex : laws_FnExactLetterIndex.Pure := by
  intro a0 h0
  have hb := bounds_u8 h0
  refine Ev.rounds ?_
  simp only [laws_FnExactLetterIndex.f, impl_letter (show 0 ≤ a0 by omega) (show a0 ≤ 255 by omega), Option.bind_some]
  refine Ev.bind (spec_letter a0) ?_
  simp only [if_true]
  exact Ev.now _
theorem pureFnExactCountByte : laws_FnExactCountByte.Pure := by
  intro a0 a1 h0 h1
  refine Ev.rounds ?_
  simp only [laws_FnExactCountByte.f, spec_CountByte.f, impl_CountByte.f]
  by_cases h : (a0.size : Int) > 1048576
  · simp only [if_pos h]
    exact Ev.now _
  · simp only [if_neg h]
    refine Ev.bind (spec_count_l0 a0 a1 h0 a0.size 0 0 (by omega)) ?_
    refine Ev.bind (impl_count_l0 a0 a1 h0 a0.size 0 0 (by omega)) ?_
    simp only [if_true]
    exact Ev.now _
theorem pureFnExactCompareWords : laws_FnExactCompareWords.Pure := by
  intro a0 a1 h0 h1
  have e : impl_CompareWords.f a0 a1 = spec_CompareWords.f a0 a1 := rfl
  have hs : ∃ r, spec_CompareWords.f a0 a1 = some r := by
    unfold spec_CompareWords.f
    repeat' split
    all_goals exact ⟨_, rfl⟩
  obtain ⟨r, hr⟩ := hs
  simp only [laws_FnExactCompareWords.f, e, hr, Option.bind_some, if_true, ite_self]
theorem pureFnExactIsWord : laws_FnExactIsWord.Pure := by
  intro a0 h0
  refine Ev.rounds ?_
  simp only [laws_FnExactIsWord.f]
  by_cases h : (a0.size : Int) > 1048576
  · simp only [if_pos h]
    exact Ev.now _
  · simp only [if_neg h]
    refine Ev.bind (spec_word a0 h0) (Ev.bind (impl_word a0 h0) ?_)
    simp only [bne_self_eq_false, Bool.false_ne_true, if_false]
    exact Ev.now _
theorem pureFnExactSplitByte : laws_FnExactSplitByte.Pure := by
  intro a0 a1 h0 h1
  refine Ev.rounds ?_
  simp only [laws_FnExactSplitByte.f]
  by_cases h : (a0.size : Int) > 1048576
  · simp only [if_pos h]
    exact Ev.now _
  · simp only [if_neg h]
    have hl := (parts_le a0 a1 a0.size 0 0).1
    refine Ev.bind (spec_split a0 a1 (by omega)) ?_
    exact strsTail (a := split a0 a1) (by unfold split; omega) (impl_split a0 a1 (by omega)) (impl_split a0 a1 (by omega)) (by unfold split; omega)
theorem pureFnExactWordsOfLength : laws_FnExactWordsOfLength.Pure := by
  intro a0 h0
  refine Ev.rounds ?_
  simp only [laws_FnExactWordsOfLength.f]
  refine Ev.bind (spec_words a0) ?_
  have hl : (if 0 ≤ a0 ∧ a0 ≤ 5 then wordsN a0.toNat else []).length ≤ 1000 := by
    split
    · rw [len_words]
      have : 3 ^ a0.toNat ≤ 3 ^ 5 := Nat.pow_le_pow_right (by omega) (by omega)
      omega
    · simp
  exact strsTail (by omega) (impl_words a0) (impl_words a0) (by omega)
theorem pureFnExactWordsUpTo : laws_FnExactWordsUpTo.Pure := by
  intro a0 h0
  refine Ev.rounds ?_
  simp only [laws_FnExactWordsUpTo.f]
  refine Ev.bind (spec_upto a0) ?_
  have hl : (if a0 < 0 then [] else upto (min a0 5).toNat).length ≤ 1000 := by
    split
    · simp
    · exact (len_upto _ (by omega)).1
  exact strsTail (by omega) (impl_upto a0) (impl_upto a0) (by omega)
end Go.Proofs.Ytdhgmmgdblnciaa.Pl
