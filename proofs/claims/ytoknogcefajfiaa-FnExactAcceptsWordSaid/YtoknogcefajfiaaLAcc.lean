/- The pure statement of the law on AcceptsWord. No condition. -/
import Derived.Test.YtoknogcefajfiaaDfR
import Derived.Test.YtoknogcefajfiaaStFnExactAcceptsWord
import Derived.Test.YtoknogcefajfiaaP9
namespace Go.Proofs.Ytoknogcefajfiaa.Pl
open Go.RowKit Go.Proofs.Ytoknogcefajfiaa.P Go.Proofs.YtoknogcefajfiaaW.PrintWords Go.Proofs.YtoknogcefajfiaaW.PrintLast Go.Proofs.YtoknogcefajfiaaW.PrintMore Wk Rk
set_option linter.unusedVariables false
set_option linter.unusedSimpArgs false

theorem pureFnExactAcceptsWord : St.FnExactAcceptsWord := by
  intro a n s wa wn ws
  refine Ev.rounds ?_
  simp only [laws_FnExactAcceptsWord.f]
  by_cases h : (s.size : Int) > 1048576
  · simp only [if_pos h]
    exact Ev.now _
  · simp only [if_neg h]
    obtain ⟨r, hr, _, _, hsz⟩ := szDfa a n wa.1 wn.1 (lens wn) 1048576 (by omega) (by omega)
    refine Ev.bind hr ?_
    by_cases h : r < 0
    · simp only [if_pos h]
      exact Ev.now _
    · obtain ⟨s1, s2, s3⟩ := hsz (by omega)
      simp only [if_neg h]
      refine Ev.bind (toDfa a n s1 s2 s3) (Ev.bind (spec_acc a n s1 s2 s ws) (Ev.bind (toDfa a n s1 s2 s3) (Ev.bind (impl_acc a n s1 s ws) ?_)))
      simp only [bne_self_eq_false, Bool.false_ne_true, if_false]
      refine Ev.bind (toDfa a n s1 s2 s3) (Ev.bind (sameDfa a n a n s1 s2 s3) ?_)
      simp only [decide_true, Bool.and_self, if_true]
      exact Ev.now _
end Go.Proofs.Ytoknogcefajfiaa.Pl
