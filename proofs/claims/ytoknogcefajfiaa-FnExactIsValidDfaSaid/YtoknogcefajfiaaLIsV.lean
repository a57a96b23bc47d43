/- The pure statement of the law on IsValidDfa. No condition. -/
import Derived.Test.YtoknogcefajfiaaDf
import Derived.Test.YtoknogcefajfiaaStFnExactIsValidDfa
import Derived.Test.YtoknogcefajfiaaP4
namespace Go.Proofs.Ytoknogcefajfiaa.Pl
open Go.RowKit Go.Proofs.Ytoknogcefajfiaa.P Go.Proofs.YtoknogcefajfiaaW.PrintWords Go.Proofs.YtoknogcefajfiaaW.PrintLast Go.Proofs.YtoknogcefajfiaaW.PrintMore Wk Rk
set_option linter.unusedVariables false
set_option linter.unusedSimpArgs false

theorem pureFnExactIsValidDfa : St.FnExactIsValidDfa := by
  intro a n wa wn
  refine Ev.rounds ?_
  simp only [laws_FnExactIsValidDfa.f]
  obtain ⟨r, hr, _, _, hsz⟩ := szDfa a n wa.1 wn.1 (lens wn) 1048576 (by omega) (by omega)
  refine Ev.bind hr ?_
  by_cases h : r < 0
  · simp only [if_pos h]
    exact Ev.now _
  · obtain ⟨s1, s2, s3⟩ := hsz (by omega)
    simp only [if_neg h]
    refine Ev.bind (toDfa a n s1 s2 s3) (Ev.bind (spec_valid a n s1 s2) (Ev.bind (toDfa a n s1 s2 s3) ?_))
    simp only [impl_IsValidDfa.f, Option.bind_some, bne_self_eq_false, Bool.false_ne_true, if_false]
    refine Ev.bind (toDfa a n s1 s2 s3) (Ev.bind (sameDfa a n a n s1 s2 s3) ?_)
    simp only [decide_true, Bool.and_self, if_true]
    exact Ev.now _
end Go.Proofs.Ytoknogcefajfiaa.Pl
