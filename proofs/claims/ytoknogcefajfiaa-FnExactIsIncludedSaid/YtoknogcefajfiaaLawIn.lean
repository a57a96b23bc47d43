/- The pure statement of the law on IsIncluded. No condition. -/
import Derived.Test.YtoknogcefajfiaaDf
import Derived.Test.YtoknogcefajfiaaLDw
import Derived.Test.YtoknogcefajfiaaStFnExactIsIncluded
import Derived.Test.YtoknogcefajfiaaP31
import Derived.Test.YtoknogcefajfiaaP32
import Derived.Test.YtoknogcefajfiaaP33
namespace Go.Proofs.Ytoknogcefajfiaa.Pl
open Go.RowKit Go.Proofs.Ytoknogcefajfiaa Go.Proofs.Ytoknogcefajfiaa.P Go.Proofs.YtoknogcefajfiaaW.PrintWords Go.Proofs.YtoknogcefajfiaaW.PrintLast Go.Proofs.YtoknogcefajfiaaW.PrintMore Wk Rk Bf
set_option linter.unusedVariables false
set_option linter.unusedSimpArgs false

theorem spec_included (a : List Bool) (n : List (List Int)) (b : List Bool) (m : List (List Int)) (s1 : a.length ≤ 1048576) (s2 : n.length ≤ 1048576) (t1 : b.length ≤ 1048576) (t2 : m.length ≤ 1048576) : Ev (fun k => spec_IsIncluded.f k a n b m) (inR a n b m) := by
  unfold inR fpR
  simp only [spec_IsIncluded.f]
  refine Ev.bind (spec_valid a n s1 s2) ?_
  by_cases hv : validD a n = true
  · simp only [hv, if_true, true_and]
    refine Ev.bind (spec_valid b m t1 t2) ?_
    refine next ?_
    by_cases hw : validD b m = true
    · simp only [hw, if_true, spec_IsIncluded.j0, Bool.not_true, Bool.false_eq_true, if_false]
      refine Ev.bind (spec_pairs a b n m false (validD_facts hv) (validD_facts hw)) ?_
      refine Ev.bind (pairs_first a b n m false (validD_facts hv) (validD_facts hw) (fun p q => p && !q) (by decide)) ?_
      exact ev_some (by simp)
    · simp only [Bool.not_eq_true] at hw
      simp only [hw, if_false, spec_IsIncluded.j0, Bool.not_false, if_true, Bool.false_eq_true]
      exact ev_some (by simp)
  · simp only [Bool.not_eq_true] at hv
    simp only [hv, if_false, false_and, Bool.false_eq_true]
    refine next ?_
    simp only [spec_IsIncluded.j0, if_true]
    exact ev_some (by simp)
theorem pureFnExactIsIncluded : St.FnExactIsIncluded := by
  intro a n b m wa wn wb wm
  refine Ev.rounds ?_
  simp only [laws_FnExactIsIncluded.f]
  obtain ⟨r, hr, _, hle, hsz⟩ := szDfa a n wa.1 wn.1 (lens wn) 1048576 (by omega) (by omega)
  refine Ev.bind hr ?_
  by_cases h : r < 0
  · simp only [if_pos h]
    exact Ev.now _
  · obtain ⟨s1, s2, s3⟩ := hsz (by omega)
    simp only [if_neg h]
    obtain ⟨r2, hr2, _, _, hsz2⟩ := szDfa b m wb.1 wm.1 (lens wm) r (by omega) (by omega)
    refine Ev.bind hr2 ?_
    by_cases h : r2 < 0
    · simp only [if_pos h]
      exact Ev.now _
    · obtain ⟨t1, t2, t3⟩ := hsz2 (by omega)
      simp only [if_neg h]
      refine Ev.bind (toDfa a n s1 s2 s3) (Ev.bind (toDfa b m t1 t2 t3) (Ev.bind (spec_included a n b m s1 s2 t1 t2) (Ev.bind (toDfa a n s1 s2 s3) (Ev.bind (toDfa b m t1 t2 t3) ?_))))
      simp only [impl_IsIncluded.f, Option.bind_some, bne_self_eq_false, Bool.false_ne_true, if_false]
      refine Ev.bind (toDfa a n s1 s2 s3) (Ev.bind (sameDfa a n a n s1 s2 s3) ?_)
      simp only [decide_true, Bool.and_self, if_true]
      refine Ev.bind (toDfa b m t1 t2 t3) (Ev.bind (sameDfa b m b m t1 t2 t3) ?_)
      simp only [decide_true, Bool.and_self, if_true]
      exact Ev.now _
end Go.Proofs.Ytoknogcefajfiaa.Pl
