/- The pure statement of the law on ShortestWord. No condition. -/
import Derived.Test.YtoknogcefajfiaaDf
import Derived.Test.YtoknogcefajfiaaL7
import Derived.Test.YtoknogcefajfiaaStFnExactShortestWord
import Derived.Test.YtoknogcefajfiaaP13
import Derived.Test.YtoknogcefajfiaaP14
namespace Go.Proofs.Ytoknogcefajfiaa.Pl
open Go.RowKit Go.Proofs.Ytoknogcefajfiaa Go.Proofs.Ytoknogcefajfiaa.P Go.Proofs.YtoknogcefajfiaaW.PrintWords Go.Proofs.YtoknogcefajfiaaW.PrintLast Go.Proofs.YtoknogcefajfiaaW.PrintMore Wk Rk Bf
set_option linter.unusedVariables false
set_option linter.unusedSimpArgs false

theorem spec_shortest (a : List Bool) (n : List (List Int)) (s1 : a.length ≤ 1048576) (s2 : n.length ≤ 1048576) : Ev (fun k => spec_ShortestWord.f k a n) (shW a n) := by
  unfold shW
  simp only [spec_ShortestWord.f]
  refine Ev.bind (spec_valid a n s1 s2) ?_
  by_cases hv : validD a n = true
  · simp only [hv, if_true]
    obtain ⟨v1, v2, v3, v4⟩ := validD_facts hv
    refine Ev.bind (ev_eq (spec_first a a n a.length (by omega) v3 rfl v4 v1) (bfs_more (dom := fun x => 0 ≤ x ∧ x < (a.length : Int)) (N := a.length) (fun x j hx hj => (nx_row a n a.length (by omega) v3 rfl v4 hx).2.2 j hj) _ 42 _ 0 (fit0 ⟨by omega, by omega⟩ (fun s hs ha => card_range a.length s hs ha)) (by simp) (by omega) (by omega))) ?_
    exact Ev.now _
  · simp only [hv, if_false]
    exact Ev.now _
theorem pureFnExactShortestWord : St.FnExactShortestWord := by
  intro a n wa wn
  refine Ev.rounds ?_
  simp only [laws_FnExactShortestWord.f]
  obtain ⟨r, hr, _, _, hsz⟩ := szDfa a n wa.1 wn.1 (lens wn) 1048576 (by omega) (by omega)
  refine Ev.bind hr ?_
  by_cases h : r < 0
  · simp only [if_pos h]
    exact Ev.now _
  · obtain ⟨s1, s2, s3⟩ := hsz (by omega)
    simp only [if_neg h]
    refine Ev.bind (toDfa a n s1 s2 s3) (Ev.bind (spec_shortest a n s1 s2) (Ev.bind (toDfa a n s1 s2 s3) ?_))
    simp only [impl_ShortestWord.f, Option.bind_some, bne_self_eq_false, if_true]
    refine next ?_
    simp only [laws_FnExactShortestWord.j0, Bool.false_ne_true, if_false]
    refine Ev.bind (toDfa a n s1 s2 s3) (Ev.bind (sameDfa a n a n s1 s2 s3) ?_)
    simp only [decide_true, Bool.and_self, if_true]
    exact Ev.now _
end Go.Proofs.Ytoknogcefajfiaa.Pl
