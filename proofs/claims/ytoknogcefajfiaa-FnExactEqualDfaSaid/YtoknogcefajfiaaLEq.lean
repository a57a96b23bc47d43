/- The pure statement of the law on EqualDfa. No condition. -/
import Derived.Test.YtoknogcefajfiaaDf
import Derived.Test.YtoknogcefajfiaaEqD
import Derived.Test.YtoknogcefajfiaaStFnExactEqualDfa
import Derived.Test.YtoknogcefajfiaaP5
import Derived.Test.YtoknogcefajfiaaP7
namespace Go.Proofs.Ytoknogcefajfiaa.Pl
open Go.RowKit Go.Proofs.Ytoknogcefajfiaa.P Go.Proofs.YtoknogcefajfiaaW.PrintWords Go.Proofs.YtoknogcefajfiaaW.PrintLast Go.Proofs.YtoknogcefajfiaaW.PrintMore Wk Rk
set_option linter.unusedVariables false
set_option linter.unusedSimpArgs false

theorem spec_ints_l0 (a b : List Int) (hl : a.length = b.length) (hn : a.length ≤ 1048576) : ∀ d i : Nat, i + d = a.length → Ev (fun k => spec_l5Ints.l0 k a b i) (decide (a.drop i = b.drop i)) := by
  intro d
  induction d with
  | zero =>
    intro i h
    refine next ?_
    simp only [spec_l5Ints.l0, if_neg (show ¬ (i : Int) < (a.length : Int) by omega)]
    exact ev_some (by rw [List.drop_eq_nil_of_le (by omega), List.drop_eq_nil_of_le (by omega)]; simp)
  | succ d ih =>
    intro i h
    refine next ?_
    have ha : i < a.length := by omega
    have hb : i < b.length := by omega
    have e : (a.drop i = b.drop i) ↔ (a[i] = b[i] ∧ a.drop (i + 1) = b.drop (i + 1)) := by
      rw [List.drop_eq_getElem_cons ha, List.drop_eq_getElem_cons hb]
      exact List.cons_eq_cons
    simp only [spec_l5Ints.l0, if_pos (show (i : Int) < (a.length : Int) by omega), if_pos (show (0 : Int) ≤ i by omega), if_pos (show (i : Int) < (b.length : Int) by omega), rd_get a i ha, rd_get b i hb]
    by_cases he : a[i] = b[i]
    · simp only [if_pos he, up1 (show i < 9223372036854775807 by omega)]
      exact ev_eq (ih (i + 1) (by omega)) (decide_eq_decide.mpr (by rw [e]; exact ⟨fun x => ⟨he, x⟩, fun x => x.2⟩))
    · simp only [if_neg he]
      exact ev_some (by rw [eq_comm, decide_eq_false_iff_not, e]; exact fun x => he x.1)
theorem spec_ints (a b : List Int) (hn : a.length ≤ 1048576) : Ev (fun k => spec_l5Ints.f k a b) (decide (a = b)) := by
  simp only [spec_l5Ints.f]
  by_cases h : a.length = b.length
  · simp only [if_pos (show (a.length : Int) = (b.length : Int) by omega)]
    exact spec_ints_l0 a b h hn a.length 0 (by omega)
  · simp only [if_neg (show ¬ (a.length : Int) = (b.length : Int) by omega)]
    exact ev_some (by simp; intro e; exact h (by rw [e]))
theorem spec_equal_l1 (a : List Bool) (n : List (List Int)) (b : List Bool) (m : List (List Int)) (hl : n.length = m.length) (hn : n.length ≤ 1048576) (hx : ∀ x ∈ n, x.length ≤ 1048576) : ∀ d i : Nat, i + d = n.length → Ev (fun k => spec_EqualDfa.l1 k i a n b m) (decide (n.drop i = m.drop i)) := by
  intro d
  induction d with
  | zero =>
    intro i h
    refine next ?_
    simp only [spec_EqualDfa.l1, if_neg (show ¬ (i : Int) < (n.length : Int) by omega)]
    exact ev_some (by rw [List.drop_eq_nil_of_le (by omega), List.drop_eq_nil_of_le (by omega)]; simp)
  | succ d ih =>
    intro i h
    refine next ?_
    have ha : i < n.length := by omega
    have hb : i < m.length := by omega
    have e : (n.drop i = m.drop i) ↔ (n[i] = m[i] ∧ n.drop (i + 1) = m.drop (i + 1)) := by
      rw [List.drop_eq_getElem_cons ha, List.drop_eq_getElem_cons hb]
      exact List.cons_eq_cons
    simp only [spec_EqualDfa.l1, if_pos (show (i : Int) < (n.length : Int) by omega), if_pos (show (0 : Int) ≤ i by omega), if_pos (show (i : Int) < (m.length : Int) by omega), rows_get n i ha, rows_get m i hb]
    refine Ev.bind (spec_ints n[i] m[i] (hx _ (List.getElem_mem _))) ?_
    by_cases he : n[i] = m[i]
    · simp only [decide_eq_true he, if_true, up1 (show i < 9223372036854775807 by omega)]
      exact ev_eq (ih (i + 1) (by omega)) (decide_eq_decide.mpr (by rw [e]; exact ⟨fun x => ⟨he, x⟩, fun x => x.2⟩))
    · simp only [decide_eq_false he, Bool.false_ne_true, if_false]
      exact ev_some (by rw [eq_comm, decide_eq_false_iff_not, e]; exact fun x => he x.1)
theorem spec_equal_l0 (a : List Bool) (n : List (List Int)) (b : List Bool) (m : List (List Int)) (hab : a.length = b.length) (ha : a.length ≤ 1048576) (hl : n.length = m.length) (hn : n.length ≤ 1048576) (hx : ∀ x ∈ n, x.length ≤ 1048576) : ∀ d i : Nat, i + d = a.length → Ev (fun k => spec_EqualDfa.l0 k i a n b m) (decide (a.drop i = b.drop i) && decide (n = m)) := by
  intro d
  induction d with
  | zero =>
    intro i h
    refine next ?_
    simp only [spec_EqualDfa.l0, if_neg (show ¬ (i : Int) < (a.length : Int) by omega)]
    rw [List.drop_eq_nil_of_le (by omega), List.drop_eq_nil_of_le (by omega)]
    simp only [decide_true, Bool.true_and]
    exact spec_equal_l1 a n b m hl hn hx n.length 0 (by omega)
  | succ d ih =>
    intro i h
    refine next ?_
    have h1 : i < a.length := by omega
    have h2 : i < b.length := by omega
    have e : (a.drop i = b.drop i) ↔ (a[i] = b[i] ∧ a.drop (i + 1) = b.drop (i + 1)) := by
      rw [List.drop_eq_getElem_cons h1, List.drop_eq_getElem_cons h2]
      exact List.cons_eq_cons
    simp only [spec_EqualDfa.l0, if_pos (show (i : Int) < (a.length : Int) by omega), if_pos (show (0 : Int) ≤ i by omega), if_pos (show (i : Int) < (b.length : Int) by omega), rdOf_get _ a i h1, rdOf_get _ b i h2]
    by_cases he : a[i] = b[i]
    · simp only [show (a[i] != b[i]) = false from bne_eq_false_iff_eq.mpr he, Bool.false_ne_true, if_false, up1 (show i < 9223372036854775807 by omega)]
      refine ev_eq (ih (i + 1) (by omega)) ?_
      rw [decide_eq_decide.mpr (show (a.drop (i + 1) = b.drop (i + 1)) ↔ (a.drop i = b.drop i) by rw [e]; exact ⟨fun x => ⟨he, x⟩, fun x => x.2⟩)]
    · simp only [show (a[i] != b[i]) = true from bne_iff_ne.mpr he, if_true]
      exact ev_some (by rw [decide_eq_false (show ¬ (a.drop i = b.drop i) by rw [e]; exact fun x => he x.1), Bool.false_and])
theorem spec_equal (a : List Bool) (n : List (List Int)) (b : List Bool) (m : List (List Int)) (ha : a.length ≤ 1048576) (hn : n.length ≤ 1048576) (hx : ∀ x ∈ n, x.length ≤ 1048576) : Ev (fun k => spec_EqualDfa.f k a n b m) (decide (a = b) && decide (n = m)) := by
  have jt : Ev (fun k => spec_EqualDfa.j0 k true a n b m) false := by
    refine next ?_
    simp only [spec_EqualDfa.j0, if_true]
    exact Ev.now _
  simp only [spec_EqualDfa.f]
  by_cases h1 : a.length = b.length
  · simp only [if_pos (show (a.length : Int) = (b.length : Int) by omega)]
    by_cases h2 : n.length = m.length
    · have e2 : ((n.length : Int) != (m.length : Int)) = false := by rw [bne_eq_false_iff_eq]; omega
      simp only [e2]
      refine next ?_
      simp only [spec_EqualDfa.j0, Bool.false_ne_true, if_false]
      exact spec_equal_l0 a n b m h1 ha h2 hn hx a.length 0 (by omega)
    · have e2 : ((n.length : Int) != (m.length : Int)) = true := by rw [bne_iff_ne]; omega
      simp only [e2]
      rw [decide_eq_false (show ¬ n = m from fun e => h2 (by rw [e])), Bool.and_false]
      exact jt
  · simp only [if_neg (show ¬ (a.length : Int) = (b.length : Int) by omega)]
    rw [decide_eq_false (show ¬ a = b from fun e => h1 (by rw [e])), Bool.false_and]
    exact jt
theorem pureFnExactEqualDfa : St.FnExactEqualDfa := by
  intro a n b m wa wn wb wm
  refine Ev.rounds ?_
  simp only [laws_FnExactEqualDfa.f]
  obtain ⟨r, hr, _, hle, hsz⟩ := szDfa a n wa.1 wn.1 (lens wn) 1048576 (by omega) (by omega)
  refine Ev.bind hr ?_
  by_cases h : r < 0
  · simp only [if_pos h]
    exact Ev.now _
  · obtain ⟨s1, s2, s3⟩ := hsz (by omega)
    simp only [if_neg h]
    obtain ⟨r2, hr2, _, _, hsz2⟩ := szDfa b m wb.1 wm.1 (lens wm) r (by omega) (by omega)
    refine Ev.bind hr2 ?_
    by_cases h : r2 < 0
    · simp only [if_pos h]
      exact Ev.now _
    · obtain ⟨t1, t2, t3⟩ := hsz2 (by omega)
      simp only [if_neg h]
      refine Ev.bind (toDfa a n s1 s2 s3) (Ev.bind (toDfa b m t1 t2 t3) (Ev.bind (spec_equal a n b m s1 s2 s3) (Ev.bind (toDfa a n s1 s2 s3) (Ev.bind (toDfa b m t1 t2 t3) ?_))))
      simp only [impl_EqualDfa.f, Option.bind_some, bne_self_eq_false, Bool.false_ne_true, if_false]
      refine Ev.bind (toDfa a n s1 s2 s3) (Ev.bind (sameDfa a n a n s1 s2 s3) ?_)
      simp only [decide_true, Bool.and_self, if_true]
      refine Ev.bind (toDfa b m t1 t2 t3) (Ev.bind (sameDfa b m b m t1 t2 t3) ?_)
      simp only [decide_true, Bool.and_self, if_true]
      exact Ev.now _
end Go.Proofs.Ytoknogcefajfiaa.Pl
