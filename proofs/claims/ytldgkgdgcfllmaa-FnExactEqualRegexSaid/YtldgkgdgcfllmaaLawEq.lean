/- The pure statement of the law on EqualRegex. No condition. -/
import Derived.Test.YtldgkgdgcfllmaaEqT
import Derived.Test.YtldgkgdgcfllmaaTr
import Derived.Test.YtldgkgdgcfllmaaStFnExactEqualRegex
import Derived.Test.YtldgkgdgcfllmaaP2
import Derived.Test.YtldgkgdgcfllmaaP6
import Derived.Test.YtldgkgdgcfllmaaP9
namespace Go.Proofs.Ytldgkgdgcfllmaa.Pl
open Go.RowKit Go.Proofs.Ytldgkgdgcfllmaa Go.Proofs.Ytldgkgdgcfllmaa.P Go.Proofs.YtldgkgdgcfllmaaW.PrintWords Go.Proofs.YtldgkgdgcfllmaaW.PrintLast Go.Proofs.YtldgkgdgcfllmaaW.PrintMore Rk Wk
set_option linter.unusedVariables false
set_option linter.unusedSimpArgs false

theorem sEq_loop (x y : TI) (hl : x.f2.length = y.f2.length) (hn : x.f2.length ≤ 1048576) (ih : ∀ z ∈ x.f2, ∀ v ∈ y.f2, Ev (fun k => spec_EqualRegex.f k z.f0 z.f1 z.f2 v.f0 v.f1 v.f2) (eqT z v)) :
    ∀ (d i : Nat), i + d = x.f2.length → Ev (fun k => spec_EqualRegex.l0 k (i : Int) x.f0 x.f1 x.f2 y.f0 y.f1 y.f2) (eqTs (x.f2.drop i) (y.f2.drop i)) := by
  intro d
  induction d with
  | zero =>
    intro i h
    refine next ?_
    simp only [spec_EqualRegex.l0, if_neg (show ¬ (i : Int) < (x.f2.length : Int) by omega)]
    refine ev_some ?_
    rw [eq_comm, eqTs_true, List.drop_eq_nil_of_le (by omega), List.drop_eq_nil_of_le (by omega)]
  | succ d ihd =>
    intro i h
    have hx : i < x.f2.length := by omega
    have hy : i < y.f2.length := by omega
    refine next ?_
    simp only [spec_EqualRegex.l0, if_pos (show (i : Int) < (x.f2.length : Int) by omega), if_pos (show (0 : Int) ≤ (i : Int) by omega), if_pos (show (i : Int) < (y.f2.length : Int) by omega), rdTI x.f2 i hx, rdTI y.f2 i hy]
    refine Ev.bind (ih _ (List.getElem_mem hx) _ (List.getElem_mem hy)) ?_
    have he : (x.f2.drop i = y.f2.drop i) ↔ (x.f2[i] = y.f2[i] ∧ x.f2.drop (i + 1) = y.f2.drop (i + 1)) := by
      rw [List.drop_eq_getElem_cons hx, List.drop_eq_getElem_cons hy]
      exact List.cons_eq_cons
    cases hq : eqT x.f2[i] y.f2[i] with
    | false =>
      simp only [Bool.false_eq_true, if_false]
      refine ev_some ?_
      rw [eqT_false] at hq
      rw [eq_comm, eqTs_false, he]
      exact fun h => hq h.1
    | true =>
      rw [eqT_true] at hq
      simp only [if_true, up1 (show i < 9223372036854775807 by omega)]
      refine ev_eq (ihd (i + 1) (by omega)) ?_
      rw [Bool.eq_iff_iff, eqTs_true, eqTs_true, he]
      exact ⟨fun h => ⟨hq, h⟩, fun h => h.2⟩
theorem sEq_tree : ∀ x : TI, Thin x → ∀ y : TI, Ev (fun k => spec_EqualRegex.f k x.f0 x.f1 x.f2 y.f0 y.f1 y.f2) (eqT x y) := by
  refine TI.ind fun x ih hx y => ?_
  obtain ⟨_, hn, _, hc⟩ := hx
  have he : x = y ↔ (x.f0 = y.f0 ∧ x.f1 = y.f1 ∧ x.f2 = y.f2) := by
    constructor
    · rintro rfl; exact ⟨rfl, rfl, rfl⟩
    · rintro ⟨h1, h2, h3⟩
      obtain ⟨x0, x1, x2⟩ := x
      obtain ⟨y0, y1, y2⟩ := y
      dsimp only at *
      rw [h1, h2, h3]
  have jt : ¬ x = y → Ev (fun k => spec_EqualRegex.j0 k true x.f0 x.f1 x.f2 y.f0 y.f1 y.f2) (eqT x y) := fun h => by
    refine next ?_
    simp only [spec_EqualRegex.j0, if_true]
    exact ev_some (eqT_false.mpr h).symm
  refine next ?_
  by_cases h1 : x.f0 = y.f0
  · by_cases h2 : x.f1.toList = y.f1.toList
    · simp only [spec_EqualRegex.f, if_pos h1, if_pos h2]
      by_cases h3 : x.f2.length = y.f2.length
      · simp only [show ((x.f2.length : Int) != (y.f2.length : Int)) = false from by rw [bne_eq_false_iff_eq]; omega]
        refine next ?_
        simp only [spec_EqualRegex.j0, Bool.false_eq_true, if_false]
        refine ev_eq (sEq_loop x y h3 hn (fun z hz v _ => ih z hz (hc z hz) v) x.f2.length 0 (by omega)) ?_
        rw [Bool.eq_iff_iff, eqTs_true, eqT_true, he, List.drop_zero, List.drop_zero]
        exact ⟨fun h => ⟨h1, toList_iff.mp h2, h⟩, fun h => h.2.2⟩
      · simp only [show ((x.f2.length : Int) != (y.f2.length : Int)) = true from by rw [bne_iff_ne]; omega]
        exact jt (fun h => h3 (by rw [h]))
    · simp only [spec_EqualRegex.f, if_pos h1, if_neg h2]
      exact jt (fun h => h2 (by rw [h]))
  · simp only [spec_EqualRegex.f, if_neg h1]
    exact jt (fun h => h1 (by rw [h]))
theorem pureFnExactEqualRegex : St.FnExactEqualRegex := by
  intro a s l b t m wa ws wl wb wt' wm
  have hx : OkT ⟨a, s, l⟩ := OkT.mk _ wa ws wl.1 wl.2
  have hy : OkT ⟨b, t, m⟩ := OkT.mk _ wb wt' wm.1 wm.2
  refine Ev.rounds ?_
  simp only [laws_FnExactEqualRegex.f]
  refine Ev.bind (sz_tree ⟨a, s, l⟩ hx 1048576 (by omega)) ?_
  unfold lft
  by_cases h : wt ⟨a, s, l⟩ ≤ 1048576
  · simp only [if_pos h, if_neg (show ¬ ((1048576 - wt ⟨a, s, l⟩ : Nat) : Int) < 0 by omega)]
    refine Ev.bind (sz_tree ⟨b, t, m⟩ hy (1048576 - wt ⟨a, s, l⟩) (by omega)) ?_
    unfold lft
    by_cases h2 : wt ⟨b, t, m⟩ ≤ 1048576 - wt ⟨a, s, l⟩
    · simp only [if_pos h2, if_neg (show ¬ ((1048576 - wt ⟨a, s, l⟩ - wt ⟨b, t, m⟩ : Nat) : Int) < 0 by omega)]
      have ht := thin_cv _ h
      have hu := thin_cv ⟨b, t, m⟩ (by omega)
      have T := to_tree ⟨a, s, l⟩ h
      have U := to_tree ⟨b, t, m⟩ (by omega)
      refine Ev.bind T (Ev.bind U (Ev.bind (sEq_tree _ ht _) (Ev.bind T (Ev.bind U ?_))))
      have E : ∀ z : TI, (⟨z.f0, z.f1, z.f2⟩ : TI) = z := fun z => by cases z; rfl
      simp only [impl_EqualRegex.f, Option.bind_some, E, bne_self_eq_false, Bool.false_eq_true, if_false]
      refine Ev.bind T (Ev.bind (eq_tree _ ht) ?_)
      simp only [if_true]
      refine Ev.bind U (Ev.bind (eq_tree _ hu) ?_)
      simp only [if_true]
      exact Ev.now _
    · simp only [if_neg h2, if_pos (show (-1 : Int) < 0 by omega)]
      exact Ev.now _
  · simp only [if_neg h, if_pos (show (-1 : Int) < 0 by omega)]
    exact Ev.now _
end Go.Proofs.Ytldgkgdgcfllmaa.Pl
