/- What spec.FormatRegex and impl.FormatRegex compute. No condition. -/
import Derived.Test.YtldgkgdgcfllmaaVd
import Derived.Test.YtldgkgdgcfllmaaP0
import Derived.Test.YtldgkgdgcfllmaaP13
import Derived.Test.YtldgkgdgcfllmaaP14
import Derived.Test.YtldgkgdgcfllmaaP15
import Derived.Test.YtldgkgdgcfllmaaP16
namespace Go.Proofs.Ytldgkgdgcfllmaa.Pl
open Go.RowKit Go.Proofs.Ytldgkgdgcfllmaa Go.Proofs.Ytldgkgdgcfllmaa.P Go.Proofs.Ytldgkgdgcfllmaa.Rk Go.Proofs.YtldgkgdgcfllmaaW.PrintWords Go.Proofs.YtldgkgdgcfllmaaW.PrintLast Go.Proofs.YtldgkgdgcfllmaaW.PrintMore
set_option linter.unusedVariables false
set_option linter.unusedSimpArgs false

def sgn (a : Int) : ByteArray := if a = 6 then ⟨#[124]⟩ else if a = 7 then ⟨#[38]⟩ else ⟨#[]⟩
theorem sgn_size (a : Int) : (sgn a).size ≤ 1 := by
  unfold sgn
  split
  · decide
  · split <;> decide
mutual
/-- The text of a tree. -/
def txt : TI → ByteArray
  | ⟨a, s, l⟩ => if a = 1 then ⟨#[48]⟩ else if a = 2 then ⟨#[49]⟩ else if a = 3 then s else if a = 4 then ⟨#[46]⟩ else if a = 8 then (⟨#[42]⟩ : ByteArray) ++ (txts l).getD 0 ⟨#[]⟩ else if a = 9 then (⟨#[33]⟩ : ByteArray) ++ (txts l).getD 0 ⟨#[]⟩
    else ((((⟨#[40]⟩ : ByteArray) ++ (txts l).getD 0 ⟨#[]⟩) ++ sgn a) ++ (txts l).getD 1 ⟨#[]⟩) ++ (⟨#[41]⟩ : ByteArray)
def txts : List TI → List ByteArray
  | [] => []
  | x :: l => txt x :: txts l
end
theorem al_cases {x : TI} (h : al x = true) : ((1 ≤ x.f0 ∧ x.f0 ≤ 4 ∧ x.f2 = []) ∨ ((x.f0 = 8 ∨ x.f0 = 9) ∧ ∃ u, x.f2 = [u] ∧ al u = true) ∨ (5 ≤ x.f0 ∧ x.f0 ≤ 7 ∧ ∃ u v, x.f2 = [u, v] ∧ al u = true ∧ al v = true)) ∧ (x.f0 = 3 → x.f1.size = 1 ∧ word x.f1 = true) ∧ (x.f0 ≠ 3 → x.f1 = (⟨#[]⟩ : ByteArray)) := by
  obtain ⟨a, s, l⟩ := x
  rw [al_eq, Bool.and_eq_true] at h
  obtain ⟨h1, h2⟩ := h
  unfold shp at h2
  rw [Bool.and_eq_true, decide_eq_true_eq] at h2
  obtain ⟨h2, h3⟩ := h2
  dsimp only at *
  refine ⟨?_, fun h => ?_, fun h => ?_⟩
  · unfold argsN at h2
    match l, h1, h2 with
    | [], _, h2 =>
      left
      rw [List.length_nil] at h2
      repeat' split at h2
      all_goals (first | omega | exact ⟨by omega, by omega, rfl⟩)
    | [u], h1, h2 =>
      right; left
      rw [als, als, Bool.and_true] at h1
      simp only [List.length_cons, List.length_nil] at h2
      repeat' split at h2
      all_goals (first | omega | exact ⟨by omega, u, rfl, h1⟩)
    | [u, v], h1, h2 =>
      right; right
      rw [als, als, als, Bool.and_true, Bool.and_eq_true] at h1
      simp only [List.length_cons, List.length_nil] at h2
      repeat' split at h2
      all_goals (first | omega | exact ⟨by omega, by omega, u, v, rfl, h1.1, h1.2⟩)
    | u :: v :: z :: m, h1, h2 =>
      simp only [List.length_cons] at h2
      repeat' split at h2
      all_goals omega
  · rw [if_pos h] at h3
    simpa using h3
  · rw [if_neg h] at h3
    simpa using h3
theorem txt_size : ∀ x : TI, al x = true → (txt x).size ≤ 3 * nd x := by
  refine TI.ind fun x ih hx => ?_
  obtain ⟨h1, h3, _⟩ := al_cases hx
  obtain ⟨a, s, l⟩ := x
  rw [txt, nd]
  dsimp only at *
  rcases h1 with ⟨q1, q2, rfl⟩ | ⟨q1, u, rfl, hu⟩ | ⟨q1, q2, u, v, rfl, hu, hv⟩
  · rw [nds]
    by_cases e1 : a = 1
    · rw [if_pos e1]; exact (by decide : (1 : Nat) ≤ 3)
    · rw [if_neg e1]
      by_cases e2 : a = 2
      · rw [if_pos e2]; exact (by decide : (1 : Nat) ≤ 3)
      · rw [if_neg e2]
        by_cases e3 : a = 3
        · rw [if_pos e3]; have := h3 e3; omega
        · rw [if_neg e3, if_pos (show a = 4 by omega)]; exact (by decide : (1 : Nat) ≤ 3)
  · have iu := ih u (by simp) hu
    rw [if_neg (by omega), if_neg (by omega), if_neg (by omega), if_neg (by omega), nds, nds]
    simp only [txts, List.getD_cons_zero]
    split
    · rw [ByteArray.size_append]; have : (⟨#[42]⟩ : ByteArray).size = 1 := rfl; omega
    · rw [if_pos (by omega), ByteArray.size_append]; have : (⟨#[33]⟩ : ByteArray).size = 1 := rfl; omega
  · have iu := ih u (by simp) hu
    have iv := ih v (by simp) hv
    rw [if_neg (by omega), if_neg (by omega), if_neg (by omega), if_neg (by omega), if_neg (by omega), if_neg (by omega), nds, nds, nds]
    simp only [txts, List.getD_cons_zero, List.getD_cons_succ, ByteArray.size_append]
    have e1 : (⟨#[40]⟩ : ByteArray).size = 1 := rfl
    have e2 : (⟨#[41]⟩ : ByteArray).size = 1 := rfl
    have e3 : (sgn a).size ≤ 1 := sgn_size a
    omega
theorem spec_text : ∀ x : TI, al x = true → nd x ≤ 2000000 → Ev (fun k => spec_l3Text.f k x.f0 x.f1 x.f2) (txt x) := by
  refine TI.ind fun x ih hx hn => ?_
  obtain ⟨h1, h3, _⟩ := al_cases hx
  obtain ⟨a, s, l⟩ := x
  rw [nd] at hn
  rw [txt]
  dsimp only at *
  refine next ?_
  rcases h1 with ⟨q1, q2, rfl⟩ | ⟨q1, u, rfl, hu⟩ | ⟨q1, q2, u, v, rfl, hu, hv⟩
  · by_cases e1 : a = 1
    · simp only [spec_l3Text.f, if_pos e1]; exact Ev.now _
    · by_cases e2 : a = 2
      · simp only [spec_l3Text.f, if_neg e1, if_pos e2]; exact Ev.now _
      · by_cases e3 : a = 3
        · simp only [spec_l3Text.f, if_neg e1, if_neg e2, if_pos e3]; exact Ev.now _
        · have e4 : a = 4 := by omega
          simp only [spec_l3Text.f, if_neg e1, if_neg e2, if_neg e3, if_pos e4]; exact Ev.now _
  · rw [nds, nds] at hn
    have iu := ih u (by simp) hu (by omega)
    have su := txt_size u hu
    have r0 : rd_T29 [u] 0 = u := rfl
    simp only [spec_l3Text.f, if_neg (show ¬ a = 1 by omega), if_neg (show ¬ a = 2 by omega), if_neg (show ¬ a = 3 by omega), if_neg (show ¬ a = 4 by omega), txts, List.getD_cons_zero]
    by_cases e8 : a = 8
    · simp only [if_pos e8, if_pos (show (0 : Int) < (([u] : List TI).length : Int) by simp), r0]
      refine Ev.bind iu ?_
      simp only [if_pos (show 1 + (txt u).size ≤ 9223372036854775807 by omega)]
      exact Ev.now _
    · simp only [if_neg e8, if_pos (show a = 9 by omega), if_pos (show (0 : Int) < (([u] : List TI).length : Int) by simp), r0]
      refine Ev.bind iu ?_
      simp only [if_pos (show 1 + (txt u).size ≤ 9223372036854775807 by omega)]
      exact Ev.now _
  · rw [nds, nds, nds] at hn
    have iu := ih u (by simp) hu (by omega)
    have iv := ih v (by simp) hv (by omega)
    have su := txt_size u hu
    have sv := txt_size v hv
    have r0 : rd_T29 [u, v] 0 = u := rfl
    have r1 : rd_T29 [u, v] 1 = v := rfl
    have ew : wrap64 (a - 5) = a - 5 := w64 (by omega) (by omega)
    have es : rdOf ByteArray.empty ([(⟨#[]⟩ : ByteArray), (⟨#[124]⟩ : ByteArray), (⟨#[38]⟩ : ByteArray)] : List ByteArray) (a - 5) = sgn a := by
      rcases (by omega : a = 5 ∨ a = 6 ∨ a = 7) with rfl | rfl | rfl <;> rfl
    have e1 : (⟨#[40]⟩ : ByteArray).size = 1 := rfl
    have e3 : (sgn a).size ≤ 1 := sgn_size a
    simp only [spec_l3Text.f, if_neg (show ¬ a = 1 by omega), if_neg (show ¬ a = 2 by omega), if_neg (show ¬ a = 3 by omega), if_neg (show ¬ a = 4 by omega), if_neg (show ¬ a = 8 by omega), if_neg (show ¬ a = 9 by omega), txts, List.getD_cons_zero, List.getD_cons_succ, Option.bind_some, ew, es, if_pos (show (0 : Int) ≤ a - 5 by omega), if_pos (show a - 5 < (([(⟨#[]⟩ : ByteArray), (⟨#[124]⟩ : ByteArray), (⟨#[38]⟩ : ByteArray)] : List ByteArray).length : Int) by simp; omega), if_pos (show (0 : Int) < (([u, v] : List TI).length : Int) by simp), r0, r1]
    refine Ev.bind iu ?_
    simp only [ByteArray.size_append, e1, if_pos (show 1 + (txt u).size ≤ 9223372036854775807 by omega), if_pos (show 1 + (txt u).size + (sgn a).size ≤ 9223372036854775807 by omega), if_pos (show (1 : Int) < (([u, v] : List TI).length : Int) by simp)]
    refine Ev.bind iv ?_
    simp only [if_pos (show 1 + (txt u).size + (sgn a).size + (txt v).size ≤ 9223372036854775807 by omega), if_pos (show 1 + (txt u).size + (sgn a).size + (txt v).size + 1 ≤ 9223372036854775807 by omega)]
    exact Ev.now _
theorem impl_text : ∀ x : TI, al x = true → nd x ≤ 2000000 → Ev (fun k => impl_regexText.f k x.f0 x.f1 x.f2) (txt x) := by
  refine TI.ind fun x ih hx hn => ?_
  obtain ⟨h1, h3, _⟩ := al_cases hx
  obtain ⟨a, s, l⟩ := x
  rw [nd] at hn
  rw [txt]
  dsimp only at *
  refine next ?_
  rcases h1 with ⟨q1, q2, rfl⟩ | ⟨q1, u, rfl, hu⟩ | ⟨q1, q2, u, v, rfl, hu, hv⟩
  · by_cases e1 : a = 1
    · simp only [impl_regexText.f, if_pos e1]; exact Ev.now _
    · by_cases e2 : a = 2
      · simp only [impl_regexText.f, if_neg e1, if_pos e2]; exact Ev.now _
      · by_cases e3 : a = 3
        · simp only [impl_regexText.f, if_neg e1, if_neg e2, if_pos e3]; exact Ev.now _
        · have e4 : a = 4 := by omega
          simp only [impl_regexText.f, if_neg e1, if_neg e2, if_neg e3, if_pos e4]; exact Ev.now _
  · rw [nds, nds] at hn
    have iu := ih u (by simp) hu (by omega)
    have su := txt_size u hu
    have r0 : rd_T29 [u] 0 = u := rfl
    simp only [impl_regexText.f, if_neg (show ¬ a = 1 by omega), if_neg (show ¬ a = 2 by omega), if_neg (show ¬ a = 3 by omega), if_neg (show ¬ a = 4 by omega), txts, List.getD_cons_zero]
    by_cases e8 : a = 8
    · simp only [if_pos e8, if_pos (show (0 : Int) < (([u] : List TI).length : Int) by simp), r0]
      refine Ev.bind iu ?_
      simp only [if_pos (show 1 + (txt u).size ≤ 9223372036854775807 by omega)]
      exact Ev.now _
    · simp only [if_neg e8, if_pos (show a = 9 by omega), if_pos (show (0 : Int) < (([u] : List TI).length : Int) by simp), r0]
      refine Ev.bind iu ?_
      simp only [if_pos (show 1 + (txt u).size ≤ 9223372036854775807 by omega)]
      exact Ev.now _
  · rw [nds, nds, nds] at hn
    have iu := ih u (by simp) hu (by omega)
    have iv := ih v (by simp) hv (by omega)
    have su := txt_size u hu
    have sv := txt_size v hv
    have r0 : rd_T29 [u, v] 0 = u := rfl
    have r1 : rd_T29 [u, v] 1 = v := rfl
    have e1 : (⟨#[40]⟩ : ByteArray).size = 1 := rfl
    have e2 : (⟨#[]⟩ : ByteArray).size = 0 := rfl
    have e6 : (⟨#[124]⟩ : ByteArray).size = 1 := rfl
    have e7 : (⟨#[38]⟩ : ByteArray).size = 1 := rfl
    simp only [impl_regexText.f, if_neg (show ¬ a = 1 by omega), if_neg (show ¬ a = 2 by omega), if_neg (show ¬ a = 3 by omega), if_neg (show ¬ a = 4 by omega), if_neg (show ¬ a = 8 by omega), if_neg (show ¬ a = 9 by omega), txts, List.getD_cons_zero, List.getD_cons_succ, if_pos (show (0 : Int) < (([u, v] : List TI).length : Int) by simp), if_pos (show (1 : Int) < (([u, v] : List TI).length : Int) by simp), r0, r1]
    unfold sgn
    by_cases h6 : a = 6
    · simp only [if_pos h6]
      refine Ev.bind iu ?_
      simp only [ByteArray.size_append, e1, e6, if_pos (show 1 + (txt u).size ≤ 9223372036854775807 by omega), if_pos (show 1 + (txt u).size + 1 ≤ 9223372036854775807 by omega)]
      refine Ev.bind iv ?_
      simp only [if_pos (show 1 + (txt u).size + 1 + (txt v).size ≤ 9223372036854775807 by omega), if_pos (show 1 + (txt u).size + 1 + (txt v).size + 1 ≤ 9223372036854775807 by omega)]
      exact Ev.now _
    · by_cases h7 : a = 7
      · simp only [if_neg h6, if_pos h7]
        refine Ev.bind iu ?_
        simp only [ByteArray.size_append, e1, e7, if_pos (show 1 + (txt u).size ≤ 9223372036854775807 by omega), if_pos (show 1 + (txt u).size + 1 ≤ 9223372036854775807 by omega)]
        refine Ev.bind iv ?_
        simp only [if_pos (show 1 + (txt u).size + 1 + (txt v).size ≤ 9223372036854775807 by omega), if_pos (show 1 + (txt u).size + 1 + (txt v).size + 1 ≤ 9223372036854775807 by omega)]
        exact Ev.now _
      · simp only [if_neg h6, if_neg h7]
        refine Ev.bind iu ?_
        simp only [ByteArray.size_append, e1, e2, if_pos (show 1 + (txt u).size ≤ 9223372036854775807 by omega), if_pos (show 1 + (txt u).size + 0 ≤ 9223372036854775807 by omega)]
        refine Ev.bind iv ?_
        simp only [if_pos (show 1 + (txt u).size + 0 + (txt v).size ≤ 9223372036854775807 by omega), if_pos (show 1 + (txt u).size + 0 + (txt v).size + 1 ≤ 9223372036854775807 by omega)]
        exact Ev.now _
def fmtR (x : TI) : ByteArray := if validR x = true then txt x else ⟨#[]⟩
theorem validR_al {x : TI} (h : validR x = true) : al x = true ∧ nd x ≤ 16 ∧ dp x ≤ 6 := by
  unfold validR at h
  simp only [Bool.and_eq_true, decide_eq_true_eq] at h
  exact ⟨h.2, h.1.1, h.1.2⟩
theorem spec_fmt (x : TI) (hx : Thin x) (hn : nd x ≤ 2000000) : Ev (fun k => spec_FormatRegex.f k x.f0 x.f1 x.f2) (fmtR x) := by
  simp only [spec_FormatRegex.f]
  refine Ev.bind (spec_validR x hx hn) ?_
  unfold fmtR
  by_cases h : validR x = true
  · simp only [h, if_true]
    refine Ev.bind (spec_text x (validR_al h).1 hn) ?_
    exact Ev.now _
  · simp only [Bool.not_eq_true] at h
    simp only [h, Bool.false_eq_true, if_false]
    exact Ev.now _
theorem impl_fmt (x : TI) (hx : Thin x) (hn : nd x ≤ 2000000) : Ev (fun k => impl_FormatRegex.f k x.f0 x.f1 x.f2) (fmtR x) := by
  simp only [impl_FormatRegex.f]
  refine Ev.bind (impl_validR x hx) ?_
  unfold fmtR
  by_cases h : validR x = true
  · simp only [h, if_true]
    refine Ev.bind (impl_text x (validR_al h).1 hn) ?_
    exact Ev.now _
  · simp only [Bool.not_eq_true] at h
    simp only [h, Bool.false_eq_true, if_false]
    exact Ev.now _
end Go.Proofs.Ytldgkgdgcfllmaa.Pl
