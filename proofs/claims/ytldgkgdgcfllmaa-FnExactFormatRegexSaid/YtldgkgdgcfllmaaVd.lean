/- What spec.IsValidRegex and impl.IsValidRegex compute. No condition. -/
import Derived.Test.YtldgkgdgcfllmaaTr
import Derived.Test.YtldgkgdgcfllmaaWd0
import Derived.Test.YtldgkgdgcfllmaaP10
import Derived.Test.YtldgkgdgcfllmaaP11
import Derived.Test.YtldgkgdgcfllmaaP7
import Derived.Test.YtldgkgdgcfllmaaP8
import Derived.Test.YtldgkgdgcfllmaaP9
namespace Go.Proofs.Ytldgkgdgcfllmaa.Pl
open Go.RowKit Go.Proofs.Ytldgkgdgcfllmaa Go.Proofs.Ytldgkgdgcfllmaa.P Go.Proofs.Ytldgkgdgcfllmaa.Rk Go.Proofs.YtldgkgdgcfllmaaW.PrintWords Go.Proofs.YtldgkgdgcfllmaaW.PrintLast Go.Proofs.YtldgkgdgcfllmaaW.PrintMore
set_option linter.unusedVariables false
set_option linter.unusedSimpArgs false

theorem empty_list : (⟨#[]⟩ : ByteArray).toList = ([] : List UInt8) := by rw [ByteArray.toList_eq]
def argsN (a : Int) : Int := if 1 ≤ a ∧ a ≤ 4 then 0 else if a = 8 ∨ a = 9 then 1 else if 5 ≤ a ∧ a ≤ 7 then 2 else -1
/-- A node's own shape. -/
def shp (x : TI) : Bool := decide ((x.f2.length : Int) = argsN x.f0) && (if x.f0 = 3 then decide (x.f1.size = 1) && word x.f1 else decide (x.f1 = (⟨#[]⟩ : ByteArray)))
mutual
def nd : TI → Nat
  | ⟨_, _, l⟩ => 1 + nds l
def nds : List TI → Nat
  | [] => 0
  | x :: l => nd x + nds l
end
mutual
def dp : TI → Nat
  | ⟨_, _, l⟩ => dps l + 1
def dps : List TI → Nat
  | [] => 0
  | x :: l => max (dp x) (dps l)
end
mutual
def al : TI → Bool
  | ⟨a, s, l⟩ => als l && shp ⟨a, s, l⟩
def als : List TI → Bool
  | [] => true
  | x :: l => al x && als l
end
theorem nd_eq (x : TI) : nd x = 1 + nds x.f2 := by obtain ⟨a, s, l⟩ := x; rw [nd]
theorem dp_eq (x : TI) : dp x = dps x.f2 + 1 := by obtain ⟨a, s, l⟩ := x; rw [dp]
theorem al_eq (x : TI) : al x = (als x.f2 && shp x) := by obtain ⟨a, s, l⟩ := x; rw [al]
theorem nds_drop (l : List TI) (i : Nat) (h : i < l.length) : nds (l.drop i) = nd l[i] + nds (l.drop (i + 1)) := by rw [List.drop_eq_getElem_cons h, nds]
theorem dps_drop (l : List TI) (i : Nat) (h : i < l.length) : dps (l.drop i) = max (dp l[i]) (dps (l.drop (i + 1))) := by rw [List.drop_eq_getElem_cons h, dps]
theorem als_drop (l : List TI) (i : Nat) (h : i < l.length) : als (l.drop i) = (al l[i] && als (l.drop (i + 1))) := by rw [List.drop_eq_getElem_cons h, als]
theorem nd_pos (x : TI) : 1 ≤ nd x := by rw [nd_eq]; omega
theorem dp_pos (x : TI) : 1 ≤ dp x := by rw [dp_eq]; omega
theorem nd_mem {l : List TI} {x : TI} (h : x ∈ l) : nd x ≤ nds l := by
  induction l with
  | nil => cases h
  | cons a l ih =>
    rw [nds]
    rcases List.mem_cons.mp h with q | q
    · subst q; omega
    · have := ih q; omega
theorem len_nds (l : List TI) : l.length ≤ nds l := by
  induction l with
  | nil => exact Nat.le_refl _
  | cons a l ih => rw [nds, List.length_cons]; have := nd_pos a; omega
mutual
theorem dp_nd : ∀ x : TI, dp x ≤ nd x
  | ⟨a, s, l⟩ => by rw [dp, nd]; have := dps_nds l; omega
theorem dps_nds : ∀ l : List TI, dps l ≤ nds l
  | [] => Nat.le_refl _
  | x :: l => by rw [dps, nds]; have := dp_nd x; have := dps_nds l; omega
end
theorem nd_cv : ∀ x : TL, nd (cv x) ≤ 1 + wt x := by
  refine TL.ind fun x ih => ?_
  rw [cv_eq, nd_eq, wt_eq]
  have h : ∀ m : List TL, (∀ y ∈ m, nd (cv y) ≤ 1 + wt y) → nds (m.map cv) ≤ wts m := by
    intro m
    induction m with
    | nil => intro _; exact Nat.le_refl _
    | cons a m ihm =>
      intro hm
      rw [List.map_cons, nds, wts]
      have h1 := hm a List.mem_cons_self
      have h2 := ihm (fun y hy => hm y (List.mem_cons_of_mem _ hy))
      omega
  have := h x.f2 ih
  show 1 + nds (x.f2.map cv) ≤ _
  omega
theorem argsN_spec (a : Int) : Ev (fun k => spec_l3Args.f k a) (if 5 ≤ a ∧ a ≤ 7 then 2 else if a = 8 ∨ a = 9 then 1 else 0) := by
  simp only [spec_l3Args.f]
  by_cases h5 : a = 5
  · subst h5; refine next ?_; exact ev_some rfl
  · by_cases h6 : a = 6
    · subst h6; refine next ?_; exact ev_some rfl
    · by_cases h7 : a = 7
      · subst h7; refine next ?_; exact ev_some rfl
      · simp only [if_neg h5, if_neg h6, show (a == 7) = false from by simpa using h7]
        refine next ?_
        simp only [spec_l3Args.j0, Bool.false_eq_true, if_false]
        by_cases h8 : a = 8
        · subst h8; exact ev_some rfl
        · by_cases h9 : a = 9
          · subst h9; exact ev_some rfl
          · simp only [if_neg h8, if_neg h9]
            exact ev_some (by rw [if_neg (by omega), if_neg (by omega)])
theorem argsN_impl (a : Int) : Ev (fun k => impl_argsOf.f k a) (argsN a) := by
  simp only [impl_argsOf.f]
  have rest : (¬ (a == 4) = true ∧ ¬ (1 ≤ a ∧ a ≤ 4)) → Ev (fun k => impl_argsOf.j0 k a (a == 4)) (argsN a) := fun ⟨hb, hn⟩ => by
    refine next ?_
    simp only [impl_argsOf.j0, if_neg hb]
    by_cases h8 : a = 8
    · subst h8; refine next ?_; exact ev_some rfl
    · simp only [if_neg h8]
      refine next ?_
      by_cases h9 : a = 9
      · subst h9; exact ev_some rfl
      · simp only [impl_argsOf.j1, show (a == 9) = false from by simpa using h9, Bool.false_eq_true, if_false]
        unfold argsN
        by_cases h5 : a = 5
        · subst h5; exact ev_some rfl
        · by_cases h6 : a = 6
          · subst h6; exact ev_some rfl
          · by_cases h7 : a = 7
            · subst h7; exact ev_some rfl
            · simp only [if_neg h5, if_neg h6, if_neg h7]
              exact ev_some (by rw [if_neg hn, if_neg (by omega), if_neg (by omega)])
  by_cases h1 : a = 1
  · subst h1; refine next ?_; exact ev_some rfl
  · by_cases h2 : a = 2
    · subst h2; refine next ?_; exact ev_some rfl
    · by_cases h3 : a = 3
      · subst h3; refine next ?_; exact ev_some rfl
      · simp only [if_neg h1, if_neg h2, if_neg h3]
        by_cases h4 : a = 4
        · subst h4; refine next ?_; exact ev_some rfl
        · exact rest ⟨by simpa using h4, by omega⟩
def aft (cur : Int) (n : Nat) : Int := if 0 ≤ cur ∧ (n : Int) ≤ cur then cur - n else -1
theorem left_loop (a : Int) (s : ByteArray) {l : List TI} (hl : l.length ≤ 1048576) (ih : ∀ y ∈ l, ∀ left : Int, 0 ≤ left → left ≤ 16 → Ev (fun k => spec_l3Left.f k y.f0 y.f1 y.f2 left) (aft left (nd y))) :
    ∀ (d i : Nat) (cur : Int), i + d = l.length → -1 ≤ cur → cur ≤ 16 → Ev (fun k => spec_l3Left.l0 k cur (i : Int) a s l) (aft cur (nds (l.drop i))) := by
  intro d
  induction d with
  | zero =>
    intro i cur h h1 h2
    refine next ?_
    simp only [spec_l3Left.l0, if_neg (show ¬ (i : Int) < (l.length : Int) by omega)]
    rw [List.drop_eq_nil_of_le (by omega)]
    exact ev_some (by unfold aft; rw [nds]; split <;> omega)
  | succ d ihd =>
    intro i cur h h1 h2
    have hi : i < l.length := by omega
    refine next ?_
    rw [nds_drop l i hi]
    have hp := nd_pos l[i]
    by_cases hc : cur ≥ 0
    · simp only [spec_l3Left.l0, if_pos (show (i : Int) < (l.length : Int) by omega), if_pos hc, if_pos (show (0 : Int) ≤ (i : Int) by omega), rdTI l i hi]
      refine Ev.bind (ih _ (List.getElem_mem hi) cur hc h2) ?_
      simp only [up1 (show i < 9223372036854775807 by omega)]
      refine ev_eq (ihd (i + 1) _ (by omega) (by unfold aft; split <;> omega) (by unfold aft; split <;> omega)) ?_
      unfold aft
      repeat' split
      all_goals omega
    · simp only [spec_l3Left.l0, if_pos (show (i : Int) < (l.length : Int) by omega), if_neg hc]
      exact ev_some (by unfold aft; rw [if_neg (by omega)]; omega)
theorem left_tree : ∀ x : TI, Thin x → ∀ left : Int, 0 ≤ left → left ≤ 16 → Ev (fun k => spec_l3Left.f k x.f0 x.f1 x.f2 left) (aft left (nd x)) := by
  refine TI.ind fun x ih hx left h0 h1 => ?_
  obtain ⟨_, hl, _, hc⟩ := hx
  refine next ?_
  simp only [spec_l3Left.f, w64 (show -9223372036854775808 ≤ left - 1 by omega) (by omega)]
  refine ev_eq (left_loop x.f0 x.f1 hl (fun y hy => ih y hy (hc y hy)) x.f2.length 0 (left - 1) (by omega) (by omega) (by omega)) ?_
  rw [List.drop_zero, nd_eq]
  unfold aft
  repeat' split
  all_goals omega
theorem depth_loop (a : Int) (s : ByteArray) {l : List TI} (hl : l.length ≤ 1048576) (hn : nds l ≤ 2000000) (ih : ∀ y ∈ l, Ev (fun k => spec_l3Depth.f k y.f0 y.f1 y.f2) (dp y : Int)) :
    ∀ (d i cur : Nat), i + d = l.length → cur ≤ 2000000 → Ev (fun k => spec_l3Depth.l0 k (cur : Int) (i : Int) a s l) ((max cur (dps (l.drop i)) + 1 : Nat) : Int) := by
  intro d
  induction d with
  | zero =>
    intro i cur h h1
    refine next ?_
    simp only [spec_l3Depth.l0, if_neg (show ¬ (i : Int) < (l.length : Int) by omega)]
    rw [List.drop_eq_nil_of_le (by omega), dps, w64 (by omega) (by omega)]
    exact ev_some (by omega)
  | succ d ihd =>
    intro i cur h h1
    have hi : i < l.length := by omega
    refine next ?_
    rw [dps_drop l i hi]
    simp only [spec_l3Depth.l0, if_pos (show (i : Int) < (l.length : Int) by omega), if_pos (show (0 : Int) ≤ (i : Int) by omega), rdTI l i hi]
    refine Ev.bind (ih _ (List.getElem_mem hi)) ?_
    have hd : dp l[i] ≤ 2000000 := by have := dp_nd l[i]; have := nd_mem (List.getElem_mem hi); omega
    have hm : spec_l1Max.f (cur : Int) (dp l[i] : Int) = some ((max cur (dp l[i]) : Nat) : Int) := by
      unfold spec_l1Max.f
      split
      · congr 1; omega
      · congr 1; omega
    simp only [hm, Option.bind_some, up1 (show i < 9223372036854775807 by omega)]
    refine ev_eq (ihd (i + 1) _ (by omega) (by omega)) ?_
    rw [Nat.max_assoc]
theorem depth_tree : ∀ x : TI, Thin x → nd x ≤ 2000000 → Ev (fun k => spec_l3Depth.f k x.f0 x.f1 x.f2) (dp x : Int) := by
  refine TI.ind fun x ih hx hn => ?_
  obtain ⟨_, hl, _, hc⟩ := hx
  rw [nd_eq] at hn
  refine next ?_
  simp only [spec_l3Depth.f]
  refine ev_eq (depth_loop x.f0 x.f1 hl (by omega) (fun y hy => ih y hy (hc y hy) (by have := nd_mem hy; omega)) x.f2.length 0 0 (by omega) (by omega)) ?_
  rw [List.drop_zero, dp_eq]
  omega
theorem all_loop (x : TI) (hs : x.f1.size ≤ 1048576) (hl : x.f2.length ≤ 1048576) (ih : ∀ y ∈ x.f2, Ev (fun k => spec_l3All.f k y.f0 y.f1 y.f2) (al y)) :
    ∀ (d i : Nat), i + d = x.f2.length → Ev (fun k => spec_l3All.l0 k (i : Int) x.f0 x.f1 x.f2) (als (x.f2.drop i) && shp x) := by
  intro d
  induction d with
  | zero =>
    intro i h
    refine next ?_
    simp only [spec_l3All.l0, if_neg (show ¬ (i : Int) < (x.f2.length : Int) by omega)]
    rw [List.drop_eq_nil_of_le (by omega), als, Bool.true_and]
    unfold shp
    by_cases h3 : x.f0 = 3
    · simp only [if_pos h3]
      have ea : argsN x.f0 = 0 := by rw [h3]; rfl
      rw [ea]
      by_cases h1 : (x.f1.size : Int) = 1
      · simp only [if_pos h1]
        refine Ev.bind (spec_word x.f1 (by omega)) ?_
        have h1' : x.f1.size = 1 := by omega
        cases word x.f1 with
        | false => simp only [Bool.false_eq_true, if_false]; exact ev_some (by simp)
        | true =>
          simp only [if_true]
          refine ev_some ?_
          rw [decide_eq_true h1', Bool.and_true, Bool.and_true]
          rfl
      · simp only [if_neg h1]
        exact ev_some (by rw [decide_eq_false (show ¬ x.f1.size = 1 by omega)]; simp)
    · simp only [if_neg h3, spec_l1In.f]
      by_cases h1 : 1 ≤ x.f0 ∧ x.f0 ≤ 9
      · have ein : Ev (fun k => spec_l1In.f x.f0 1 9) true := by
          simp only [spec_l1In.f]
          first
            | (rw [if_pos h1.1]; exact ev_some (by simp; omega))
            | (simp only [if_pos (show x.f0 ≥ 1 from h1.1)]; exact ev_some (by simp; omega))
        refine Ev.bind ein ?_
        simp only [if_true]
        by_cases he : x.f1.toList = ([] : List UInt8)
        · simp only [if_pos he]
          refine Ev.bind (argsN_spec x.f0) ?_
          refine ev_some ?_
          have he' : x.f1 = (⟨#[]⟩ : ByteArray) := toList_iff.mp (he.trans empty_list.symm)
          rw [decide_eq_true he', Bool.and_true]
          have : argsN x.f0 = (if 5 ≤ x.f0 ∧ x.f0 ≤ 7 then 2 else if x.f0 = 8 ∨ x.f0 = 9 then 1 else 0) := by
            unfold argsN
            repeat' split
            all_goals omega
          rw [this]
          rfl
        · simp only [if_neg he]
          refine ev_some ?_
          rw [decide_eq_false (show ¬ x.f1 = (⟨#[]⟩ : ByteArray) from fun e => he (by rw [e]; exact empty_list)), Bool.and_false]
      · have ein : Ev (fun k => spec_l1In.f x.f0 1 9) false := by
          simp only [spec_l1In.f]
          by_cases hb : x.f0 ≥ 1
          · simp only [if_pos hb]; exact ev_some (by simp; omega)
          · simp only [if_neg hb]; exact ev_some rfl
        refine Ev.bind ein ?_
        simp only [Bool.false_eq_true, if_false]
        refine ev_some ?_
        have : argsN x.f0 = -1 := by
          unfold argsN
          rw [if_neg (by omega), if_neg (by omega), if_neg (by omega)]
        rw [this, decide_eq_false (by omega)]
        rfl
  | succ d ihd =>
    intro i h
    have hi : i < x.f2.length := by omega
    refine next ?_
    rw [als_drop x.f2 i hi]
    simp only [spec_l3All.l0, if_pos (show (i : Int) < (x.f2.length : Int) by omega), if_pos (show (0 : Int) ≤ (i : Int) by omega), rdTI x.f2 i hi]
    refine Ev.bind (ih _ (List.getElem_mem hi)) ?_
    cases al x.f2[i] with
    | false => simp only [Bool.false_eq_true, if_false]; exact ev_some (by simp)
    | true =>
      simp only [if_true, up1 (show i < 9223372036854775807 by omega), Bool.true_and]
      exact ihd (i + 1) (by omega)
theorem all_tree : ∀ x : TI, Thin x → Ev (fun k => spec_l3All.f k x.f0 x.f1 x.f2) (al x) := by
  refine TI.ind fun x ih hx => ?_
  obtain ⟨_, hl, hs, hc⟩ := hx
  refine next ?_
  simp only [spec_l3All.f]
  refine ev_eq (all_loop x hs hl (fun y hy => ih y hy (hc y hy)) x.f2.length 0 (by omega)) ?_
  rw [List.drop_zero, al_eq]
def validR (x : TI) : Bool := decide (nd x ≤ 16) && decide (dp x ≤ 6) && al x
theorem spec_validR (x : TI) (hx : Thin x) (hn : nd x ≤ 2000000) : Ev (fun k => spec_IsValidRegex.f k x.f0 x.f1 x.f2) (validR x) := by
  simp only [spec_IsValidRegex.f]
  refine Ev.bind (left_tree x hx 16 (by omega) (by omega)) ?_
  unfold validR aft
  by_cases h1 : nd x ≤ 16
  · simp only [if_pos (show (0 : Int) ≤ 16 ∧ (nd x : Int) ≤ 16 by omega), if_pos (show (16 : Int) - (nd x : Int) ≥ 0 by omega)]
    refine Ev.bind (depth_tree x hx hn) ?_
    rw [decide_eq_true h1, Bool.true_and]
    by_cases h2 : dp x ≤ 6
    · simp only [if_pos (show (dp x : Int) ≤ 6 by omega)]
      refine Ev.bind (all_tree x hx) ?_
      exact ev_some (by rw [decide_eq_true h2, Bool.true_and])
    · simp only [if_neg (show ¬ (dp x : Int) ≤ 6 by omega)]
      exact ev_some (by rw [decide_eq_false h2, Bool.false_and])
  · simp only [if_neg (show ¬ ((0 : Int) ≤ 16 ∧ (nd x : Int) ≤ 16) by omega), if_neg (show ¬ (-1 : Int) ≥ 0 by omega)]
    exact ev_some (by rw [decide_eq_false h1]; rfl)
/-- What nodesOf answers. -/
def nv (d : Int) (x : TI) : Int := if al x = true ∧ (dp x : Int) ≤ d then (if nd x ≤ 17 then (nd x : Int) else 17) else 17
def nvs (d : Int) : List TI → Int
  | [] => 0
  | x :: l => nv d x + nvs d l
theorem nv_bound (d : Int) (x : TI) : 1 ≤ nv d x ∧ nv d x ≤ 17 := by
  have := nd_pos x
  unfold nv
  repeat' split
  all_goals omega
theorem nvs_bound (d : Int) (l : List TI) : (l.length : Int) ≤ nvs d l ∧ nvs d l ≤ 17 * l.length := by
  induction l with
  | nil => exact ⟨Int.le_refl _, Int.le_refl _⟩
  | cons x l ih =>
    have := nv_bound d x
    rw [nvs, List.length_cons]
    omega
theorem nvs_good (d : Int) (hd : 0 ≤ d) (l : List TI) : (als l = true ∧ (dps l : Int) ≤ d → ∀ s : Int, 1 ≤ s → mn (s + nvs d l) 17 = mn (s + nds l) 17) ∧ (¬ (als l = true ∧ (dps l : Int) ≤ d) → 17 ≤ nvs d l) := by
  induction l with
  | nil => exact ⟨fun _ s _ => rfl, fun h => absurd ⟨rfl, by rw [dps]; exact hd⟩ h⟩
  | cons x l ih =>
    have hb := nv_bound d x
    have hbs := nvs_bound d l
    have hp := nd_pos x
    have hx : nv d x = if al x = true ∧ (dp x : Int) ≤ d then (if nd x ≤ 17 then (nd x : Int) else 17) else 17 := rfl
    rw [nvs, nds, als, dps]
    constructor
    · rintro ⟨h1, h2⟩ s hs
      rw [Bool.and_eq_true] at h1
      have i1 := ih.1 ⟨h1.2, by omega⟩ (s + nv d x) (by omega)
      rw [if_pos ⟨h1.1, by omega⟩] at hx
      rw [← Int.add_assoc, i1]
      unfold mn
      rw [hx]
      repeat' split
      all_goals omega
    · intro h
      by_cases hg : al x = true ∧ (dp x : Int) ≤ d
      · have := ih.2 (fun hc => h ⟨by rw [hg.1, hc.1]; rfl, by omega⟩)
        omega
      · rw [if_neg hg] at hx
        omega
theorem nvs_sum (d : Int) (hd : 0 ≤ d) (l : List TI) : mn (1 + nvs d l) 17 = if als l = true ∧ (dps l : Int) ≤ d then (if 1 + nds l ≤ 17 then ((1 + nds l : Nat) : Int) else 17) else 17 := by
  obtain ⟨h1, h2⟩ := nvs_good d hd l
  by_cases hg : als l = true ∧ (dps l : Int) ≤ d
  · rw [if_pos hg, h1 hg 1 (by omega)]
    unfold mn
    repeat' split
    all_goals omega
  · rw [if_neg hg]
    have := h2 hg
    unfold mn
    split <;> omega
theorem nodes_loop (d : Int) (hd : 1 ≤ d) (hd6 : d ≤ 6) {l : List TI} (hl : l.length ≤ 2) (ih : ∀ y ∈ l, Ev (fun k => impl_nodesOf.f k y.f0 y.f1 y.f2 (d - 1)) (nv (d - 1) y)) :
    ∀ (e i : Nat) (s : Int), i + e = l.length → 0 ≤ s → s ≤ 1 + 17 * (i : Int) → Ev (fun k => impl_nodesOf.l0 k d s l (l.length : Int) (i : Int)) (mn (s + nvs (d - 1) (l.drop i)) 17) := by
  intro e
  induction e with
  | zero =>
    intro i s h h0 h1
    refine next ?_
    simp only [impl_nodesOf.l0, if_neg (show ¬ (i : Int) < (l.length : Int) by omega)]
    rw [List.drop_eq_nil_of_le (by omega), nvs, Int.add_zero]
    exact Ev.now _
  | succ e ihe =>
    intro i s h h0 h1
    have hi : i < l.length := by omega
    refine next ?_
    have hb := nv_bound (d - 1) l[i]
    simp only [impl_nodesOf.l0, if_pos (show (i : Int) < (l.length : Int) by omega), if_pos (show (0 : Int) ≤ (i : Int) by omega), rdTI l i hi, w64 (show -9223372036854775808 ≤ d - 1 by omega) (by omega)]
    refine Ev.bind (ih _ (List.getElem_mem hi)) ?_
    simp only [up1 (show i < 9223372036854775807 by omega), w64 (show -9223372036854775808 ≤ s + nv (d - 1) l[i] by omega) (by omega)]
    refine ev_eq (ihe (i + 1) _ (by omega) (by omega) (by omega)) ?_
    rw [List.drop_eq_getElem_cons hi, nvs, Int.add_assoc]
theorem nodes_tree : ∀ x : TI, Thin x → ∀ d : Int, 0 ≤ d → d ≤ 6 → Ev (fun k => impl_nodesOf.f k x.f0 x.f1 x.f2 d) (nv d x) := by
  refine TI.ind fun x ih hx d h0 h1 => ?_
  obtain ⟨_, hl, hs, hc⟩ := hx
  have hdp := dp_pos x
  refine next ?_
  by_cases hd0 : d = 0
  · subst hd0
    simp only [impl_nodesOf.f, if_true]
    refine next ?_
    simp only [impl_nodesOf.j0, if_true]
    exact ev_some (by unfold nv; rw [if_neg (by omega)])
  · simp only [impl_nodesOf.f, if_neg hd0]
    refine Ev.bind (argsN_impl x.f0) ?_
    refine next ?_
    have hbad : shp x = false → (17 : Int) = nv d x := fun hb => by
      unfold nv
      rw [if_neg]
      rintro ⟨ha, _⟩
      rw [al_eq, hb, Bool.and_false] at ha
      cases ha
    by_cases hlen : (x.f2.length : Int) = argsN x.f0
    · have hl2 : x.f2.length ≤ 2 := by
        have : argsN x.f0 ≤ 2 := by unfold argsN; repeat' split <;> omega
        omega
      have hj1 : shp x = true → Ev (fun k => impl_nodesOf.j1 k d x.f0 x.f1 x.f2) (nv d x) := fun hsh => by
        refine next ?_
        simp only [impl_nodesOf.j1]
        refine ev_eq (nodes_loop d (by omega) h1 hl2 (fun y hy => ih y hy (hc y hy) (d - 1) (by omega) (by omega)) x.f2.length 0 1 (by omega) (by omega) (by omega)) ?_
        rw [List.drop_zero, nvs_sum (d - 1) (by omega)]
        unfold nv
        rw [al_eq, hsh, Bool.and_true, nd_eq]
        have : (dps x.f2 : Int) ≤ d - 1 ↔ (dp x : Int) ≤ d := by rw [dp_eq]; omega
        simp only [this]
      simp only [impl_nodesOf.j0, show ((x.f2.length : Int) != argsN x.f0) = false from by rw [bne_eq_false_iff_eq]; exact hlen, Bool.false_eq_true, if_false]
      by_cases h3 : x.f0 = 3
      · simp only [if_pos h3]
        by_cases hz : (x.f1.size : Int) = 1
        · simp only [if_pos hz]
          refine Ev.bind (impl_word x.f1 (by omega)) ?_
          cases hw : word x.f1 with
          | false =>
            simp only [Bool.false_eq_true, if_false]
            exact ev_some (hbad (by unfold shp; rw [if_pos h3, hw]; simp))
          | true =>
            simp only [if_true]
            exact hj1 (by unfold shp; rw [if_pos h3, hw, decide_eq_true hlen, decide_eq_true (show x.f1.size = 1 by omega)]; rfl)
        · simp only [if_neg hz]
          exact ev_some (hbad (by unfold shp; rw [if_pos h3, decide_eq_false (show ¬ x.f1.size = 1 by omega)]; simp))
      · simp only [if_neg h3]
        by_cases he : x.f1.toList = ([] : List UInt8)
        · simp only [if_pos he]
          exact hj1 (by unfold shp; rw [if_neg h3, decide_eq_true hlen, decide_eq_true (show x.f1 = (⟨#[]⟩ : ByteArray) from toList_iff.mp (he.trans empty_list.symm))]; rfl)
        · simp only [if_neg he]
          exact ev_some (hbad (by unfold shp; rw [if_neg h3, decide_eq_false (show ¬ x.f1 = (⟨#[]⟩ : ByteArray) from fun e => he (by rw [e]; exact empty_list))]; simp))
    · simp only [impl_nodesOf.j0, show ((x.f2.length : Int) != argsN x.f0) = true from by rw [bne_iff_ne]; exact hlen, if_true]
      exact ev_some (hbad (by unfold shp; rw [decide_eq_false hlen]; rfl))
theorem impl_validR (x : TI) (hx : Thin x) : Ev (fun k => impl_IsValidRegex.f k x.f0 x.f1 x.f2) (validR x) := by
  simp only [impl_IsValidRegex.f]
  refine Ev.bind (nodes_tree x hx 6 (by omega) (by omega)) ?_
  refine ev_some ?_
  unfold validR nv
  have e6 : ((dp x : Int) ≤ 6) ↔ dp x ≤ 6 := by omega
  by_cases ha : al x = true
  · by_cases hd : dp x ≤ 6
    · rw [if_pos ⟨ha, by omega⟩, ha, decide_eq_true hd, Bool.and_true, Bool.and_true]
      by_cases hn : nd x ≤ 16
      · rw [decide_eq_true hn]
        simp only [decide_eq_true_eq]
        split <;> omega
      · rw [decide_eq_false hn]
        simp only [decide_eq_false_iff_not]
        split <;> omega
    · rw [if_neg (by omega), decide_eq_false hd, Bool.and_false, Bool.false_and]
      rfl
  · simp only [Bool.not_eq_true] at ha
    rw [if_neg (by rw [ha]; simp), ha, Bool.and_false]
    rfl
end Go.Proofs.Ytldgkgdgcfllmaa.Pl
