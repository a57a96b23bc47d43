/- Trees: their weight, nodes, depth, shape; what the laws' helpers on them compute. No condition. -/
import Derived.Test.YtldgkgdgcfllmaaBase
import Derived.Test.YtldgkgdgcfllmaaRkT
import Derived.Test.YtldgkgdgcfllmaaP0
import Derived.Test.YtldgkgdgcfllmaaP1
import Derived.Test.YtldgkgdgcfllmaaP4
import Derived.Test.YtldgkgdgcfllmaaP8
namespace Go.Proofs.Ytldgkgdgcfllmaa.Pl
open Go.RowKit Go.Proofs.Ytldgkgdgcfllmaa Go.Proofs.Ytldgkgdgcfllmaa.P Go.Proofs.Ytldgkgdgcfllmaa.Rk Go.Proofs.YtldgkgdgcfllmaaW.PrintWords Go.Proofs.YtldgkgdgcfllmaaW.PrintLast Go.Proofs.YtldgkgdgcfllmaaW.PrintMore
set_option linter.unusedVariables false
set_option linter.unusedSimpArgs false

abbrev TL := S24
abbrev TI := S29
mutual
theorem TI.ind {p : TI → Prop} (h : ∀ x : TI, (∀ y ∈ x.f2, p y) → p x) : ∀ x, p x
  | ⟨a, s, l⟩ => h _ (TI.inds h l)
theorem TI.inds {p : TI → Prop} (h : ∀ x : TI, (∀ y ∈ x.f2, p y) → p x) : ∀ (l : List TI), ∀ y ∈ l, p y
  | [], _, hy => by cases hy
  | x :: l, y, hy => by
    rcases List.mem_cons.mp hy with q | q
    · rw [q]; exact TI.ind h x
    · exact TI.inds h l y q
end
mutual
theorem TL.ind {p : TL → Prop} (h : ∀ x : TL, (∀ y ∈ x.f2, p y) → p x) : ∀ x, p x
  | ⟨a, s, l⟩ => h _ (TL.inds h l)
theorem TL.inds {p : TL → Prop} (h : ∀ x : TL, (∀ y ∈ x.f2, p y) → p x) : ∀ (l : List TL), ∀ y ∈ l, p y
  | [], _, hy => by cases hy
  | x :: l, y, hy => by
    rcases List.mem_cons.mp hy with q | q
    · rw [q]; exact TL.ind h x
    · exact TL.inds h l y q
end
mutual
/-- What szRegex counts. -/
def wt : TL → Nat
  | ⟨_, s, l⟩ => s.size + wts l
def wts : List TL → Nat
  | [] => 0
  | x :: l => 1 + wt x + wts l
end
mutual
/-- The same tree of the other type. -/
def cv : TL → TI
  | ⟨a, s, l⟩ => ⟨a, s, cvs l⟩
def cvs : List TL → List TI
  | [] => []
  | x :: l => cv x :: cvs l
end
theorem cvs_map (l : List TL) : cvs l = l.map cv := by
  induction l with
  | nil => rfl
  | cons x l ih => rw [cvs, ih, List.map_cons]
theorem cv_eq (x : TL) : cv x = ⟨x.f0, x.f1, x.f2.map cv⟩ := by
  obtain ⟨a, s, l⟩ := x
  rw [cv, cvs_map]
theorem wt_eq (x : TL) : wt x = x.f1.size + wts x.f2 := by
  obtain ⟨a, s, l⟩ := x
  rw [wt]
theorem wts_drop (l : List TL) (i : Nat) (h : i < l.length) : wts (l.drop i) = 1 + wt l[i] + wts (l.drop (i + 1)) := by rw [List.drop_eq_getElem_cons h, wts]
theorem wts_len (l : List TL) : l.length ≤ wts l := by
  induction l with
  | nil => exact Nat.le_refl _
  | cons x l ih => rw [wts, List.length_cons]; omega
theorem rdTL (l : List TL) (i : Nat) (h : i < l.length) : rd_T24 l (i : Int) = l[i] := by
  unfold rd_T24
  rw [Int.toNat_natCast, List.getD_eq_getElem?_getD, List.getElem?_eq_getElem h]
  rfl
theorem rdTI (l : List TI) (i : Nat) (h : i < l.length) : rd_T29 l (i : Int) = l[i] := by
  unfold rd_T29
  rw [Int.toNat_natCast, List.getD_eq_getElem?_getD, List.getElem?_eq_getElem h]
  rfl
/-- What is left behind a count. -/
def lft (left n : Nat) : Int := if n ≤ left then ((left - n : Nat) : Int) else -1
theorem sz_loop {l : List TL} (hl : l.length ≤ 9223372036854775807) (ih : ∀ y ∈ l, ∀ left : Nat, left ≤ 1048576 → Ev (fun k => laws_szRegex.f k y.f0 y.f1 y.f2 (left : Int)) (lft left (wt y))) :
    ∀ (d i left : Nat), i + d = l.length → left ≤ 1048576 → Ev (fun k => laws_szRegexS.l0 k l (left : Int) (i : Int)) (lft left (wts (l.drop i) - (l.drop i).length)) := by
  intro d
  induction d with
  | zero =>
    intro i left h hle
    refine next ?_
    simp only [laws_szRegexS.l0, if_neg (show ¬ (i : Int) < (l.length : Int) by omega)]
    rw [List.drop_eq_nil_of_le (by omega)]
    exact ev_some (by simp [lft, wts])
  | succ d ihd =>
    intro i left h hle
    have hi : i < l.length := by omega
    refine next ?_
    simp only [laws_szRegexS.l0, if_pos (show (i : Int) < (l.length : Int) by omega), if_pos (show (0 : Int) ≤ (i : Int) by omega), rdTL l i hi]
    refine Ev.bind (ih _ (List.getElem_mem hi) left hle) ?_
    rw [wts_drop l i hi, show (l.drop i).length = (l.drop (i + 1)).length + 1 by simp only [List.length_drop]; omega]
    have hwl := wts_len (l.drop (i + 1))
    unfold lft
    by_cases hw : wt l[i] ≤ left
    · simp only [if_pos hw, if_neg (show ¬ ((left - wt l[i] : Nat) : Int) < 0 by omega), up1 (show i < 9223372036854775807 by omega)]
      refine ev_eq (ihd (i + 1) (left - wt l[i]) (by omega) (by omega)) ?_
      unfold lft
      by_cases h2 : wts (l.drop (i + 1)) - (l.drop (i + 1)).length ≤ left - wt l[i]
      · rw [if_pos h2, if_pos (by omega)]; omega
      · rw [if_neg h2, if_neg (by omega)]
    · simp only [if_neg hw, if_pos (show (-1 : Int) < 0 by omega)]
      exact ev_some (by rw [if_neg (by omega)])
theorem sz_tree : ∀ x : TL, OkT x → ∀ left : Nat, left ≤ 1048576 → Ev (fun k => laws_szRegex.f k x.f0 x.f1 x.f2 (left : Int)) (lft left (wt x)) := by
  refine TL.ind fun x ih hx left hle => ?_
  obtain ⟨_, h0, h1, h2, h3⟩ := hx
  have hs : x.f1.size ≤ 9223372036854775807 := h1
  refine next ?_
  rw [wt_eq]
  simp only [laws_szRegex.f, w64 (show -9223372036854775808 ≤ (left : Int) - (x.f1.size : Int) by omega) (by omega)]
  have hwl := wts_len x.f2
  unfold lft
  by_cases ha : (left : Int) - (x.f1.size : Int) < 0
  · simp only [if_pos ha]
    exact ev_some (by rw [if_neg (by omega)])
  · simp only [if_neg ha]
    have e1 : (left : Int) - (x.f1.size : Int) = ((left - x.f1.size : Nat) : Int) := by omega
    rw [e1]
    have hS : Ev (fun k => laws_szRegexS.f k x.f2 ((left - x.f1.size : Nat) : Int)) (lft (left - x.f1.size) (wts x.f2)) := by
      refine next ?_
      simp only [laws_szRegexS.f, w64 (show -9223372036854775808 ≤ ((left - x.f1.size : Nat) : Int) - (x.f2.length : Int) by omega) (by omega)]
      unfold lft
      by_cases hb : ((left - x.f1.size : Nat) : Int) - (x.f2.length : Int) < 0
      · simp only [if_pos hb]
        exact ev_some (by rw [if_neg (by omega)])
      · simp only [if_neg hb]
        have e2 : ((left - x.f1.size : Nat) : Int) - (x.f2.length : Int) = ((left - x.f1.size - x.f2.length : Nat) : Int) := by omega
        rw [e2]
        refine ev_eq (sz_loop h2 (fun y hy left hl => ih y hy (h3 y hy) left hl) x.f2.length 0 (left - x.f1.size - x.f2.length) (by omega) (by omega)) ?_
        rw [List.drop_zero]
        unfold lft
        by_cases hc : wts x.f2 ≤ left - x.f1.size
        · rw [if_pos hc, if_pos (by omega)]; omega
        · rw [if_neg hc, if_neg (by omega)]
    refine Ev.bind hS ?_
    unfold lft
    by_cases hc : wts x.f2 ≤ left - x.f1.size
    · simp only [if_pos hc, if_neg (show ¬ ((left - x.f1.size - wts x.f2 : Nat) : Int) < 0 by omega)]
      exact ev_some (by rw [if_pos (by omega)]; omega)
    · simp only [if_neg hc, if_pos (show (-1 : Int) < 0 by omega)]
      exact ev_some (by rw [if_neg (by omega)])
theorem set_mid {α : Type} (A : List α) (z y : α) (B : List α) : (A ++ z :: B).set A.length y = A ++ [y] ++ B := by
  induction A with
  | nil => rfl
  | cons a A ih => simp
theorem to_loop {l : List TL} (hl : l.length ≤ 1048576) (ih : ∀ y ∈ l, Ev (fun k => laws_toRegex.f k y.f0 y.f1 y.f2) ((cv y).f0, (cv y).f1, (cv y).f2)) :
    ∀ (d i : Nat), i + d = l.length → Ev (fun k => laws_toRegexS.l0 k l ((l.take i).map cv ++ List.replicate (l.length - i) z29) (i : Int)) (l.map cv) := by
  intro d
  induction d with
  | zero =>
    intro i h
    obtain rfl : i = l.length := by omega
    refine next ?_
    simp only [laws_toRegexS.l0, if_neg (show ¬ (l.length : Int) < (l.length : Int) by omega)]
    exact ev_some (by simp)
  | succ d ihd =>
    intro i h
    have hi : i < l.length := by omega
    refine next ?_
    simp only [laws_toRegexS.l0, if_pos (show (i : Int) < (l.length : Int) by omega), if_pos (show (0 : Int) ≤ (i : Int) by omega), rdTL l i hi]
    refine Ev.bind (ih _ (List.getElem_mem hi)) ?_
    have hlen : ((l.take i).map cv ++ List.replicate (l.length - i) z29).length = l.length := by simp; omega
    have hset : ((l.take i).map cv ++ List.replicate (l.length - i) z29).set (i : Int).toNat (⟨(cv l[i]).f0, (cv l[i]).f1, (cv l[i]).f2⟩ : TI) = (l.take (i + 1)).map cv ++ List.replicate (l.length - (i + 1)) z29 := by
      have e0 : l.length - i = (l.length - (i + 1)) + 1 := by omega
      have e1 : ((l.take i).map cv).length = i := by simp; omega
      have e2 := set_mid ((l.take i).map cv) z29 (⟨(cv l[i]).f0, (cv l[i]).f1, (cv l[i]).f2⟩ : TI) (List.replicate (l.length - (i + 1)) z29)
      rw [e1] at e2
      rw [Int.toNat_natCast, e0, List.replicate_succ, e2, List.take_succ_eq_append_getElem hi, List.map_append, List.map_singleton]
      have e3 : (⟨(cv l[i]).f0, (cv l[i]).f1, (cv l[i]).f2⟩ : TI) = cv l[i] := by cases cv l[i]; rfl
      rw [e3]
    simp only [if_pos (show (i : Int) < (((l.take i).map cv ++ List.replicate (l.length - i) z29).length : Int) by omega), hset, up1 (show i < 9223372036854775807 by omega)]
    exact ihd (i + 1) (by omega)
theorem to_tree : ∀ x : TL, wt x ≤ 1048576 → Ev (fun k => laws_toRegex.f k x.f0 x.f1 x.f2) ((cv x).f0, (cv x).f1, (cv x).f2) := by
  refine TL.ind fun x ih hx => ?_
  rw [wt_eq] at hx
  have hwl := wts_len x.f2
  refine next ?_
  simp only [laws_toRegex.f]
  have hS : Ev (fun k => laws_toRegexS.f k x.f2) (x.f2.map cv) := by
    refine next ?_
    simp only [laws_toRegexS.f, if_pos (show (0 : Int) ≤ (x.f2.length : Int) by omega), if_pos (show ((x.f2.length : Int)).toNat ≤ 5864062014805 by omega)]
    have := to_loop (l := x.f2) (by omega) (fun y hy => ih y hy (by
      obtain ⟨i, hi, rfl⟩ := List.mem_iff_getElem.mp hy
      have h1 : ∀ (m : List TL), (∀ z ∈ m, wt z ≤ wts m) := by
        intro m
        induction m with
        | nil => intro z hz; cases hz
        | cons a m ihm =>
          intro z hz
          rw [wts]
          rcases List.mem_cons.mp hz with q | q
          · subst q; omega
          · have := ihm z q; omega
      have := h1 _ _ (List.getElem_mem hi)
      omega)) x.f2.length 0 (by omega)
    simpa using this
  refine Ev.bind hS ?_
  rw [cv_eq]
  exact Ev.now _
theorem eq_loop {l : List TI} (hl : l.length ≤ 9223372036854775807) (ih : ∀ y ∈ l, Ev (fun k => laws_eqRegex.f k y.f0 y.f1 y.f2 y.f0 y.f1 y.f2) true) :
    ∀ (d i : Nat), i + d = l.length → Ev (fun k => laws_eqRegexS.l0 k l l (i : Int)) true := by
  intro d
  induction d with
  | zero =>
    intro i h
    refine next ?_
    simp only [laws_eqRegexS.l0, if_neg (show ¬ (i : Int) < (l.length : Int) by omega)]
    exact Ev.now _
  | succ d ihd =>
    intro i h
    have hi : i < l.length := by omega
    refine next ?_
    simp only [laws_eqRegexS.l0, if_pos (show (i : Int) < (l.length : Int) by omega), if_pos (show (0 : Int) ≤ (i : Int) by omega), rdTI l i hi]
    refine Ev.bind (ih _ (List.getElem_mem hi)) ?_
    simp only [if_true, up1 (show i < 9223372036854775807 by omega)]
    exact ihd (i + 1) (by omega)
/-- How long the rows of a tree are at most. -/
inductive Thin : TI → Prop
  | mk (x : TI) (h : x.f2.length ≤ 1048576) (hs : x.f1.size ≤ 1048576) (hc : ∀ y ∈ x.f2, Thin y) : Thin x
theorem thin_cv : ∀ x : TL, wt x ≤ 1048576 → Thin (cv x) := by
  refine TL.ind fun x ih hx => ?_
  have hw := hx
  rw [wt_eq] at hw
  have hwl := wts_len x.f2
  refine Thin.mk _ (by rw [cv_eq]; show (x.f2.map cv).length ≤ _; rw [List.length_map]; omega) (by rw [cv_eq]; show x.f1.size ≤ _; omega) ?_
  rw [cv_eq]
  intro y hy
  obtain ⟨z, hz, rfl⟩ := List.mem_map.mp hy
  refine ih z hz ?_
  have h1 : ∀ (m : List TL), (∀ z ∈ m, wt z ≤ wts m) := by
    intro m
    induction m with
    | nil => intro z hz; cases hz
    | cons a m ihm =>
      intro z hz
      rw [wts]
      rcases List.mem_cons.mp hz with q | q
      · subst q; omega
      · have := ihm z q; omega
  have := h1 _ _ hz
  omega
theorem eq_tree : ∀ x : TI, Thin x → Ev (fun k => laws_eqRegex.f k x.f0 x.f1 x.f2 x.f0 x.f1 x.f2) true := by
  refine TI.ind fun x ih hx => ?_
  obtain ⟨_, h1, _, h2⟩ := hx
  refine next ?_
  simp only [laws_eqRegex.f, if_true]
  have hS : Ev (fun k => laws_eqRegexS.f k x.f2 x.f2) true := by
    refine next ?_
    simp only [laws_eqRegexS.f, if_true]
    exact eq_loop (by omega) (fun y hy => ih y hy (h2 y hy)) x.f2.length 0 (by omega)
  refine Ev.bind hS ?_
  simp only [if_true]
  exact Ev.now _
end Go.Proofs.Ytldgkgdgcfllmaa.Pl
