/- Letters, words, counting, comparing, splitting; marks on lists of strings. No condition. -/
import Derived.Test.YtdhgmmgdblnciaaWd0
import Derived.Test.YtdhgmmgdblnciaaP2
import Derived.Test.YtdhgmmgdblnciaaP3
namespace Go.Proofs.Ytdhgmmgdblnciaa.Pl
open Go.RowKit Go.Proofs.Ytdhgmmgdblnciaa.P Go.Proofs.YtdhgmmgdblnciaaW.PrintWords Go.Proofs.YtdhgmmgdblnciaaW.PrintLast Go.Proofs.YtdhgmmgdblnciaaW.PrintMore
set_option linter.unusedVariables false
set_option linter.unusedSimpArgs false

/-! marks on lists of strings -/
theorem sameStrs_l0 (a b : List ByteArray) (hl : a.length = b.length) (hn : a.length ≤ 140737488351232) : ∀ d i : Nat, i + d = a.length → Ev (fun k => laws_eqStringS.l0 k a b i) (decide (a.drop i = b.drop i)) := by
  intro d
  induction d with
  | zero =>
    intro i h
    refine next ?_
    simp only [laws_eqStringS.l0, if_neg (show ¬ (i : Int) < (a.length : Int) by omega)]
    exact ev_some (by rw [List.drop_eq_nil_of_le (by omega), List.drop_eq_nil_of_le (by omega)]; simp)
  | succ d ih =>
    intro i h
    refine next ?_
    have ha : i < a.length := by omega
    have hb : i < b.length := by omega
    simp only [laws_eqStringS.l0, if_pos (show (i : Int) < (a.length : Int) by omega), if_pos (show (0 : Int) ≤ i by omega), if_pos (show (i : Int) < (b.length : Int) by omega), rdOf_get _ a i ha, rdOf_get _ b i hb, toList_iff]
    have e : (a.drop i = b.drop i) ↔ (a[i] = b[i] ∧ a.drop (i + 1) = b.drop (i + 1)) := by
      rw [List.drop_eq_getElem_cons ha, List.drop_eq_getElem_cons hb]
      exact List.cons_eq_cons
    by_cases he : a[i] = b[i]
    · simp only [if_pos he, up1 (show i < 9223372036854775807 by omega)]
      exact ev_eq (ih (i + 1) (by omega)) (decide_eq_decide.mpr (by rw [e]; exact ⟨fun x => ⟨he, x⟩, fun x => x.2⟩))
    · simp only [if_neg he]
      exact ev_some (by rw [eq_comm, decide_eq_false_iff_not, e]; exact fun x => he x.1)
theorem sameStrs (a b : List ByteArray) (hn : a.length ≤ 140737488351232) : Ev (fun k => laws_eqStringS.f k a b) (decide (a = b)) := by
  simp only [laws_eqStringS.f]
  by_cases h : a.length = b.length
  · simp only [if_pos (show (a.length : Int) = (b.length : Int) by omega)]
    exact sameStrs_l0 a b h hn a.length 0 (by omega)
  · simp only [if_neg (show ¬ (a.length : Int) = (b.length : Int) by omega)]
    exact ev_some (by simp; intro e; exact h (by rw [e]))
theorem mark_l0 : ∀ (d : Nat) (n : Int) (x : ByteArray), n.toNat ≤ d → n ≤ 4611686018427387904 → n.toNat + x.size ≤ 9223372036854770000 → ∃ r, Ev (fun k => laws_markText.l0 k n x) r := by
  intro d
  induction d with
  | zero =>
    intro n x h h2 h3
    refine ⟨(⟨#[109]⟩ : ByteArray) ++ x, next ?_⟩
    simp only [laws_markText.l0, if_neg (show ¬ n > 0 by omega), if_pos (show 1 + x.size ≤ 9223372036854775807 by omega)]
    exact Ev.now _
  | succ d ih =>
    intro n x h h2 h3
    by_cases hp : n > 0
    · have hw : wrap64 (Int.tdiv n 10) = n / 10 := by
        rw [Int.tdiv_eq_ediv_of_nonneg (by omega), w64 (by omega) (by omega)]
      obtain ⟨r, hr⟩ := ih (n / 10) (strOfNums [(wrap64 (48 + (Int.tmod n 10))) % 256] ++ x) (by omega) (by omega) (by rw [ByteArray.size_append, size_strOf]; simp; omega)
      refine ⟨r, next ?_⟩
      simp only [laws_markText.l0, if_pos hp, Option.bind_some, size_strOf, List.length_cons, List.length_nil, if_pos (show 0 + 1 + x.size ≤ 9223372036854775807 by omega), hw]
      exact hr
    · refine ⟨(⟨#[109]⟩ : ByteArray) ++ x, next ?_⟩
      simp only [laws_markText.l0, if_neg hp, if_pos (show 1 + x.size ≤ 9223372036854775807 by omega)]
      exact Ev.now _
theorem mark_some (n : Int) (hn : n ≤ 4611686018427387904) : ∃ r, Ev (fun k => laws_markText.f k n) r := by
  simp only [laws_markText.f]
  by_cases h : n ≤ 0
  · simp only [if_pos h]
    exact ⟨_, Ev.now _⟩
  · simp only [if_neg h]
    exact mark_l0 n.toNat n _ (by omega) hn (by simp [ByteArray.size]; omega)
noncomputable def markOf (n : Int) : ByteArray := open Classical in if h : n ≤ 4611686018427387904 then (mark_some n h).choose else ByteArray.empty
theorem mark_ok (n : Int) (h : n ≤ 4611686018427387904) : Ev (fun k => laws_markText.f k n) (markOf n) := by
  simp only [markOf, h, dif_pos]
  exact (mark_some n h).choose_spec
noncomputable def marks (m : Nat) (n : Nat) : List ByteArray := (List.range m).map fun i => markOf ((n + i : Nat) : Int)
theorem markStrs_l0 (m : Nat) (hm : m ≤ 4611686018427387000) : ∀ (d i : Nat) (a : List ByteArray), i + d = m → a.length = m → (∀ j, j < i → a[j]? = (marks m 1)[j]?) → Ev (fun k => laws_markStringS.l0 k a ((i + 1 : Nat) : Int) i) (((m + 1 : Nat) : Int), marks m 1) := by
  intro d
  induction d with
  | zero =>
    intro i a h ha hj
    refine next ?_
    simp only [laws_markStringS.l0, if_neg (show ¬ (i : Int) < (a.length : Int) by omega)]
    have e : a = marks m 1 := by
      apply List.ext_getElem?
      intro j
      by_cases hlt : j < i
      · exact hj j hlt
      · rw [List.getElem?_eq_none (by omega), List.getElem?_eq_none (by simp [marks]; omega)]
    have e2 : i = m := by omega
    subst e
    subst e2
    exact Ev.now _
  | succ d ih =>
    intro i a h ha hj
    refine next ?_
    simp only [laws_markStringS.l0, if_pos (show (i : Int) < (a.length : Int) by omega)]
    refine Ev.bind (mark_ok _ (by omega)) ?_
    simp only [if_pos (show (0 : Int) ≤ i by omega), up1 (show i < 9223372036854775807 by omega), up1 (show i + 1 < 9223372036854775807 by omega), Int.toNat_natCast]
    refine ih (i + 1) _ (by omega) (by simp [ha]) ?_
    intro j hlt
    by_cases e : j = i
    · subst e
      rw [List.getElem?_set_self (by omega)]
      simp [marks, show j < m by omega]
      congr 1
      omega
    · rw [List.getElem?_set_ne (by omega)]
      exact hj j (by omega)
theorem markStrs (a : List ByteArray) (h : a.length ≤ 4611686018427387000) : Ev (fun k => laws_markStringS.f k a 1) (((a.length + 1 : Nat) : Int), marks a.length 1) := by
  simp only [laws_markStringS.f]
  exact markStrs_l0 a.length h a.length 0 a (by omega) rfl (by intro j hj; omega)
theorem heldStrs_l0 (m : Nat) (hm : m ≤ 4611686018427387000) : ∀ (d i : Nat), i + d = m → Ev (fun k => laws_heldStringS.l0 k (marks m 1) ((i + 1 : Nat) : Int) i) ((m + 1 : Nat) : Int) := by
  have hl : (marks m 1).length = m := by simp [marks]
  intro d
  induction d with
  | zero =>
    intro i h
    refine next ?_
    simp only [laws_heldStringS.l0, hl, if_neg (show ¬ (i : Int) < (m : Int) by omega)]
    have : i = m := by omega
    subst this
    exact Ev.now _
  | succ d ih =>
    intro i h
    refine next ?_
    simp only [laws_heldStringS.l0, hl, if_pos (show (i : Int) < (m : Int) by omega), if_pos (show (0 : Int) ≤ i by omega)]
    refine Ev.bind (mark_ok _ (by omega)) ?_
    have e : (rdOf ByteArray.empty (marks m 1) i).toList = (markOf ((i + 1 : Nat) : Int)).toList := by
      rw [rdOf_get _ _ i (by omega)]
      simp [marks]
      congr 2
      omega
    simp only [if_pos e, up1 (show i < 9223372036854775807 by omega), up1 (show i + 1 < 9223372036854775807 by omega)]
    exact ih (i + 1) (by omega)
theorem heldStrs (m : Nat) (h : m ≤ 4611686018427387000) : Ev (fun k => laws_heldStringS.f k (marks m 1) 1) ((m + 1 : Nat) : Int) := by
  simp only [laws_heldStringS.f]
  exact heldStrs_l0 m h m 0 (by omega)
/-- What the laws on lists of strings do behind the call, all told. -/
theorem strsTail {g h : Nat → Option (List ByteArray)} {a : List ByteArray} (ha : a.length ≤ 4611686018427387000) (hg : Ev g a) (hh : Ev h a) (hs : a.length ≤ 140737488351232) :
    Ev (fun k => (h k).bind fun t143 => ((laws_eqStringS.f k t143 a).bind fun t146 => (if t146 = true then ((laws_markStringS.f k t143 1).bind fun bt147 => ((laws_heldStringS.f k bt147.2 1).bind fun t149 => (if t149 < 0 then (some false) else (if t149 = bt147.1 then ((g k).bind fun t150 => ((laws_eqStringS.f k t150 a).bind fun t153 => (if t153 = true then ((laws_heldStringS.f k bt147.2 1).bind fun t154 => (if t154 < 0 then (some false) else (if t154 = bt147.1 then (some true) else (some false)))) else (some false)))) else (some false))))) else (some false)))) true := by
  refine Ev.bind hh (Ev.bind (sameStrs a a hs) ?_)
  simp only [decide_true, if_true]
  refine Ev.bind (markStrs a ha) (Ev.bind (heldStrs _ ha) ?_)
  simp only [if_neg (show ¬ ((a.length + 1 : Nat) : Int) < 0 by omega), if_true]
  refine Ev.bind hg (Ev.bind (sameStrs a a hs) ?_)
  simp only [decide_true, if_true]
  refine Ev.bind (heldStrs _ ha) ?_
  simp only [if_neg (show ¬ ((a.length + 1 : Nat) : Int) < 0 by omega), if_true]
  exact Ev.now _

end Go.Proofs.Ytdhgmmgdblnciaa.Pl
