/- The pure statement of FnWords. No condition. -/
import Derived.Test.YtffagfflgoplbaaWdA
import Derived.Test.YtffagfflgoplbaaNxS
import Derived.Test.YtffagfflgoplbaaDr
import Derived.Test.YtffagfflgoplbaaP1
import Derived.Test.YtffagfflgoplbaaP5
import Derived.Test.YtffagfflgoplbaaP6
import Derived.Test.YtffagfflgoplbaaP7
import Derived.Test.YtffagfflgoplbaaP8
namespace Go.Proofs.Ytffagfflgoplbaa.Pl
open Go.RowKit Go.Proofs.Ytffagfflgoplbaa.P Go.Proofs.YtffagfflgoplbaaW.PrintWords Go.Proofs.YtffagfflgoplbaaW.PrintLast Go.Proofs.YtffagfflgoplbaaW.PrintMore Wk
set_option linter.unusedVariables false
set_option linter.unusedSimpArgs false

theorem sameT_l0 (a b : List ByteArray) (hl : a.length = b.length) (hn : a.length ≤ 140737488351232) (he : a = b) : ∀ d i : Nat, i + d = a.length → Ev (fun k => laws_sameTexts.l0 k a b i) true := by
  subst he
  intro d
  induction d with
  | zero =>
    intro i h
    refine next ?_
    simp only [laws_sameTexts.l0, if_neg (show ¬ (i : Int) < (a.length : Int) by omega)]
    exact Ev.now _
  | succ d ih =>
    intro i h
    refine next ?_
    simp only [laws_sameTexts.l0, if_pos (show (i : Int) < (a.length : Int) by omega), if_pos (show (0 : Int) ≤ i by omega), if_true, up1 (show i < 9223372036854775807 by omega)]
    exact ih (i + 1) (by omega)
theorem sameT (a : List ByteArray) (hn : a.length ≤ 140737488351232) : Ev (fun k => laws_sameTexts.f k a a) true := by
  simp only [laws_sameTexts.f, if_true]
  exact sameT_l0 a a rfl hn rfl a.length 0 (by omega)
/-! the order of words -/
theorem less_irr : ∀ x : List UInt8, Op.bytesLess x x = false
  | [] => rfl
  | a :: t => by simp [Op.bytesLess, less_irr t]
theorem less_asym : ∀ x y : List UInt8, Op.bytesLess x y = true → Op.bytesLess y x = false
  | _, [], h => by simp [Op.bytesLess] at h
  | [], _ :: _, _ => by simp [Op.bytesLess]
  | a :: x, b :: y, h => by
    simp only [Op.bytesLess, Bool.or_eq_true, decide_eq_true_eq, Bool.and_eq_true, beq_iff_eq, Bool.or_eq_false_iff, decide_eq_false_iff_not, Bool.and_eq_false_iff] at h ⊢
    rcases h with h | ⟨rfl, h⟩
    · refine ⟨fun q => absurd (UInt8.lt_trans h q) (UInt8.lt_irrefl _), .inl ?_⟩
      rw [beq_eq_false_iff_ne]
      rintro rfl
      exact UInt8.lt_irrefl _ h
    · exact ⟨UInt8.lt_irrefl _, .inr (less_asym x y h)⟩
theorem less_tri : ∀ x y : List UInt8, Op.bytesLess x y = false → Op.bytesLess y x = false → x = y
  | [], [], _, _ => rfl
  | [], _ :: _, h, _ => by simp [Op.bytesLess] at h
  | _ :: _, [], _, h => by simp [Op.bytesLess] at h
  | a :: x, b :: y, h, h' => by
    simp only [Op.bytesLess, Bool.or_eq_false_iff, decide_eq_false_iff_not] at h h'
    have e : a = b := UInt8.le_antisymm (UInt8.not_lt.mp h'.1) (UInt8.not_lt.mp h.1)
    subst e
    simp only [beq_self_eq_true, Bool.true_and] at h h'
    rw [less_tri x y h.2 h'.2]
def cmpW (a b : ByteArray) : Int := if a.size < b.size then -1 else if a.size > b.size then 1 else if Op.bytesLess a.toList b.toList = true then -1 else if a.toList = b.toList then 0 else 1
theorem impl_cmp (a b : ByteArray) : impl_CompareWords.f a b = some (cmpW a b) := by
  unfold impl_CompareWords.f cmpW
  by_cases h1 : a.size < b.size
  · rw [if_pos (by omega), if_pos h1]
  · rw [if_neg (by omega), if_neg h1]
    by_cases h2 : a.size > b.size
    · rw [if_pos (by omega), if_pos h2]
    · rw [if_neg (by omega), if_neg h2]
      split
      · rfl
      · split <;> rfl
theorem spec_cmp (a b : ByteArray) : spec_CompareWords.f a b = some (cmpW a b) := impl_cmp a b
theorem cmp_anti (a b : ByteArray) : cmpW a b = wrap64 (-(cmpW b a)) := by
  have wa : (-1 : Int) = wrap64 (-1) := by unfold wrap64; omega
  have wb : (1 : Int) = wrap64 (- -1) := by unfold wrap64; omega
  have wc : (0 : Int) = wrap64 (-0) := by unfold wrap64; omega
  unfold cmpW
  by_cases h1 : a.size < b.size
  · rw [if_pos h1, if_neg (by omega), if_pos h1]; exact wa
  · by_cases h2 : a.size > b.size
    · rw [if_neg h1, if_pos h2, if_pos h2]; exact wb
    · rw [if_neg h1, if_neg h2, if_neg h2, if_neg h1]
      cases h3 : Op.bytesLess a.toList b.toList
      · cases h4 : Op.bytesLess b.toList a.toList
        · have e := less_tri _ _ h3 h4
          rw [if_pos e, if_pos e.symm]
          exact wc
        · have hne : ¬ a.toList = b.toList := by intro e; rw [e, less_irr] at h4; cases h4
          rw [if_neg hne]
          exact wb
      · have h4 := less_asym _ _ h3
        have hne : ¬ b.toList = a.toList := by intro e; rw [e, less_irr] at h3; cases h3
        rw [h4, if_neg hne]
        exact wa
/-! the words up to a length, one after the other -/
def okPair (a b : ByteArray) : Bool := (decide (a.size < b.size) || (decide (a.size = b.size) && Op.bytesLess a.data.toList b.data.toList)) && decide (a.size ≤ 5) && decide ((nextOf a).data.toList = b.data.toList)
def okRow : List ByteArray → Bool
  | a :: b :: t => okPair a b && okRow (b :: t)
  | _ => true
theorem okUpto (n : Nat) (hn : n ≤ 5) : okRow (upto n) = true := by
  match n, hn with
  | 0, _ => decide +kernel
  | 1, _ => decide +kernel
  | 2, _ => decide +kernel
  | 3, _ => decide +kernel
  | 4, _ => decide +kernel
  | 5, _ => decide +kernel
theorem okRow_get : ∀ (l : List ByteArray), okRow l = true → ∀ i (h : i + 1 < l.length), okPair l[i] l[i + 1] = true
  | [], _, i, h => by simp at h
  | [a], _, i, h => by simp at h
  | a :: b :: t, hr, i, h => by
    simp only [okRow, Bool.and_eq_true] at hr
    cases i with
    | zero => exact hr.1
    | succ i => exact okRow_get (b :: t) hr.2 i (by simpa using h)
theorem data_inj {a b : ByteArray} (h : a.data.toList = b.data.toList) : a = b := bytes_inj (by simp only [bytesOf, h])
theorem words_l0 (x : List Int) (l : List ByteArray) (hl : l.length ≤ 1000) (hr : okRow l = true) (b : Bool)
    (hend : ∀ i : Nat, l.length ≤ i → Ev (fun k => laws_FnWords.l0 k x l i) true) : ∀ d i : Nat, i + 1 + d = l.length → Ev (fun k => laws_FnWords.l0 k x l ((i + 1 : Nat) : Int)) true := by
  intro d
  induction d with
  | zero => intro i h; exact hend (i + 1) (by omega)
  | succ d ih =>
    intro i h
    refine next ?_
    have ep : wrap64 (((i + 1 : Nat) : Int) - 1) = (i : Int) := by rw [w64 (by omega) (by omega)]; omega
    have hp := okRow_get l hr i (by omega)
    simp only [okPair, Bool.and_eq_true, Bool.or_eq_true, decide_eq_true_eq] at hp
    obtain ⟨⟨h1, h2⟩, h3⟩ := hp
    have h3 := data_inj h3
    have hc : cmpW l[i] l[i + 1] = -1 := by
      unfold cmpW
      rcases h1 with h1 | ⟨h1, h4⟩
      · rw [if_pos h1]
      · rw [if_neg (by omega), if_neg (by omega), if_pos]
        have e1 : ∀ s : ByteArray, s.toList = s.data.toList := fun s => ByteArray.toList_eq s
        rw [e1, e1]
        exact h4
    simp only [laws_FnWords.l0, if_pos (show ((i + 1 : Nat) : Int) < (l.length : Int) by omega), ep, if_pos (show (0 : Int) ≤ (i : Int) by omega), if_pos (show (i : Int) < (l.length : Int) by omega), if_pos (show (0 : Int) ≤ ((i + 1 : Nat) : Int) by omega), rdOf_get _ l i (by omega), rdOf_get _ l (i + 1) (by omega), impl_cmp, hc, Option.bind_some, if_true]
    refine Ev.bind (impl_next l[i] (by omega)) ?_
    rw [h3]
    simp only [if_true, up1 (show i + 1 < 9223372036854775807 by omega)]
    exact ih (i + 1) (by omega)
/-! what is drawn -/
theorem pc_size (b : ByteArray) (h : b ∈ [(⟨#[97]⟩ : ByteArray), (⟨#[98]⟩ : ByteArray), (⟨#[97]⟩ : ByteArray), (⟨#[98]⟩ : ByteArray), (⟨#[99]⟩ : ByteArray)]) : b.size = 1 := by
  simp only [List.mem_cons, List.not_mem_nil, or_false] at h
  rcases h with rfl | rfl | rfl | rfl | rfl <;> rfl
theorem drawWord_l0 (b : List Int) (hb : b.length ≤ 140737488351232) (n : Nat) (hn : n ≤ 6) : ∀ (d j : Nat) (s : ByteArray) (i h : Int), j + d = n → s.size ≤ j → Cur b i → ∃ r i' h', Ev (fun k => spec_l2Word.l0 k s n j b i h) (r, i', h') ∧ r.size ≤ 6 ∧ Cur b i' := by
  intro d
  induction d with
  | zero =>
    intro j s i h hj hs hc
    refine ⟨s, i, h, next ?_, by omega, hc⟩
    simp only [spec_l2Word.l0, if_neg (show ¬ (j : Int) < (n : Int) by omega)]
    exact Ev.now _
  | succ d ih =>
    intro j s i h hj hs hc
    obtain ⟨x, i1, h1, e1, m1, c1⟩ := pick b hb i h hc [(⟨#[97]⟩ : ByteArray), (⟨#[98]⟩ : ByteArray), (⟨#[97]⟩ : ByteArray), (⟨#[98]⟩ : ByteArray), (⟨#[99]⟩ : ByteArray)] (by simp) (by simp)
    have hx := pc_size x m1
    obtain ⟨r, i2, h2, e2, s2, c2⟩ := ih (j + 1) (s ++ x) i1 h1 (by omega) (by rw [ByteArray.size_append]; omega) c1
    refine ⟨r, i2, h2, next ?_, s2, c2⟩
    simp only [spec_l2Word.l0, if_pos (show (j : Int) < (n : Int) by omega), e1, Option.bind_some, if_pos (show s.size + x.size ≤ 9223372036854775807 by omega), up1 (show j < 9223372036854775807 by omega)]
    exact e2
theorem drawWord (b : List Int) (hb : b.length ≤ 140737488351232) (i h : Int) (hc : Cur b i) : ∃ r i' h', Ev (fun k => spec_l2Word.f k b i h 6) (r, i', h') ∧ r.size ≤ 6 ∧ Cur b i' := by
  obtain ⟨x, i1, h1, e1, m1, m2, c1⟩ := below b hb i h hc 7 (by omega) (by omega)
  obtain ⟨n, rfl⟩ : ∃ n : Nat, x = n := ⟨x.toNat, by omega⟩
  obtain ⟨r, i2, h2, e2, s2, c2⟩ := drawWord_l0 b hb n (by omega) n 0 ⟨#[]⟩ i1 h1 (by omega) (by simp [ByteArray.size]) c1
  refine ⟨r, i2, h2, ?_, s2, c2⟩
  have ew : wrap64 ((6 : Int) + 1) = 7 := by unfold wrap64; omega
  simp only [spec_l2Word.f, ew, e1, Option.bind_some]
  exact e2
theorem drawAny (b : List Int) (hb : b.length ≤ 140737488351232) (i h : Int) (hc : Cur b i) : ∃ r i' h', Ev (fun k => spec_l2Any.f k b i h) (r, i', h') ∧ r.size ≤ 31 ∧ Cur b i' := by
  obtain ⟨w, i1, h1, e1, s1, c1⟩ := drawWord b hb i h hc
  obtain ⟨x, i2, h2, e2, m2, c2⟩ := pick b hb i1 h1 c1 [(⟨#[]⟩ : ByteArray), (⟨#[97]⟩ : ByteArray), (⟨#[97, 98, 99]⟩ : ByteArray), (⟨#[99, 99]⟩ : ByteArray), (⟨#[97, 98, 100]⟩ : ByteArray), (⟨#[65]⟩ : ByteArray), (⟨#[99, 99, 99, 99, 99, 99, 99, 99, 99, 99, 99, 99, 99, 99, 99, 99, 99, 99, 99, 99, 99, 99, 99, 99, 99, 99, 99, 99, 99, 99]⟩ : ByteArray), (⟨#[97, 97, 97, 97, 97, 97, 97, 97, 97, 97, 97, 97, 97, 97, 97, 97, 97, 97, 97, 97, 97, 97, 97, 97, 97, 97, 97, 97, 97, 97, 97]⟩ : ByteArray), (⟨#[97, 99, 99]⟩ : ByteArray), w] (by simp) (by simp)
  refine ⟨x, i2, h2, ?_, ?_, c2⟩
  · simp only [spec_l2Any.f]
    refine Ev.bind e1 ?_
    simp only [e2, Option.bind_some]
    exact Ev.now _
  · simp only [List.mem_cons, List.not_mem_nil, or_false] at m2
    rcases m2 with rfl | rfl | rfl | rfl | rfl | rfl | rfl | rfl | rfl | rfl <;> first | decide | omega
theorem drawCompare (b : List Int) (hb : b.length ≤ 140737488351232) : ∃ x y, Ev (fun k => spec_DrawCompareWords.f k b) (x, y) := by
  obtain ⟨h, e0⟩ := new b hb
  obtain ⟨x, i1, h1, e1, _, c1⟩ := drawAny b hb 0 h (cur0 b)
  obtain ⟨y, i2, h2, e2, _, c2⟩ := drawAny b hb i1 h1 c1
  refine ⟨x, y, ?_⟩
  simp only [spec_DrawCompareWords.f]
  exact Ev.bind e0 (Ev.bind e1 (Ev.bind e2 (Ev.now _)))
theorem drawNext (b : List Int) (hb : b.length ≤ 140737488351232) : ∃ x, Ev (fun k => spec_DrawNextWord.f k b) x ∧ x.size ≤ 31 := by
  obtain ⟨h, e0⟩ := new b hb
  obtain ⟨x, i1, h1, e1, s1, c1⟩ := drawAny b hb 0 h (cur0 b)
  refine ⟨x, ?_, s1⟩
  simp only [spec_DrawNextWord.f]
  exact Ev.bind e0 (Ev.bind e1 (Ev.now _))
theorem drawLen (b : List Int) (hb : b.length ≤ 140737488351232) : ∃ n, Ev (fun k => spec_DrawWordsOfLength.f k b) n := by
  obtain ⟨h, e0⟩ := new b hb
  obtain ⟨x, i1, h1, e1, _⟩ := below b hb 0 h (cur0 b) 7 (by omega) (by omega)
  refine ⟨wrap64 (x - 1), ?_⟩
  simp only [spec_DrawWordsOfLength.f]
  refine Ev.bind e0 ?_
  simp only [e1, Option.bind_some]
  exact Ev.now _
theorem drawUpTo (b : List Int) (hb : b.length ≤ 140737488351232) : ∃ n, Ev (fun k => spec_DrawWordsUpTo.f k b) n := by
  obtain ⟨h, e0⟩ := new b hb
  obtain ⟨x, i1, h1, e1, _⟩ := below b hb 0 h (cur0 b) 8 (by omega) (by omega)
  refine ⟨wrap64 (x - 1), ?_⟩
  simp only [spec_DrawWordsUpTo.f]
  refine Ev.bind e0 ?_
  simp only [e1, Option.bind_some]
  exact Ev.now _
theorem words_end (x : List Int) (hx : x.length ≤ 1048576) (l : List ByteArray) (i : Nat) (hi : l.length ≤ i) : Ev (fun k => laws_FnWords.l0 k x l i) true := by
  refine next ?_
  simp only [laws_FnWords.l0, if_neg (show ¬ (i : Int) < (l.length : Int) by omega)]
  obtain ⟨a, b, hd⟩ := drawCompare x (by omega)
  obtain ⟨n, hn⟩ := drawLen x (by omega)
  obtain ⟨s, hs, sz⟩ := drawNext x (by omega)
  have hl : (if 0 ≤ n ∧ n ≤ 5 then wordsN n.toNat else []).length ≤ 1000 := by
    split
    · rw [len_words]
      have : 3 ^ n.toNat ≤ 3 ^ 5 := Nat.pow_le_pow_right (by omega) (by omega)
      omega
    · simp
  refine Ev.bind hd (Ev.bind hn (Ev.bind hs ?_))
  simp only [impl_cmp, spec_cmp, Option.bind_some, if_pos (cmp_anti a b), if_true]
  refine Ev.bind (impl_words n) (Ev.bind (spec_words n) (Ev.bind (sameT _ (by omega)) ?_))
  simp only [if_true]
  refine Ev.bind (impl_next s (by omega)) (Ev.bind (spec_next s (by omega)) ?_)
  simp only [if_true]
  refine Ev.bind (impl_word s (by omega)) (Ev.bind (spec_word s (by omega)) ?_)
  exact ev_some (by simp)
theorem pureFnWords : laws_FnWords.Pure := by
  intro l h0 h1 h2
  refine Ev.rounds ?_
  simp only [laws_FnWords.f, laws_big.f, Option.bind_some]
  by_cases hbig : (l.length : Int) > 1048576
  · simp only [hbig, decide_true, if_true]
    exact Ev.now _
  · simp only [hbig, decide_false, if_false, Bool.false_eq_true]
    obtain ⟨n, hn⟩ := drawUpTo l (by omega)
    have hlist : ∃ r, (if n < 0 then [] else upto (min n 5).toNat) = r ∧ r.length ≤ 1000 ∧ okRow r = true := by
      by_cases hn0 : n < 0
      · rw [if_pos hn0]
        exact ⟨[], rfl, by simp, rfl⟩
      · rw [if_neg hn0]
        exact ⟨_, rfl, (len_upto _ (by omega)).1, okUpto _ (by omega)⟩
    have hi := impl_upto n
    have hs := spec_upto n
    obtain ⟨r, er, hl, ho⟩ := hlist
    rw [er] at hi hs
    refine Ev.bind hn (Ev.bind hi (Ev.bind hs (Ev.bind (sameT r (by omega)) ?_)))
    simp only [if_true]
    by_cases h1 : 1 ≤ r.length
    · exact words_l0 l r hl ho true (fun i hi => words_end l (by omega) r i hi) (r.length - 1) 0 (by omega)
    · exact words_end l (by omega) r 1 (by omega)
end Go.Proofs.Ytffagfflgoplbaa.Pl
