/- Decimal text: FormatInt, readDigits, l1Read and what follows of them. No condition. -/
import Derived.Test.YtffagfflgoplbaaDoorBase
import Derived.Test.YtffagfflgoplbaaDoorP1
namespace Go.Proofs.YtffagfflgoplbaaDoor.Pl
open Go.RowKit Go.Proofs.YtffagfflgoplbaaDoor.P Go.Proofs.YtffagfflgoplbaaDoorW.PrintWords Go.Proofs.YtffagfflgoplbaaDoorW.PrintLast Go.Proofs.YtffagfflgoplbaaDoorW.PrintMore
set_option linter.unusedVariables false
set_option linter.unusedSimpArgs false

def dg (n : Nat) : List Int := if h : n = 0 then [] else dg (n / 10) ++ [48 + ((n % 10 : Nat) : Int)]
termination_by n
decreasing_by omega
theorem dg_zero : dg 0 = [] := by rw [dg]; simp
theorem dg_pos {n : Nat} (h : n ≠ 0) : dg n = dg (n / 10) ++ [48 + ((n % 10 : Nat) : Int)] := by rw [dg, dif_neg h]
theorem dg_len : ∀ (k n : Nat), n < 10 ^ k → (dg n).length ≤ k := by
  intro k
  induction k with
  | zero => intro n h; have : n = 0 := by omega
            subst this; rw [dg_zero]; simp
  | succ k ih =>
    intro n h
    by_cases h0 : n = 0
    · subst h0; rw [dg_zero]; simp
    · rw [dg_pos h0]
      have := ih (n / 10) (by rw [Nat.pow_succ] at h; omega)
      simp
      omega
theorem dg_digit (n : Nat) : ∀ b ∈ dg n, 48 ≤ b ∧ b ≤ 57 := by
  induction n using Nat.strongRecOn with
  | ind n ih =>
    intro b hb
    by_cases h0 : n = 0
    · subst h0; rw [dg_zero] at hb; cases hb
    · rw [dg_pos h0, List.mem_append] at hb
      rcases hb with hb | hb
      · exact ih (n / 10) (by omega) b hb
      · simp only [List.mem_singleton] at hb
        omega
theorem dg_head (n : Nat) : (dg n).head? ≠ some 48 := by
  induction n using Nat.strongRecOn with
  | ind n ih =>
    by_cases h0 : n = 0
    · subst h0; rw [dg_zero]; simp
    · rw [dg_pos h0]
      by_cases h1 : n / 10 = 0
      · rw [h1, dg_zero]
        simp
        omega
      · have := ih (n / 10) (by omega)
        rw [List.head?_append]
        cases hd : dg (n / 10) with
        | nil => rw [dg_pos h1] at hd; simp at hd
        | cons a t => rw [hd] at this; simpa using this
def fmt (n : Int) : List Int := if n = 0 then [48] else (if n < 0 then [45] else []) ++ dg n.natAbs
theorem strOf_append (a b : List Int) : strOfNums a ++ strOfNums b = strOfNums (a ++ b) := by
  apply bytes_inj
  rw [bytes_append]
  simp [bytesOf, strOfNums]
theorem bytes_strOf {l : List Int} (h : ∀ b ∈ l, 0 ≤ b ∧ b ≤ 255) : bytesOf (strOfNums l) = l := by
  simp only [bytesOf, strOfNums, List.map_map]
  conv => rhs; rw [← List.map_id l]
  apply List.map_congr_left
  intro b hb
  have := h b hb
  simp
  omega
theorem strOf_bytes (s : ByteArray) : strOfNums (bytesOf s) = s := bytes_inj (bytes_strOf fun b hb => bytes_range hb)
theorem spec_fmt_l0 (neg : Bool) : ∀ (d : Nat) (n : Int) (x : List Int), n.natAbs = d → n.natAbs ≤ 9223372036854775808 → (neg = true ↔ n < 0) ∨ n = 0 → (neg = false → 0 ≤ n) → (neg = true → n ≤ 0) → x.length + (dg n.natAbs).length ≤ 1000 →
    Ev (fun k => spec_FormatInt.l0 k n neg (strOfNums x)) (strOfNums ((if neg = true then [45] else []) ++ dg n.natAbs ++ x)) := by
  intro d
  induction d using Nat.strongRecOn with
  | ind d ih =>
    intro n x hd hb hn hp hm hl
    refine next ?_
    by_cases h0 : n = 0
    · subst h0
      cases neg with
      | true =>
        simp only [spec_FormatInt.l0, if_true, size_strOf, if_pos (show 1 + x.length ≤ 9223372036854775807 by omega)]
        refine ev_some ?_
        rw [show (⟨#[45]⟩ : ByteArray) = strOfNums [45] from rfl, strOf_append]
        simp [dg_zero]
      | false =>
        simp only [spec_FormatInt.l0, if_true, Bool.false_ne_true, if_false]
        refine ev_some ?_
        simp [dg_zero]
    · have hne : n.natAbs ≠ 0 := by omega
      have hdg := dg_pos hne
      have hll : (dg (n.natAbs / 10)).length + 1 = (dg n.natAbs).length := by rw [hdg]; simp
      have habs : (Int.tdiv n 10).natAbs = n.natAbs / 10 := by rw [Int.natAbs_tdiv]; rfl
      have hw : wrap64 (Int.tdiv n 10) = Int.tdiv n 10 := w64 (by omega) (by omega)
      have hmod : (Int.tmod n 10).natAbs = n.natAbs % 10 := by rw [Int.natAbs_tmod]; rfl
      have key : ∀ e : Int, e = 48 + ((n.natAbs % 10 : Nat) : Int) → Ev (fun k => spec_FormatInt.l0 k (Int.tdiv n 10) neg (strOfNums [e] ++ strOfNums x)) (strOfNums ((if neg = true then [45] else []) ++ dg n.natAbs ++ x)) := by
        intro e he
        rw [strOf_append]
        have hsg : (neg = true → Int.tdiv n 10 ≤ 0) ∧ (neg = false → 0 ≤ Int.tdiv n 10) := by
          constructor
          · intro q
            have := hm q
            have h1 := Int.neg_tdiv (-n) 10
            rw [Int.neg_neg] at h1
            have h2 : 0 ≤ Int.tdiv (-n) 10 := Int.tdiv_nonneg (by omega) (by omega)
            omega
          · intro q
            exact Int.tdiv_nonneg (hp q) (by omega)
        have hr := ih (n.natAbs / 10) (by omega) (Int.tdiv n 10) ([e] ++ x) habs (by omega) (by
          cases neg with
          | true =>
            have := hsg.1 rfl
            by_cases hz : Int.tdiv n 10 = 0
            · exact .inr hz
            · exact .inl ⟨fun _ => (by omega), fun _ => rfl⟩
          | false =>
            have := hsg.2 rfl
            by_cases hz : Int.tdiv n 10 = 0
            · exact .inr hz
            · exact .inl ⟨fun q => (by cases q), fun q => (by omega)⟩) hsg.2 hsg.1 (by rw [habs]; simp; omega)
        refine ev_eq hr ?_
        rw [habs, hdg, he]
        simp
      by_cases hlt : Int.tmod n 10 < 0
      · simp only [spec_FormatInt.l0, if_neg h0, if_pos hlt, Option.bind_some, size_strOf, List.length_cons, List.length_nil, if_pos (show 0 + 1 + x.length ≤ 9223372036854775807 by omega), hw]
        refine key _ ?_
        rw [w64 (x := -Int.tmod n 10) (by omega) (by omega), w64 (by omega) (by omega)]
        omega
      · simp only [spec_FormatInt.l0, if_neg h0, if_neg hlt, Option.bind_some, size_strOf, List.length_cons, List.length_nil, if_pos (show 0 + 1 + x.length ≤ 9223372036854775807 by omega), hw]
        refine key _ ?_
        rw [w64 (by omega) (by omega)]
        omega
theorem spec_fmt (n : Int) (h0 : -9223372036854775808 ≤ n) (h1 : n ≤ 9223372036854775807) : Ev (fun k => spec_FormatInt.f k n) (strOfNums (fmt n)) := by
  simp only [spec_FormatInt.f, fmt]
  by_cases h : n = 0
  · simp only [if_pos h]
    exact Ev.now _
  · simp only [if_neg h]
    have hl := dg_len 19 n.natAbs (by omega)
    have := spec_fmt_l0 (decide (n < 0)) n.natAbs n [] rfl (by omega) (.inl (by simp)) (by simp) (by simp; omega) (by simp; omega)
    refine ev_eq this ?_
    simp

/-! reading -/
def isD (l : List Int) : Bool := l.all fun b => decide (48 ≤ b ∧ b ≤ 57)
def acc (x : Int) (l : List Int) : Int := l.foldl (fun a b => 10 * a + (b - 48)) x
theorem acc_range : ∀ (l : List Int) (x : Int) (m : Nat), isD l = true → 0 ≤ x → x < 10 ^ m → 0 ≤ acc x l ∧ acc x l < 10 ^ (m + l.length) := by
  intro l
  induction l with
  | nil => intro x m _ h0 h1; exact ⟨h0, h1⟩
  | cons b t ih =>
    intro x m hd h0 h1
    simp only [isD, List.all_cons, Bool.and_eq_true, decide_eq_true_eq] at hd
    have := ih (10 * x + (b - 48)) (m + 1) hd.2 (by omega) (by rw [Int.pow_succ]; omega)
    rw [List.length_cons, show m + (t.length + 1) = m + 1 + t.length by omega]
    exact this
theorem acc_snoc (x : Int) (l : List Int) (b : Int) : acc x (l ++ [b]) = 10 * acc x l + (b - 48) := by simp [acc]
theorem isD_snoc (l : List Int) (b : Int) : isD (l ++ [b]) = (isD l && decide (48 ≤ b ∧ b ≤ 57)) := by simp [isD]
theorem dg_acc_n : ∀ (m : Nat) (l : List Int), l.length = m → isD l = true → l.head? ≠ some 48 → dg (acc 0 l).natAbs = l := by
  intro m
  induction m with
  | zero => intro l hm _ _; rw [List.eq_nil_of_length_eq_zero hm, show acc 0 [] = 0 from rfl]; exact dg_zero
  | succ m ih0 =>
    intro l0 hm hd hh
    obtain ⟨l, b, rfl⟩ : ∃ l b, l0 = l ++ [b] := by
      rcases List.eq_nil_or_concat l0 with h | ⟨l, b, h⟩
      · rw [h] at hm; cases hm
      · exact ⟨l, b, by rw [h, List.concat_eq_append]⟩
    have ih := ih0 l (by simpa using hm)
    rw [isD_snoc] at hd
    simp only [Bool.and_eq_true, decide_eq_true_eq] at hd
    rw [acc_snoc]
    have hr := acc_range l 0 0 hd.1 (by omega) (by omega)
    by_cases hl : l = []
    · subst hl
      simp only [List.nil_append, List.head?_cons, ne_eq, Option.some.injEq] at hh
      rw [show acc 0 [] = 0 from rfl, dg_pos (by omega)]
      rw [show (10 * 0 + (b - 48)).natAbs / 10 = 0 by omega, dg_zero]
      simp
      omega
    · have hh2 : l.head? ≠ some 48 := by
        cases l with
        | nil => exact absurd rfl hl
        | cons a t => simpa using hh
      have h2 := ih hd.1 hh2
      have hnz : acc 0 l ≠ 0 := by
        intro e
        rw [e] at h2
        rw [show (0 : Int).natAbs = 0 from rfl, dg_zero] at h2
        exact hl h2.symm
      rw [dg_pos (by omega), show (10 * acc 0 l + (b - 48)).natAbs / 10 = (acc 0 l).natAbs by omega, h2]
      congr 2
      omega
theorem dg_acc (l : List Int) (hd : isD l = true) (hh : l.head? ≠ some 48) : dg (acc 0 l).natAbs = l := dg_acc_n l.length l rfl hd hh
/-- A text of digits is the text of its number just if it doesn't begin with 0, but for 0 alone. -/
theorem fmt_acc (l : List Int) (hd : isD l = true) (hn : l ≠ []) : fmt (acc 0 l) = l ↔ ¬ (1 < l.length ∧ l.head? = some 48) := by
  have hr := acc_range l 0 0 hd (by omega) (by omega)
  by_cases hh : l.head? = some 48
  · cases l with
    | nil => cases hh
    | cons a t =>
      simp only [List.head?_cons, Option.some.injEq] at hh
      subst hh
      cases t with
      | nil => simp [fmt, acc]
      | cons b t =>
        simp only [List.length_cons, List.head?_cons, and_true]
        constructor
        · intro e
          exfalso
          unfold fmt at e
          split at e
          · simp at e
          · rw [if_neg (by omega), List.nil_append] at e
            have := dg_head (acc 0 (48 :: b :: t)).natAbs
            rw [e] at this
            exact this rfl
        · intro e
          exact absurd (show 1 < t.length + 1 + 1 by omega) e
  · have h2 := dg_acc l hd hh
    have hnz : acc 0 l ≠ 0 := by
      intro e
      rw [e] at h2
      rw [show (0 : Int).natAbs = 0 from rfl, dg_zero] at h2
      exact hn h2.symm
    simp only [hh, and_false, not_false_eq_true, iff_true]
    unfold fmt
    rw [if_neg hnz, if_neg (by omega), List.nil_append]
    exact h2
end Go.Proofs.YtffagfflgoplbaaDoor.Pl
