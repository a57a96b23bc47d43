/- Splitting, words of a length: what the printed functions compute. No condition. -/
import Derived.Test.YtffagfflgoplbaaWd0
import Derived.Test.YtffagfflgoplbaaP1
import Derived.Test.YtffagfflgoplbaaP3
import Derived.Test.YtffagfflgoplbaaP5
import Derived.Test.YtffagfflgoplbaaP6
namespace Go.Proofs.Ytffagfflgoplbaa.Pl
open Go.RowKit Go.Proofs.Ytffagfflgoplbaa.P Go.Proofs.YtffagfflgoplbaaW.PrintWords Go.Proofs.YtffagfflgoplbaaW.PrintLast Go.Proofs.YtffagfflgoplbaaW.PrintMore
set_option linter.unusedVariables false
set_option linter.unusedSimpArgs false

/-! splitting -/
def parts (s : ByteArray) (c : Int) : Nat → Nat → Nat → List ByteArray
  | 0, _, frm => [s.extract frm s.size]
  | d + 1, i, frm => if bt s i = c then s.extract frm i :: parts s c d (i + 1) (i + 1) else parts s c d (i + 1) frm
theorem parts_le (s : ByteArray) (c : Int) : ∀ d i frm, (parts s c d i frm).length ≤ d + 1 ∧ 0 < (parts s c d i frm).length := by
  intro d
  induction d with
  | zero => intro i frm; simp [parts]
  | succ d ih =>
    intro i frm
    simp only [parts]
    split
    · have := ih (i + 1) (i + 1)
      simp
      omega
    · have := ih (i + 1) frm
      omega
theorem spec_split_l0 (s : ByteArray) (c : Int) (hs : s.size ≤ 1048576) : ∀ (d i frm : Nat) (out : List ByteArray), i + d = s.size → frm ≤ i → out.length ≤ i → Ev (fun k => spec_SplitByte.l0 k s c out frm i) (out ++ parts s c d i frm) := by
  intro d
  induction d with
  | zero =>
    intro i frm out h hf ho
    refine next ?_
    simp only [spec_SplitByte.l0, if_pos (show (i : Int) ≤ (s.size : Int) by omega), if_pos (show (i : Int) = (s.size : Int) by omega), if_pos (show (0 : Int) ≤ frm by omega), if_pos (show (frm : Int) ≤ i by omega), if_pos (show out.length < 8796093022208 by omega), up1 (show i < 9223372036854775807 by omega)]
    refine next ?_
    simp only [spec_SplitByte.l0, if_neg (show ¬ ((i + 1 : Nat) : Int) ≤ (s.size : Int) by omega), Int.toNat_natCast]
    have e : i = s.size := by omega
    subst e
    exact Ev.now _
  | succ d ih =>
    intro i frm out h hf ho
    refine next ?_
    simp only [spec_SplitByte.l0, if_pos (show (i : Int) ≤ (s.size : Int) by omega), if_neg (show ¬ (i : Int) = (s.size : Int) by omega), if_pos (show (0 : Int) ≤ i by omega), if_pos (show (i : Int) < (s.size : Int) by omega), up1 (show i < 9223372036854775807 by omega), parts]
    by_cases hc : bt s i = c
    · simp only [if_pos hc, if_pos (show (0 : Int) ≤ frm by omega), if_pos (show (frm : Int) ≤ i by omega), if_pos (show out.length < 8796093022208 by omega), Int.toNat_natCast]
      exact ev_eq (ih (i + 1) (i + 1) _ (by omega) (by omega) (by simp; omega)) (by simp)
    · simp only [if_neg hc]
      exact ih (i + 1) frm _ (by omega) (by omega) (by omega)
theorem impl_split_l0 (s : ByteArray) (c : Int) (hs : s.size ≤ 1048576) : ∀ (d i frm : Nat) (out : List ByteArray), i + d = s.size → frm ≤ i → out.length ≤ i → Ev (fun k => impl_SplitByte.l0 k s c out frm i) (out ++ parts s c d i frm) := by
  intro d
  induction d with
  | zero =>
    intro i frm out h hf ho
    refine next ?_
    simp only [impl_SplitByte.l0, if_neg (show ¬ (i : Int) < (s.size : Int) by omega), if_pos (show (0 : Int) ≤ frm by omega), if_pos (show (frm : Int) ≤ (s.size : Int) by omega), if_pos (show out.length < 8796093022208 by omega), Int.toNat_natCast]
    exact Ev.now _
  | succ d ih =>
    intro i frm out h hf ho
    refine next ?_
    simp only [impl_SplitByte.l0, if_pos (show (i : Int) < (s.size : Int) by omega), if_pos (show (0 : Int) ≤ i by omega), up1 (show i < 9223372036854775807 by omega), parts]
    by_cases hc : bt s i = c
    · simp only [if_pos hc, if_pos (show (0 : Int) ≤ frm by omega), if_pos (show (frm : Int) ≤ i by omega), if_pos (show (i : Int) ≤ (s.size : Int) by omega), if_pos (show out.length < 8796093022208 by omega), Int.toNat_natCast]
      exact ev_eq (ih (i + 1) (i + 1) _ (by omega) (by omega) (by simp; omega)) (by simp)
    · simp only [if_neg hc]
      exact ih (i + 1) frm _ (by omega) (by omega) (by omega)
def split (s : ByteArray) (c : Int) : List ByteArray := parts s c s.size 0 0
theorem spec_split (s : ByteArray) (c : Int) (hs : s.size ≤ 1048576) : Ev (fun k => spec_SplitByte.f k s c) (split s c) :=
  spec_split_l0 s c hs s.size 0 0 [] (by omega) (by omega) (by simp)
theorem impl_split (s : ByteArray) (c : Int) (hs : s.size ≤ 1048576) : Ev (fun k => impl_SplitByte.f k s c) (split s c) :=
  impl_split_l0 s c hs s.size 0 0 [] (by omega) (by omega) (by simp)

/-! words of a length -/
def pc (j : Nat) : ByteArray := (⟨#[97, 98, 99]⟩ : ByteArray).extract j (j + 1)
def three (w : ByteArray) : List ByteArray := [w ++ pc 0, w ++ pc 1, w ++ pc 2]
def longer (l : List ByteArray) : List ByteArray := l.flatMap three
def wordsN : Nat → List ByteArray
  | 0 => [⟨#[]⟩]
  | n + 1 => longer (wordsN n)
theorem len_longer (l : List ByteArray) : (longer l).length = 3 * l.length := by
  induction l with
  | nil => rfl
  | cons a t ih => simp only [longer, List.flatMap_cons, List.length_append, three, List.length_cons, List.length_nil] at ih ⊢; omega
theorem size_pc (j : Nat) (h : j < 3) : (pc j).size = 1 := by
  match j, h with
  | 0, _ => rfl
  | 1, _ => rfl
  | 2, _ => rfl
theorem size_longer {l : List ByteArray} {m : Nat} (h : ∀ w ∈ l, w.size = m) : ∀ w ∈ longer l, w.size = m + 1 := by
  intro w hw
  simp only [longer, List.mem_flatMap, three, List.mem_cons, List.not_mem_nil, or_false] at hw
  obtain ⟨x, hx, rfl | rfl | rfl⟩ := hw <;> simp only [ByteArray.size_append, h x hx] <;> rfl
theorem size_words (n : Nat) : ∀ w ∈ wordsN n, w.size = n := by
  induction n with
  | zero => intro w hw; simp only [wordsN, List.mem_singleton] at hw; subst hw; rfl
  | succ n ih => exact size_longer ih
theorem len_words (n : Nat) : (wordsN n).length = 3 ^ n := by
  induction n with
  | zero => rfl
  | succ n ih => rw [wordsN, len_longer, ih, Nat.pow_succ]; omega
theorem spec_words_l2 (n : Int) (l : List ByteArray) (r : Int) (i : Nat) (out : List ByteArray) (res : List ByteArray) (hi : i < l.length) (hsz : l[i].size ≤ 1000) (ho : out.length ≤ 1000000) (hll : l.length ≤ 1000000)
    (h : Ev (fun k => spec_WordsOfLength.l1 k n l r (out ++ three l[i]) ((i + 1 : Nat) : Int)) res) : Ev (fun k => spec_WordsOfLength.l2 k n l r out i 0) res := by
  have w0 : wrap64 ((0 : Int) + 1) = 1 := by unfold wrap64; omega
  have w1 : wrap64 ((1 : Int) + 1) = 2 := by unfold wrap64; omega
  have w2 : wrap64 ((2 : Int) + 1) = 3 := by unfold wrap64; omega
  have p0 : (⟨#[97, 98, 99]⟩ : ByteArray).extract (0 : Int).toNat (1 : Int).toNat = pc 0 := rfl
  have p1 : (⟨#[97, 98, 99]⟩ : ByteArray).extract (1 : Int).toNat (2 : Int).toNat = pc 1 := rfl
  have p2 : (⟨#[97, 98, 99]⟩ : ByteArray).extract (2 : Int).toNat (3 : Int).toNat = pc 2 := rfl
  refine next ?_
  simp only [spec_WordsOfLength.l2, if_pos (show (0 : Int) < 3 by omega), if_pos (show (0 : Int) ≤ i by omega), if_pos (show (i : Int) < (l.length : Int) by omega), if_pos (show (0 : Int) ≤ 0 by omega), w0, if_pos (show (0 : Int) ≤ 1 by omega), if_pos (show (1 : Int) ≤ 3 by omega), p0, rdOf_get _ l i hi, size_pc 0 (by omega), if_pos (show l[i].size + 1 ≤ 9223372036854775807 by omega), if_pos (show out.length < 8796093022208 by omega)]
  refine next ?_
  simp only [spec_WordsOfLength.l2, if_pos (show (1 : Int) < 3 by omega), if_pos (show (0 : Int) ≤ i by omega), if_pos (show (i : Int) < (l.length : Int) by omega), if_pos (show (0 : Int) ≤ 1 by omega), w1, if_pos (show (1 : Int) ≤ 2 by omega), if_pos (show (2 : Int) ≤ 3 by omega), p1, rdOf_get _ l i hi, size_pc 1 (by omega), if_pos (show l[i].size + 1 ≤ 9223372036854775807 by omega), List.length_append, List.length_cons, List.length_nil, if_pos (show out.length + (0 + 1) < 8796093022208 by omega)]
  refine next ?_
  simp only [spec_WordsOfLength.l2, if_pos (show (2 : Int) < 3 by omega), if_pos (show (0 : Int) ≤ i by omega), if_pos (show (i : Int) < (l.length : Int) by omega), if_pos (show (0 : Int) ≤ 2 by omega), w2, if_pos (show (2 : Int) ≤ 3 by omega), if_pos (show (3 : Int) ≤ 3 by omega), p2, rdOf_get _ l i hi, size_pc 2 (by omega), if_pos (show l[i].size + 1 ≤ 9223372036854775807 by omega), List.length_append, List.length_cons, List.length_nil, if_pos (show out.length + (0 + 1) + (0 + 1) < 8796093022208 by omega)]
  refine next ?_
  simp only [spec_WordsOfLength.l2, if_neg (show ¬ (3 : Int) < 3 by omega)]
  have e : out ++ [l[i] ++ pc 0] ++ [l[i] ++ pc 1] ++ [l[i] ++ pc 2] = out ++ three l[i] := by simp [three]
  rw [e]
  rw [up1 (by omega)]
  exact h
theorem spec_words_l1 (n : Int) (l : List ByteArray) (r : Int) (hsz : ∀ w ∈ l, w.size ≤ 1000) (hll : l.length ≤ 100000) (res : List ByteArray) (h : Ev (fun k => spec_WordsOfLength.l0 k n (longer l) (wrap64 (r + 1))) res) :
    ∀ (d i : Nat) (out : List ByteArray), i + d = l.length → out = longer (l.take i) → Ev (fun k => spec_WordsOfLength.l1 k n l r out i) res := by
  intro d
  induction d with
  | zero =>
    intro i out hd ho
    refine next ?_
    simp only [spec_WordsOfLength.l1, if_neg (show ¬ (i : Int) < (l.length : Int) by omega)]
    rw [ho, List.take_of_length_le (by omega)]
    exact h
  | succ d ih =>
    intro i out hd ho
    have hi : i < l.length := by omega
    refine next ?_
    simp only [spec_WordsOfLength.l1, if_pos (show (i : Int) < (l.length : Int) by omega)]
    refine spec_words_l2 n l r i out res hi (hsz _ (List.getElem_mem _)) (by rw [ho, len_longer, List.length_take]; omega) (by omega) ?_
    refine ih (i + 1) _ (by omega) ?_
    rw [ho, List.take_succ_eq_append_getElem hi]
    simp only [longer, List.flatMap_append, List.flatMap_cons, List.flatMap_nil, List.append_nil]
theorem spec_words_l0 (n : Nat) (hn : n ≤ 5) : ∀ (d i : Nat), i + d = n → Ev (fun k => spec_WordsOfLength.l0 k n (wordsN i) i) (wordsN n) := by
  intro d
  induction d with
  | zero =>
    intro i h
    refine next ?_
    simp only [spec_WordsOfLength.l0, if_neg (show ¬ (i : Int) < (n : Int) by omega)]
    have : i = n := by omega
    subst this
    exact Ev.now _
  | succ d ih =>
    intro i h
    have hlen : (wordsN i).length ≤ 100000 := by
      rw [len_words]
      have : 3 ^ i ≤ 3 ^ 5 := Nat.pow_le_pow_right (by omega) (by omega)
      omega
    refine next ?_
    simp only [spec_WordsOfLength.l0, if_pos (show (i : Int) < (n : Int) by omega)]
    refine spec_words_l1 n (wordsN i) i (fun w hw => by rw [size_words i w hw]; omega) hlen _ ?_ (wordsN i).length 0 [] (by omega) rfl
    rw [up1 (by omega)]
    exact ih (i + 1) (by omega)
theorem spec_words (n : Int) : Ev (fun k => spec_WordsOfLength.f k n) (if 0 ≤ n ∧ n ≤ 5 then wordsN n.toNat else []) := by
  simp only [spec_WordsOfLength.f, spec_l1In.f]
  by_cases h0 : 0 ≤ n
  · by_cases h5 : n ≤ 5
    · simp only [ge_iff_le, if_pos h0, Option.bind_some, h5, decide_true, if_true, h0, true_and]
      obtain ⟨m, rfl⟩ := Int.eq_ofNat_of_zero_le h0
      rw [Int.toNat_natCast]
      exact spec_words_l0 m (by omega) m 0 (by omega)
    · simp only [ge_iff_le, if_pos h0, Option.bind_some, h5, decide_false, if_neg Bool.false_ne_true, h0, true_and, if_false]
      exact Ev.now _
  · simp only [ge_iff_le, if_neg h0, Option.bind_some, h0, false_and, if_false, if_neg Bool.false_ne_true]
    exact Ev.now _

theorem impl_words_l2 (w : ByteArray) (n r : Int) (l : List ByteArray) (m : Int) (i : Nat) (out : List ByteArray) (res : List ByteArray) (hsz : w.size ≤ 1000) (ho : out.length ≤ 1000000) (hi : i ≤ 1000000)
    (h : Ev (fun k => impl_WordsOfLength.l1 k (out ++ three w) n r l m ((i + 1 : Nat) : Int)) res) : Ev (fun k => impl_WordsOfLength.l2 k out w n r l m i 0) res := by
  have w0 : wrap64 ((0 : Int) + 1) = 1 := by unfold wrap64; omega
  have w1 : wrap64 ((1 : Int) + 1) = 2 := by unfold wrap64; omega
  have w2 : wrap64 ((2 : Int) + 1) = 3 := by unfold wrap64; omega
  have p0 : (⟨#[97, 98, 99]⟩ : ByteArray).extract (0 : Int).toNat (1 : Int).toNat = pc 0 := rfl
  have p1 : (⟨#[97, 98, 99]⟩ : ByteArray).extract (1 : Int).toNat (2 : Int).toNat = pc 1 := rfl
  have p2 : (⟨#[97, 98, 99]⟩ : ByteArray).extract (2 : Int).toNat (3 : Int).toNat = pc 2 := rfl
  refine next ?_
  simp only [impl_WordsOfLength.l2, if_pos (show (0 : Int) < 3 by omega), if_pos (show (0 : Int) ≤ 0 by omega), w0, if_pos (show (0 : Int) ≤ 1 by omega), if_pos (show (1 : Int) ≤ 3 by omega), p0, size_pc 0 (by omega), if_pos (show w.size + 1 ≤ 9223372036854775807 by omega), if_pos (show out.length < 8796093022208 by omega)]
  refine next ?_
  simp only [impl_WordsOfLength.l2, if_pos (show (1 : Int) < 3 by omega), if_pos (show (0 : Int) ≤ 1 by omega), w1, if_pos (show (1 : Int) ≤ 2 by omega), if_pos (show (2 : Int) ≤ 3 by omega), p1, size_pc 1 (by omega), if_pos (show w.size + 1 ≤ 9223372036854775807 by omega), List.length_append, List.length_cons, List.length_nil, if_pos (show out.length + (0 + 1) < 8796093022208 by omega)]
  refine next ?_
  simp only [impl_WordsOfLength.l2, if_pos (show (2 : Int) < 3 by omega), if_pos (show (0 : Int) ≤ 2 by omega), w2, if_pos (show (2 : Int) ≤ 3 by omega), if_pos (show (3 : Int) ≤ 3 by omega), p2, size_pc 2 (by omega), if_pos (show w.size + 1 ≤ 9223372036854775807 by omega), List.length_append, List.length_cons, List.length_nil, if_pos (show out.length + (0 + 1) + (0 + 1) < 8796093022208 by omega)]
  refine next ?_
  simp only [impl_WordsOfLength.l2, if_neg (show ¬ (3 : Int) < 3 by omega)]
  have e : out ++ [w ++ pc 0] ++ [w ++ pc 1] ++ [w ++ pc 2] = out ++ three w := by simp [three]
  rw [e, up1 (by omega)]
  exact h
theorem impl_words_l1 (n r : Int) (l : List ByteArray) (hsz : ∀ w ∈ l, w.size ≤ 1000) (hll : l.length ≤ 100000) (res : List ByteArray) (h : Ev (fun k => impl_WordsOfLength.l0 k (longer l) n (wrap64 (r + 1))) res) :
    ∀ (d i : Nat) (out : List ByteArray), i + d = l.length → out = longer (l.take i) → Ev (fun k => impl_WordsOfLength.l1 k out n r l (l.length : Int) i) res := by
  intro d
  induction d with
  | zero =>
    intro i out hd ho
    refine next ?_
    simp only [impl_WordsOfLength.l1, if_neg (show ¬ (i : Int) < (l.length : Int) by omega)]
    rw [ho, List.take_of_length_le (by omega)]
    exact h
  | succ d ih =>
    intro i out hd ho
    have hi : i < l.length := by omega
    refine next ?_
    simp only [impl_WordsOfLength.l1, if_pos (show (i : Int) < (l.length : Int) by omega), if_pos (show (0 : Int) ≤ i by omega), rdOf_get _ l i hi]
    refine impl_words_l2 _ n r l _ i out res (hsz _ (List.getElem_mem _)) (by rw [ho, len_longer, List.length_take]; omega) (by omega) ?_
    refine ih (i + 1) _ (by omega) ?_
    rw [ho, List.take_succ_eq_append_getElem hi]
    simp only [longer, List.flatMap_append, List.flatMap_cons, List.flatMap_nil, List.append_nil]
theorem impl_words_l0 (n : Nat) (hn : n ≤ 5) : ∀ (d i : Nat), i + d = n → Ev (fun k => impl_WordsOfLength.l0 k (wordsN i) n i) (wordsN n) := by
  intro d
  induction d with
  | zero =>
    intro i h
    refine next ?_
    simp only [impl_WordsOfLength.l0, if_neg (show ¬ (i : Int) < (n : Int) by omega)]
    have : i = n := by omega
    subst this
    exact Ev.now _
  | succ d ih =>
    intro i h
    have hlen : (wordsN i).length ≤ 100000 := by
      rw [len_words]
      have : 3 ^ i ≤ 3 ^ 5 := Nat.pow_le_pow_right (by omega) (by omega)
      omega
    refine next ?_
    simp only [impl_WordsOfLength.l0, if_pos (show (i : Int) < (n : Int) by omega)]
    refine impl_words_l1 n i (wordsN i) (fun w hw => by rw [size_words i w hw]; omega) hlen _ ?_ (wordsN i).length 0 [] (by omega) rfl
    rw [up1 (by omega)]
    exact ih (i + 1) (by omega)
theorem impl_words (n : Int) : Ev (fun k => impl_WordsOfLength.f k n) (if 0 ≤ n ∧ n ≤ 5 then wordsN n.toNat else []) := by
  simp only [impl_WordsOfLength.f, impl_within.f]
  by_cases h0 : 0 ≤ n
  · by_cases h5 : n ≤ 5
    · simp only [ge_iff_le, if_pos h0, Option.bind_some, h5, decide_true, if_true, h0, true_and]
      obtain ⟨m, rfl⟩ := Int.eq_ofNat_of_zero_le h0
      rw [Int.toNat_natCast]
      exact impl_words_l0 m (by omega) m 0 (by omega)
    · simp only [ge_iff_le, if_pos h0, Option.bind_some, h5, decide_false, if_neg Bool.false_ne_true, h0, true_and, if_false]
      exact Ev.now _
  · simp only [ge_iff_le, if_neg h0, Option.bind_some, h0, false_and, if_false, if_neg Bool.false_ne_true]
    exact Ev.now _

/-! words up to a length -/
def upto : Nat → List ByteArray
  | 0 => wordsN 0
  | n + 1 => upto n ++ wordsN (n + 1)
def before : Nat → List ByteArray
  | 0 => []
  | n + 1 => upto n
theorem before_next (i : Nat) : before i ++ wordsN i = upto i := by cases i <;> rfl
theorem len_upto (n : Nat) (hn : n ≤ 5) : (upto n).length ≤ 1000 ∧ (before n).length ≤ 1000 := by
  match n, hn with
  | 0, _ => decide +kernel
  | 1, _ => decide +kernel
  | 2, _ => decide +kernel
  | 3, _ => decide +kernel
  | 4, _ => decide +kernel
  | 5, _ => decide +kernel
theorem spec_upto_l0 (n : Int) (m : Nat) (hm : (m : Int) = min n 5) : ∀ (d i : Nat), i + d = m + 1 → Ev (fun k => spec_WordsUpTo.l0 k n (before i) i) (upto m) := by
  intro d
  induction d with
  | zero =>
    intro i h
    have e : i = m + 1 := by omega
    subst e
    refine next ?_
    by_cases h1 : ((m + 1 : Nat) : Int) ≤ n
    · simp only [spec_WordsUpTo.l0, if_pos h1, if_neg (show ¬ ((m + 1 : Nat) : Int) ≤ 5 by omega)]
      exact Ev.now _
    · simp only [spec_WordsUpTo.l0, if_neg h1]
      exact Ev.now _
  | succ d ih =>
    intro i h
    refine next ?_
    simp only [spec_WordsUpTo.l0, if_pos (show (i : Int) ≤ n by omega), if_pos (show (i : Int) ≤ 5 by omega), up1 (show i < 9223372036854775807 by omega)]
    refine Ev.bind (spec_words i) ?_
    rw [if_pos (by omega), Int.toNat_natCast]
    have hl := (len_upto i (by omega)).1
    rw [← before_next, List.length_append] at hl
    simp only [if_pos (show (before i).length + (wordsN i).length < 8796093022208 by omega), before_next]
    exact ih (i + 1) (by omega)
theorem spec_upto (n : Int) : Ev (fun k => spec_WordsUpTo.f k n) (if n < 0 then [] else upto (min n 5).toNat) := by
  simp only [spec_WordsUpTo.f]
  by_cases h : n < 0
  · rw [if_pos h]
    refine next ?_
    simp only [spec_WordsUpTo.l0, if_neg (show ¬ (0 : Int) ≤ n by omega)]
    exact Ev.now _
  · rw [if_neg h]
    exact spec_upto_l0 n (min n 5).toNat (by omega) ((min n 5).toNat + 1) 0 (by omega)
theorem impl_upto_l0 (n : Int) (m : Nat) (hm : (m : Int) = min n 5) : ∀ (d i : Nat), i + d = m + 1 → Ev (fun k => impl_WordsUpTo.l0 k n (before i) i) (upto m) := by
  have hmn : mn n 5 = min n 5 := by unfold mn; split <;> omega
  intro d
  induction d with
  | zero =>
    intro i h
    have e : i = m + 1 := by omega
    subst e
    refine next ?_
    simp only [impl_WordsUpTo.l0, hmn, if_neg (show ¬ ((m + 1 : Nat) : Int) ≤ min n 5 by omega)]
    exact Ev.now _
  | succ d ih =>
    intro i h
    refine next ?_
    simp only [impl_WordsUpTo.l0, hmn, if_pos (show (i : Int) ≤ min n 5 by omega), up1 (show i < 9223372036854775807 by omega)]
    refine Ev.bind (impl_words i) ?_
    rw [if_pos (by omega), Int.toNat_natCast]
    have hl := (len_upto i (by omega)).1
    rw [← before_next, List.length_append] at hl
    simp only [if_pos (show (before i).length + (wordsN i).length < 8796093022208 by omega), before_next]
    exact ih (i + 1) (by omega)
theorem impl_upto (n : Int) : Ev (fun k => impl_WordsUpTo.f k n) (if n < 0 then [] else upto (min n 5).toNat) := by
  simp only [impl_WordsUpTo.f]
  by_cases h : n < 0
  · simp only [if_pos h]
    exact Ev.now _
  · simp only [if_neg h]
    exact impl_upto_l0 n (min n 5).toNat (by omega) ((min n 5).toNat + 1) 0 (by omega)

end Go.Proofs.Ytffagfflgoplbaa.Pl
