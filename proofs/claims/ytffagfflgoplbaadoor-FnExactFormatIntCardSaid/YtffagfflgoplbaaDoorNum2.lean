/- Reading numbers: what l1Read and readDigits compute, and the laws on ParseNumber and ParseInt. No condition. -/
import Derived.Test.YtffagfflgoplbaaDoorNum
import Derived.Test.YtffagfflgoplbaaDoorP1
import Derived.Test.YtffagfflgoplbaaDoorP2
import Derived.Test.YtffagfflgoplbaaDoorP3
namespace Go.Proofs.YtffagfflgoplbaaDoor.Pl
open Go.RowKit Go.Proofs.YtffagfflgoplbaaDoor.P Go.Proofs.YtffagfflgoplbaaDoorW.PrintWords Go.Proofs.YtffagfflgoplbaaDoorW.PrintLast Go.Proofs.YtffagfflgoplbaaDoorW.PrintMore
set_option linter.unusedVariables false
set_option linter.unusedSimpArgs false

/-- what readDigits tells of a text. -/
def rdig (most : Nat) (l : List Int) : Int := if 1 ≤ l.length ∧ l.length ≤ most ∧ ¬ (1 < l.length ∧ l.head? = some 48) ∧ isD l = true then acc 0 l else -1
theorem pow12 (i : Nat) (h : i ≤ 12) : (10 : Int) ^ i ≤ 1000000000000 := by
  have : (10 : Nat) ^ i ≤ 10 ^ 12 := Nat.pow_le_pow_right (by omega) h
  have h2 : ((10 ^ i : Nat) : Int) ≤ ((10 ^ 12 : Nat) : Int) := by exact_mod_cast this
  rw [Int.natCast_pow] at h2
  exact h2
theorem step_acc {x b : Int} (h0 : 0 ≤ x) (h1 : x < 1000000000000) (hb : 48 ≤ b ∧ b ≤ 57) : wrap64 ((wrap64 (10 * x)) + ((b - 48) % 256)) = 10 * x + (b - 48) := by
  rw [w64 (x := 10 * x) (by omega) (by omega), w64 (by omega) (by omega)]
  omega
theorem impl_digits_l0 (s : ByteArray) (hs : s.size ≤ 12) : ∀ (d i : Nat) (x : Int), i + d = s.size → 0 ≤ x → x < 10 ^ i → Ev (fun k => impl_readDigits.l0 k s x i) (if isD ((bytesOf s).drop i) = true then acc x ((bytesOf s).drop i) else -1) := by
  intro d
  induction d with
  | zero =>
    intro i x h h0 h1
    refine next ?_
    simp only [impl_readDigits.l0, if_neg (show ¬ (i : Int) < (s.size : Int) by omega), drop_end s i (by omega)]
    exact ev_some (by simp [isD, acc])
  | succ d ih =>
    intro i x h h0 h1
    have hp := pow12 i (by omega)
    refine next ?_
    simp only [impl_readDigits.l0, if_pos (show (i : Int) < (s.size : Int) by omega), if_pos (show (0 : Int) ≤ i by omega), up1 (show i < 9223372036854775807 by omega), drop_cons s i (by omega)]
    by_cases hlo : bt s i < 48
    · simp only [if_pos hlo]
      exact ev_some (by rw [if_neg]; simp [isD]; omega)
    · simp only [if_neg hlo]
      by_cases hhi : bt s i > 57
      · simp only [if_pos hhi]
        exact ev_some (by rw [if_neg]; simp [isD]; omega)
      · simp only [if_neg hhi, step_acc h0 (show x < 1000000000000 by omega) (show 48 ≤ bt s i ∧ bt s i ≤ 57 by omega)]
        refine ev_eq (ih (i + 1) _ (by omega) (by omega) (by rw [Int.pow_succ]; omega)) ?_
        have e : isD (bt s i :: (bytesOf s).drop (i + 1)) = isD ((bytesOf s).drop (i + 1)) := by
          simp only [isD, List.all_cons, show (decide (48 ≤ bt s i ∧ bt s i ≤ 57)) = true from decide_eq_true (by omega), Bool.true_and]
        rw [e]
        rfl
theorem head_bt (s : ByteArray) (h : 0 < s.size) : (bytesOf s).head? = some (bt s 0) := by
  have := drop_cons s 0 h
  rw [List.drop_zero] at this
  rw [this]
  rfl
theorem impl_digits (s : ByteArray) (most : Nat) (hm : most ≤ 12) (hs : s.size ≤ 140737488351232) : Ev (fun k => impl_readDigits.f k s (most : Int)) (rdig most (bytesOf s)) := by
  have hlen := len_bytes s
  have j1 : Ev (fun k => impl_readDigits.j0 k s true) (-1) := by
    refine next ?_
    simp only [impl_readDigits.j0, if_true]
    exact Ev.now _
  simp only [impl_readDigits.f, rdig, hlen]
  by_cases h1 : s.size < 1
  · simp only [if_pos (show (s.size : Int) < 1 by omega)]
    rw [if_neg (by omega)]
    exact j1
  · simp only [if_neg (show ¬ (s.size : Int) < 1 by omega)]
    by_cases h2 : s.size > most
    · simp only [if_pos (show (s.size : Int) > (most : Int) by omega)]
      rw [if_neg (by omega)]
      exact j1
    · simp only [if_neg (show ¬ (s.size : Int) > (most : Int) by omega)]
      have j0 : Ev (fun k => impl_readDigits.j0 k s false) (if isD (bytesOf s) = true then acc 0 (bytesOf s) else -1) := by
        refine next ?_
        simp only [impl_readDigits.j0, Bool.false_ne_true, if_false]
        exact impl_digits_l0 s (by omega) s.size 0 0 (by omega) (by omega) (by omega)
      by_cases h3 : s.size > 1
      · simp only [if_pos (show (s.size : Int) > 1 by omega), if_pos (show (0 : Int) < (s.size : Int) by omega), head_bt s (show 0 < s.size by omega)]
        by_cases h4 : bt s 0 = 48
        · rw [if_neg (by simp [h4]; omega)]
          simp only [h4, beq_self_eq_true]
          exact j1
        · simp only [beq_eq_false_iff_ne.mpr h4]
          refine ev_eq j0 ?_
          by_cases h5 : isD (bytesOf s) = true
          · rw [if_pos h5, if_pos ⟨by omega, by omega, by simp [h4], h5⟩]
          · rw [if_neg h5, if_neg (by simp [h5])]
      · simp only [if_neg (show ¬ (s.size : Int) > 1 by omega)]
        refine ev_eq j0 ?_
        by_cases h5 : isD (bytesOf s) = true
        · rw [if_pos h5, if_pos ⟨by omega, by omega, by omega, h5⟩]
        · rw [if_neg h5, if_neg (by simp [h5])]

/-- what l1Read tells of a text. -/
def rnum (most : Nat) (l : List Int) : Int × Bool :=
  if l.head? = some 45 then
    if 1 ≤ l.tail.length ∧ l.tail.length ≤ most ∧ isD l.tail = true ∧ fmt (-acc 0 l.tail) = l then (-acc 0 l.tail, true) else (0, false)
  else if 1 ≤ l.length ∧ l.length ≤ most ∧ isD l = true ∧ fmt (acc 0 l) = l then (acc 0 l, true) else (0, false)
theorem fmt_range (n : Int) : ∀ b ∈ fmt n, 0 ≤ b ∧ b ≤ 255 := by
  intro b hb
  unfold fmt at hb
  split at hb
  · simp at hb; omega
  · rw [List.mem_append] at hb
    rcases hb with hb | hb
    · split at hb
      · simp at hb; omega
      · cases hb
    · have := dg_digit _ b hb
      omega
theorem fmt_same (n : Int) (s : ByteArray) : (strOfNums (fmt n)).toList = s.toList ↔ fmt n = bytesOf s := by
  rw [toList_iff]
  constructor
  · intro h; rw [← h, bytes_strOf (fmt_range n)]
  · intro h; rw [h, strOf_bytes]
theorem spec_read_l0 (s t : ByteArray) (neg : Bool) (ht : t.size ≤ 12) : ∀ (d i : Nat) (x : Int), i + d = t.size → 0 ≤ x → x < 10 ^ i →
    Ev (fun k => spec_l1Read.l0 k s neg t x i) (if isD ((bytesOf t).drop i) = true ∧ fmt (if neg = true then -acc x ((bytesOf t).drop i) else acc x ((bytesOf t).drop i)) = bytesOf s then ((if neg = true then -acc x ((bytesOf t).drop i) else acc x ((bytesOf t).drop i)), true) else (0, false)) := by
  intro d
  induction d with
  | zero =>
    intro i x h h0 h1
    have hp := pow12 i (by omega)
    refine next ?_
    simp only [spec_l1Read.l0, if_neg (show ¬ (i : Int) < (t.size : Int) by omega), drop_end t i (by omega)]
    simp only [show acc x [] = x from rfl, show (isD [] = true) = True from eq_true rfl, true_and]
    cases neg with
    | true =>
      simp only [if_true, w64 (show -9223372036854775808 ≤ -x by omega) (by omega)]
      refine Ev.bind (spec_fmt (-x) (by omega) (by omega)) ?_
      simp only [fmt_same]
      by_cases e : fmt (-x) = bytesOf s
      · simp only [e, if_true]
        exact Ev.now _
      · simp only [e, if_false]
        exact Ev.now _
    | false =>
      show Ev _ (if fmt x = bytesOf s then (x, true) else (0, false))
      refine Ev.bind (spec_fmt x (by omega) (by omega)) ?_
      simp only [fmt_same]
      by_cases e : fmt x = bytesOf s
      · simp only [e, if_true]
        exact Ev.now _
      · simp only [e, if_false]
        exact Ev.now _
  | succ d ih =>
    intro i x h h0 h1
    have hp := pow12 i (by omega)
    refine next ?_
    simp only [spec_l1Read.l0, if_pos (show (i : Int) < (t.size : Int) by omega), if_pos (show (0 : Int) ≤ i by omega), up1 (show i < 9223372036854775807 by omega)]
    by_cases hlo : bt t i < 48
    · simp only [if_pos hlo]
      exact ev_some (by rw [if_neg]; rw [drop_cons t i (by omega)]; simp [isD]; omega)
    · simp only [if_neg hlo]
      by_cases hhi : bt t i > 57
      · simp only [if_pos hhi]
        exact ev_some (by rw [if_neg]; rw [drop_cons t i (by omega)]; simp [isD]; omega)
      · simp only [if_neg hhi, step_acc h0 (show x < 1000000000000 by omega) (show 48 ≤ bt t i ∧ bt t i ≤ 57 by omega)]
        refine ev_eq (ih (i + 1) _ (by omega) (by omega) (by rw [Int.pow_succ]; omega)) ?_
        have e : isD ((bytesOf t).drop i) = isD ((bytesOf t).drop (i + 1)) := by
          rw [drop_cons t i (by omega)]
          simp only [isD, List.all_cons, show (decide (48 ≤ bt t i ∧ bt t i ≤ 57)) = true from decide_eq_true (by omega), Bool.true_and]
        have e2 : acc x ((bytesOf t).drop i) = acc (10 * x + (bt t i - 48)) ((bytesOf t).drop (i + 1)) := by
          rw [drop_cons t i (by omega)]
          rfl
        rw [e, e2]
theorem spec_read_j1 (s t : ByteArray) (neg : Bool) (most : Nat) (hm : most ≤ 12) (ht : t.size ≤ 140737488351232) :
    Ev (fun k => spec_l1Read.j1 k s (most : Int) neg t) (if 1 ≤ t.size ∧ t.size ≤ most ∧ isD (bytesOf t) = true ∧ fmt (if neg = true then -acc 0 (bytesOf t) else acc 0 (bytesOf t)) = bytesOf s then ((if neg = true then -acc 0 (bytesOf t) else acc 0 (bytesOf t)), true) else (0, false)) := by
  have j2 : Ev (fun k => spec_l1Read.j2 k s neg t true) (0, false) := by
    refine next ?_
    simp only [spec_l1Read.j2, if_true]
    exact Ev.now _
  refine next ?_
  by_cases h1 : t.size < 1
  · simp only [spec_l1Read.j1, if_pos (show (t.size : Int) < 1 by omega)]
    rw [if_neg (by omega)]
    exact j2
  · simp only [spec_l1Read.j1, if_neg (show ¬ (t.size : Int) < 1 by omega)]
    by_cases h2 : t.size > most
    · simp only [decide_eq_true (show (t.size : Int) > (most : Int) by omega)]
      rw [if_neg (by omega)]
      exact j2
    · simp only [decide_eq_false (show ¬ (t.size : Int) > (most : Int) by omega)]
      refine next ?_
      simp only [spec_l1Read.j2, Bool.false_ne_true, if_false]
      refine ev_eq (spec_read_l0 s t neg (by omega) t.size 0 0 (by omega) (by omega) (by omega)) ?_
      simp only [List.drop_zero, show 1 ≤ t.size by omega, show t.size ≤ most by omega, true_and]
theorem spec_read (s : ByteArray) (most : Nat) (hm : most ≤ 12) (hs : s.size ≤ 140737488351232) : Ev (fun k => spec_l1Read.f k s (most : Int)) (rnum most (bytesOf s)) := by
  have hlen := len_bytes s
  have tail : bytesOf (s.extract 1 s.size) = (bytesOf s).tail := by
    rw [bytes_extract, List.take_of_length_le (by omega), List.drop_one]
  have ts : (s.extract 1 s.size).size = (bytesOf s).tail.length := by rw [← tail, len_bytes]
  have key : ∀ neg : Bool, (neg = true ↔ (bytesOf s).head? = some 45) → Ev (fun k => spec_l1Read.j0 k s (most : Int) neg) (rnum most (bytesOf s)) := by
    intro neg hneg
    refine next ?_
    cases neg with
    | true =>
      have hh := hneg.mp rfl
      have hpos : 1 ≤ s.size := by
        rcases Nat.eq_zero_or_pos s.size with h | h
        · rw [List.eq_nil_of_length_eq_zero (show (bytesOf s).length = 0 by omega)] at hh
          cases hh
        · exact h
      simp only [spec_l1Read.j0, if_true, if_pos (show (1 : Int) ≤ (s.size : Int) by omega)]
      refine ev_eq (spec_read_j1 s (s.extract 1 s.size) true most hm (by rw [ts, List.length_tail]; omega)) ?_
      simp only [rnum, if_pos hh, tail, ts, if_true]
    | false =>
      have hh : ¬ (bytesOf s).head? = some 45 := fun e => by cases hneg.mpr e
      simp only [spec_l1Read.j0, Bool.false_ne_true, if_false]
      refine ev_eq (spec_read_j1 s s false most hm hs) ?_
      simp only [rnum, if_neg hh, hlen]
      rfl
  simp only [spec_l1Read.f]
  by_cases h : s.size = 0
  · simp only [if_neg (show ¬ (s.size : Int) > 0 by omega)]
    refine key false ⟨fun e => (by cases e), fun e => ?_⟩
    rw [List.eq_nil_of_length_eq_zero (show (bytesOf s).length = 0 by omega)] at e
    cases e
  · simp only [if_pos (show (s.size : Int) > 0 by omega), if_pos (show (0 : Int) < (s.size : Int) by omega)]
    exact key _ (by rw [head_bt s (by omega)]; simp)

/-- The two readings agree. -/
theorem read_agree (most : Nat) (l : List Int) : rnum most l = (let t := if l.head? = some 45 then l.tail else l; if rdig most t < 0 ∨ (rdig most t = 0 ∧ l.head? = some 45) then (0, false) else (if l.head? = some 45 then -rdig most t else rdig most t, true)) := by
  have hnn : ∀ t : List Int, isD t = true → 0 ≤ acc 0 t := fun t h => (acc_range t 0 0 h (by omega) (by omega)).1
  have hrd : ∀ t : List Int, (1 ≤ t.length ∧ t.length ≤ most ∧ isD t = true ∧ fmt (acc 0 t) = t) ↔ 0 ≤ rdig most t := by
    intro t
    constructor
    · intro ⟨h1, h2, h3, h4⟩
      have hne : t ≠ [] := by intro e; rw [e] at h1; simp at h1
      rw [fmt_acc t h3 hne] at h4
      rw [rdig, if_pos ⟨h1, h2, h4, h3⟩]
      exact hnn t h3
    · intro h
      unfold rdig at h
      split at h
      · rename_i hc
        have hne : t ≠ [] := by intro e; rw [e] at hc; simp at hc
        exact ⟨hc.1, hc.2.1, hc.2.2.2, (fmt_acc t hc.2.2.2 hne).mpr hc.2.2.1⟩
      · omega
  have hval : ∀ t : List Int, 0 ≤ rdig most t → rdig most t = acc 0 t := by
    intro t h
    unfold rdig at h ⊢
    split
    · rfl
    · rename_i hc; rw [if_neg hc] at h; omega
  by_cases hh : l.head? = some 45
  · simp only [rnum, if_pos hh]
    obtain ⟨t, rfl⟩ : ∃ t, l = 45 :: t := by
      cases l with
      | nil => cases hh
      | cons a t => simp only [List.head?_cons, Option.some.injEq] at hh; exact ⟨t, by rw [hh]⟩
    simp only [List.tail_cons, List.head?_cons, and_true]
    have hneg : isD t = true → t ≠ [] → (fmt (-acc 0 t) = 45 :: t ↔ fmt (acc 0 t) = t ∧ acc 0 t ≠ 0) := by
      intro hd hne
      have := hnn t hd
      by_cases hz : acc 0 t = 0
      · rw [hz]
        simp [fmt]
      · unfold fmt
        rw [if_neg (by omega), if_pos (by omega), if_neg hz, if_neg (by omega), Int.natAbs_neg]
        simp [hz]
    by_cases hc : 0 ≤ rdig most t
    · have h4 := (hrd t).mpr hc
      have hne : t ≠ [] := by intro e; rw [e] at h4; simp at h4
      by_cases hz : rdig most t = 0
      · have hA : ¬ (1 ≤ t.length ∧ t.length ≤ most ∧ isD t = true ∧ fmt (-acc 0 t) = 45 :: t) := by
          rintro ⟨_, _, _, h⟩
          rw [hval t hc] at hz
          exact ((hneg h4.2.2.1 hne).mp h).2 hz
        have hB : rdig most t < 0 ∨ rdig most t = 0 := .inr hz
        exact (if_neg hA).trans (if_pos hB).symm
      · have hA : 1 ≤ t.length ∧ t.length ≤ most ∧ isD t = true ∧ fmt (-acc 0 t) = 45 :: t := by
          rw [hval t hc] at hz
          exact ⟨h4.1, h4.2.1, h4.2.2.1, (hneg h4.2.2.1 hne).mpr ⟨h4.2.2.2, hz⟩⟩
        have hB : ¬ (rdig most t < 0 ∨ rdig most t = 0) := by omega
        rw [hval t hc] at hB ⊢
        exact (if_pos hA).trans (if_neg hB).symm
    · have hA : ¬ (1 ≤ t.length ∧ t.length ≤ most ∧ isD t = true ∧ fmt (-acc 0 t) = 45 :: t) := by
        rintro ⟨h1, h2, h3, h⟩
        have hne : t ≠ [] := by intro e; rw [e] at h1; simp at h1
        exact hc ((hrd t).mp ⟨h1, h2, h3, ((hneg h3 hne).mp h).1⟩)
      have hB : rdig most t < 0 ∨ rdig most t = 0 := .inl (by omega)
      exact (if_neg hA).trans (if_pos hB).symm
  · simp only [rnum, if_neg hh, hh, and_false, or_false, if_false]
    by_cases hc : 0 ≤ rdig most l
    · rw [if_pos ((hrd l).mpr hc), if_neg (by omega), hval l hc]
    · rw [if_neg (fun h => hc ((hrd l).mp h)), if_pos (by omega)]

theorem rdig_range (most : Nat) (hm : most ≤ 12) (l : List Int) : -1 ≤ rdig most l ∧ rdig most l < 1000000000000 := by
  unfold rdig
  split
  · rename_i h
    have := acc_range l 0 0 h.2.2.2 (by omega) (by omega)
    rw [Nat.zero_add] at this
    have := pow12 l.length (by omega)
    omega
  · omega
theorem spec_num (s : ByteArray) (h0 : s.size ≤ 140737488351232) : Ev (fun k => spec_ParseNumber.f k s) (mx (rdig 6 (bytesOf s)) 0, decide (rdig 6 (bytesOf s) ≥ 0)) := by
  simp only [spec_ParseNumber.f]
  have hr := rdig_range 6 (by omega) (bytesOf s)
  refine Ev.bind (spec_read s 6 (by omega) h0) ?_
  rw [read_agree]
  by_cases hh : (bytesOf s).head? = some 45
  · have hneg : rdig 6 (bytesOf s) = -1 := by
      rw [rdig, if_neg]
      rintro ⟨_, _, _, h⟩
      cases hb : bytesOf s with
      | nil => rw [hb] at hh; cases hh
      | cons a t =>
        rw [hb] at hh h
        simp only [List.head?_cons, Option.some.injEq] at hh
        simp [isD, hh] at h
    simp only [hneg, hh, and_true, if_true]
    have e : ((mx (-1) 0, decide ((-1 : Int) ≥ 0)) : Int × Bool) = (0, false) := by unfold mx; simp
    rw [e]
    by_cases hc : rdig 6 (bytesOf s).tail < 0 ∨ rdig 6 (bytesOf s).tail = 0
    · rw [if_pos hc]
      exact Ev.now _
    · rw [if_neg hc]
      simp only [if_true, if_pos (show -rdig 6 (bytesOf s).tail < 0 by omega)]
      exact Ev.now _
  · simp only [hh, and_false, or_false, if_false]
    by_cases hc : rdig 6 (bytesOf s) < 0
    · rw [if_pos hc]
      exact ev_some (by unfold mx; rw [if_pos hc, decide_eq_false (by omega)])
    · rw [if_neg hc]
      simp only [if_true, if_neg hc]
      exact ev_some (by unfold mx; rw [if_neg hc, decide_eq_true (by omega)])
theorem impl_num (s : ByteArray) (h0 : s.size ≤ 140737488351232) : Ev (fun k => impl_ParseNumber.f k s) (mx (rdig 6 (bytesOf s)) 0, decide (rdig 6 (bytesOf s) ≥ 0)) := by
  simp only [impl_ParseNumber.f]
  refine Ev.bind (impl_digits s 6 (by omega) h0) ?_
  exact Ev.now _
theorem trim_minus (s : ByteArray) (hs : s.size ≤ 140737488351232) : ∃ t, strings_TrimPrefix.f s (⟨#[45]⟩ : ByteArray) = some t ∧ bytesOf t = (if (bytesOf s).head? = some 45 then (bytesOf s).tail else bytesOf s) ∧ t.size ≤ s.size := by
  have hlen := len_bytes s
  have one : ((⟨#[45]⟩ : ByteArray).size : Int) = 1 := rfl
  simp only [strings_TrimPrefix.f, stringslite_TrimPrefix.f, stringslite_HasPrefix.f, one]
  by_cases h : s.size = 0
  · rw [if_neg (show ¬ (s.size : Int) ≥ 1 by omega)]
    refine ⟨s, rfl, ?_, Nat.le_refl _⟩
    rw [List.eq_nil_of_length_eq_zero (show (bytesOf s).length = 0 by omega)]
    simp
  · rw [if_pos (show (s.size : Int) ≥ 1 by omega), if_pos (show (0 : Int) ≤ 1 by omega), if_pos (show (1 : Int) ≤ (s.size : Int) by omega)]
    have e1 : ((s.extract 0 (1 : Int).toNat).toList == (⟨#[45]⟩ : ByteArray).toList) = decide ((bytesOf s).head? = some 45) := by
      rw [Bool.eq_iff_iff]
      simp only [beq_iff_eq, decide_eq_true_eq, toList_iff]
      rw [head_bt s (by omega)]
      constructor
      · intro e
        have := congrArg bytesOf e
        rw [bytes_extract] at this
        have hd := drop_cons s 0 (by omega)
        rw [List.drop_zero] at hd
        rw [hd] at this
        simp only [Int.toNat_one, List.take_succ_cons, List.take_zero, List.drop_zero] at this
        have h45 : bytesOf (⟨#[45]⟩ : ByteArray) = [45] := rfl
        rw [h45] at this
        simpa using this
      · intro e
        apply bytes_inj
        rw [bytes_extract]
        have hd := drop_cons s 0 (by omega)
        rw [List.drop_zero] at hd
        rw [hd]
        simp only [Int.toNat_one, List.take_succ_cons, List.take_zero, List.drop_zero]
        have h45 : bytesOf (⟨#[45]⟩ : ByteArray) = [45] := rfl
        rw [h45]
        simp only [Option.some.injEq] at e
        simpa using e
    simp only [Option.bind_some, e1]
    by_cases hh : (bytesOf s).head? = some 45
    · simp only [hh, decide_true, if_true, if_pos (show (0 : Int) ≤ 1 by omega), if_pos (show (1 : Int) ≤ (s.size : Int) by omega), Option.bind_some]
      refine ⟨s.extract (1 : Int).toNat s.size, rfl, ?_, ?_⟩
      · rw [bytes_extract, Int.toNat_one, List.take_of_length_le (by omega), List.drop_one]
      · rw [ByteArray.size_extract]; omega
    · simp only [hh, decide_false, Bool.false_ne_true, if_false]
      exact ⟨s, rfl, rfl, Nat.le_refl _⟩
theorem impl_int (s : ByteArray) (h0 : s.size ≤ 140737488351232) : Ev (fun k => impl_ParseInt.f k s) (rnum 12 (bytesOf s)) := by
  simp only [impl_ParseInt.f]
  obtain ⟨t, ht, hb, htl⟩ := trim_minus s h0
  have hne : t.toList = s.toList ↔ ¬ (bytesOf s).head? = some 45 := by
    rw [toList_iff]
    constructor
    · intro e hh
      rw [e, if_pos hh] at hb
      cases hl : bytesOf s with
      | nil => rw [hl] at hh; cases hh
      | cons a l => rw [hl] at hb; simp at hb
    · intro hh
      rw [if_neg hh] at hb
      exact bytes_inj hb
  simp only [ht, Option.bind_some]
  refine Ev.bind (impl_digits t 12 (by omega) (by omega)) ?_
  rw [read_agree, hb]
  simp only []
  generalize hx : rdig 12 (if (bytesOf s).head? = some 45 then (bytesOf s).tail else bytesOf s) = x
  have hr := rdig_range 12 (by omega) (if (bytesOf s).head? = some 45 then (bytesOf s).tail else bytesOf s)
  rw [hx] at hr
  have j1 : Ev (fun k => impl_ParseInt.j0 k s t x true) (0, false) := by
    refine next ?_
    simp only [impl_ParseInt.j0, if_true]
    exact Ev.now _
  have j0 : Ev (fun k => impl_ParseInt.j0 k s t x false) (if (bytesOf s).head? = some 45 then -x else x, true) := by
    refine next ?_
    simp only [impl_ParseInt.j0, Bool.false_ne_true, if_false, hne, w64 (show -9223372036854775808 ≤ -x by omega) (by omega)]
    by_cases hh : (bytesOf s).head? = some 45
    · simp only [hh, not_true, if_false, if_true]
      exact Ev.now _
    · simp only [hh, not_false_eq_true, if_false, if_true]
      exact Ev.now _
  by_cases h1 : x < 0
  · simp only [if_pos h1]
    rw [if_pos (.inl h1)]
    exact j1
  · simp only [if_neg h1]
    by_cases h2 : x = 0
    · simp only [if_pos h2]
      by_cases hh : (bytesOf s).head? = some 45
      · rw [if_pos (.inr ⟨h2, hh⟩)]
        rw [show (t.toList != s.toList) = true by rw [bne_iff_ne]; exact fun e => hne.mp e hh]
        exact j1
      · rw [if_neg (by rintro (q | q); exact h1 q; exact hh q.2)]
        rw [show (t.toList != s.toList) = false by rw [bne_eq_false_iff_eq]; exact hne.mpr hh]
        exact j0
    · simp only [if_neg h2]
      rw [if_neg (by rintro (q | q); exact h1 q; exact h2 q.1)]
      exact j0
end Go.Proofs.YtffagfflgoplbaaDoor.Pl
