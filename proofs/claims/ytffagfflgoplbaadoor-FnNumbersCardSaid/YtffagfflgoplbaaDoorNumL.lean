/- Numbers as strconv.Itoa writes them; what FnNumbers draws. No condition. -/
import Derived.Test.YtffagfflgoplbaaDoorNum2
import Derived.Test.YtffagfflgoplbaaDoorDr
import Derived.Lib.ItoaNum
import Derived.Test.YtffagfflgoplbaaDoorP1
import Derived.Test.YtffagfflgoplbaaDoorP2
namespace Go.Proofs.YtffagfflgoplbaaDoor.Pl
open Go.RowKit Go.Proofs.YtffagfflgoplbaaDoor.P Go.Proofs.YtffagfflgoplbaaDoorW.PrintWords Go.Proofs.YtffagfflgoplbaaDoorW.PrintLast Go.Proofs.YtffagfflgoplbaaDoorW.PrintMore
set_option linter.unusedVariables false
set_option linter.unusedSimpArgs false

def nums (l : List UInt8) : List Int := l.map fun b => (b.toNat : Int)
theorem nums_dec : ∀ (m u : Nat), u ≤ m → nums (Lib.decDigits u) = if u = 0 then [48] else dg u := by
  intro m
  induction m with
  | zero =>
    intro u h
    obtain rfl : u = 0 := by omega
    rw [Lib.decDigits]
    rfl
  | succ m ih =>
    intro u h
    by_cases hu : u = 0
    · subst hu
      rw [Lib.decDigits]
      rfl
    · rw [if_neg hu, Lib.decDigits, dg_pos hu]
      by_cases h10 : u < 10
      · rw [dif_pos h10, show u / 10 = 0 by omega, dg_zero, show u % 10 = u by omega]
        simp only [nums, List.map_cons, List.map_nil, List.nil_append, List.cons.injEq, and_true]
        rw [UInt8.toNat_ofNat']
        omega
      · rw [dif_neg h10]
        have := ih (u / 10) (by omega)
        rw [if_neg (by omega)] at this
        simp only [nums, List.map_append, List.map_cons, List.map_nil] at this ⊢
        rw [this, UInt8.toNat_ofNat']
        congr 2
        omega
theorem nums_itoa (n : Int) : nums (Lib.itoa n) = fmt n := by
  unfold Lib.itoa fmt
  by_cases h0 : n = 0
  · subst h0
    rw [if_neg (by omega), if_pos rfl]
    rw [nums_dec 0 _ (by simp)]
    rfl
  · rw [if_neg h0]
    by_cases hn : n < 0
    · rw [if_pos hn, if_pos hn]
      have := nums_dec _ n.natAbs (Nat.le_refl _)
      rw [if_neg (by omega)] at this
      simp only [nums, List.map_cons] at this ⊢
      rw [this]
      rfl
    · rw [if_neg hn, if_neg hn, show n.toNat = n.natAbs by omega]
      have := nums_dec _ n.natAbs (Nat.le_refl _)
      rw [if_neg (by omega)] at this
      rw [this]
      rfl
def itoaS (n : Int) : ByteArray := ⟨(Lib.itoa n).toArray⟩
theorem bytes_itoa (n : Int) : bytesOf (itoaS n) = fmt n := by
  rw [← nums_itoa]
  simp [bytesOf, itoaS, nums]
theorem itoa_fmt (n : Int) : itoaS n = strOfNums (fmt n) := bytes_inj (by rw [bytes_itoa, bytes_strOf (fmt_range n)])
theorem isD_dg (n : Nat) : isD (dg n) = true := by
  simp only [isD, List.all_eq_true, decide_eq_true_eq]
  exact dg_digit n
theorem acc_dg : ∀ (m u : Nat), u ≤ m → acc 0 (dg u) = u := by
  intro m
  induction m with
  | zero =>
    intro u h
    obtain rfl : u = 0 := by omega
    rw [dg_zero]
    rfl
  | succ m ih =>
    intro u h
    by_cases hu : u = 0
    · subst hu; rw [dg_zero]; rfl
    · rw [dg_pos hu, acc_snoc, ih (u / 10) (by omega)]
      omega
theorem dg_ne (n : Nat) (h : n ≠ 0) : 1 ≤ (dg n).length := by rw [dg_pos h]; simp
/-- What reading tells of a written number. -/
theorem rnum_fmt (n : Int) : rnum 12 (fmt n) = if (fmt n).length ≤ 12 ∨ n < 0 ∧ (fmt n).length ≤ 13 then (n, true) else (0, false) := by
  by_cases h0 : n = 0
  · subst h0; decide
  · have hd := isD_dg n.natAbs
    have ha := acc_dg _ n.natAbs (Nat.le_refl _)
    have h1 := dg_ne n.natAbs (by omega)
    by_cases hn : n < 0
    · have e : fmt n = 45 :: dg n.natAbs := by rw [fmt, if_neg h0, if_pos hn]; rfl
      have e2 : -acc 0 (dg n.natAbs) = n := by rw [ha]; omega
      rw [rnum, e]
      simp only [List.head?_cons, if_true, List.tail_cons, e2, List.length_cons]
      rw [e]
      by_cases hl : (dg n.natAbs).length ≤ 12
      · rw [if_pos ⟨h1, hl, hd, rfl⟩, if_pos (by omega)]
      · rw [if_neg (by omega), if_neg (by omega)]
    · have e : fmt n = dg n.natAbs := by rw [fmt, if_neg h0, if_neg hn]; rfl
      have e2 : acc 0 (dg n.natAbs) = n := by rw [ha]; omega
      have hh : ¬ (dg n.natAbs).head? = some 45 := by
        cases hc : dg n.natAbs with
        | nil => simp
        | cons a t =>
          have := dg_digit n.natAbs a (by rw [hc]; exact List.mem_cons_self)
          simp only [List.head?_cons, Option.some.injEq]
          omega
      rw [rnum, e, if_neg hh, e2]
      rw [e]
      by_cases hl : (dg n.natAbs).length ≤ 12
      · rw [if_pos ⟨h1, hl, hd, rfl⟩, if_pos (by omega)]
      · rw [if_neg (by omega), if_neg (by omega)]
/-- A text that reads as a number is that number written. -/
theorem rdig_fmt (l : List Int) (h : 0 ≤ rdig 6 l) : fmt (rdig 6 l) = l := by
  unfold rdig at h ⊢
  split at h
  · rename_i hc
    rw [if_pos hc]
    exact (fmt_acc l hc.2.2.2 (by intro e; rw [e] at hc; simp at hc)).mpr hc.2.2.1
  · omega
theorem fmt_len (n : Int) (h0 : -9223372036854775808 ≤ n) (h1 : n ≤ 9223372036854775807) : (fmt n).length ≤ 20 := by
  unfold fmt
  split
  · simp
  · have := dg_len 19 n.natAbs (by omega)
    split <;> simp <;> omega
/-! what is drawn -/
theorem drawWhole (b : List Int) (hb : b.length ≤ 140737488351232) (i h : Int) (hc : Cur b i) : ∃ n i' h', spec_l1Whole.f b i h = some (n, i', h') ∧ (-9223372036854775808 ≤ n ∧ n ≤ 9223372036854775807) ∧ Cur b i' := by
  obtain ⟨x, i1, h1, e1, x0, x1, c1⟩ := below b hb i h hc 3 (by omega) (by omega)
  by_cases hx : x = 0
  · obtain ⟨n, i2, h2, e2, m2, c2⟩ := pickInt b hb i1 h1 c1 [0, 1, (-1), 9, 10, 999999, 1000000, 999999999999, 1000000000000, (-999999999999), 9223372036854775807, (-9223372036854775808)] (by simp) (by simp)
    refine ⟨n, i2, h2, ?_, ?_, c2⟩
    · simp only [spec_l1Whole.f, e1, Option.bind_some, if_pos hx, e2]
    · simp only [List.mem_cons, List.not_mem_nil, or_false] at m2
      omega
  · by_cases hx1 : x = 1
    · obtain ⟨n, i2, h2, e2, n0, n1, c2⟩ := below4 b hb i1 h1 c1 1000000 (by omega)
      refine ⟨n - 500000, i2, h2, ?_, by omega, c2⟩
      simp only [spec_l1Whole.f, e1, Option.bind_some, if_neg hx, if_pos hx1, e2, w64 (show -9223372036854775808 ≤ n - 500000 by omega) (by omega)]
    · obtain ⟨n, i2, h2, e2, n0, n1, c2⟩ := below b hb i1 h1 c1 20 (by omega) (by omega)
      refine ⟨n, i2, h2, ?_, by omega, c2⟩
      simp only [spec_l1Whole.f, e1, Option.bind_some, if_neg hx, if_neg hx1, e2]
theorem drawFormat (b : List Int) (hb : b.length ≤ 140737488351232) : ∃ n, Ev (fun k => spec_DrawFormatInt.f k b) n ∧ -9223372036854775808 ≤ n ∧ n ≤ 9223372036854775807 := by
  obtain ⟨h, e0⟩ := new b hb
  obtain ⟨n, i1, h1, e1, m1, c1⟩ := drawWhole b hb 0 h (cur0 b)
  refine ⟨n, ?_, m1⟩
  simp only [spec_DrawFormatInt.f]
  refine Ev.bind e0 ?_
  simp only [e1, Option.bind_some]
  exact Ev.now _
theorem drawParse (b : List Int) (hb : b.length ≤ 140737488351232) : ∃ t, Ev (fun k => spec_DrawParseNumber.f k b) t ∧ t.size ≤ 20 := by
  obtain ⟨h, e0⟩ := new b hb
  obtain ⟨x, i1, h1, e1, x0, x1, c1⟩ := below b hb 0 h (cur0 b) 2 (by omega) (by omega)
  by_cases hx : x = 0
  · obtain ⟨n, i2, h2, e2, m2, c2⟩ := drawWhole b hb i1 h1 c1
    refine ⟨strOfNums (fmt n), ?_, by rw [size_strOf]; exact fmt_len n m2.1 m2.2⟩
    simp only [spec_DrawParseNumber.f]
    refine Ev.bind e0 ?_
    simp only [spec_l1Once.f, e1, Option.bind_some, hx, beq_self_eq_true, if_true, e2]
    exact Ev.bind (spec_fmt n m2.1 m2.2) (Ev.now _)
  · obtain ⟨t, i2, h2, e2, m2, c2⟩ := pick b hb i1 h1 c1 [(⟨#[]⟩ : ByteArray), (⟨#[48, 48]⟩ : ByteArray), (⟨#[48, 49]⟩ : ByteArray), (⟨#[45, 49]⟩ : ByteArray), (⟨#[43, 49]⟩ : ByteArray), (⟨#[120]⟩ : ByteArray), (⟨#[57, 57, 57, 57, 57, 57]⟩ : ByteArray), (⟨#[49, 48, 48, 48, 48, 48, 48]⟩ : ByteArray), (⟨#[45, 48]⟩ : ByteArray), (⟨#[45]⟩ : ByteArray), (⟨#[32, 49]⟩ : ByteArray), (⟨#[49, 32]⟩ : ByteArray)] (by simp) (by simp)
    refine ⟨t, ?_, ?_⟩
    · simp only [spec_DrawParseNumber.f]
      refine Ev.bind e0 ?_
      simp only [spec_l1Once.f, e1, Option.bind_some, beq_iff_eq, hx, if_false, e2]
      exact Ev.now _
    · simp only [List.mem_cons, List.not_mem_nil, or_false] at m2
      rcases m2 with rfl | rfl | rfl | rfl | rfl | rfl | rfl | rfl | rfl | rfl | rfl | rfl <;> decide

end Go.Proofs.YtffagfflgoplbaaDoor.Pl
