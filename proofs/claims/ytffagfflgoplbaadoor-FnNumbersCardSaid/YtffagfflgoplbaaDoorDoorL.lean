/- The walks of the two laws over strconv.Itoa joined to what they compute. -/
import Derived.Test.YtffagfflgoplbaaDoorDoorW
import Derived.Test.YtffagfflgoplbaaDoorP1
namespace Go.Proofs.YtffagfflgoplbaaDoor.Pl
open Go.RowKit Go.Proofs.YtffagfflgoplbaaDoor Go.Proofs.YtffagfflgoplbaaDoor.P Go.Proofs.YtffagfflgoplbaaDoorW.PrintWords Go.Proofs.YtffagfflgoplbaaDoorW.PrintLast Go.Proofs.YtffagfflgoplbaaDoorW.PrintMore
set_option linter.unusedVariables false
theorem specItoa (n : Int) (h0 : -9223372036854775808 ≤ n) (h1 : n ≤ 9223372036854775807) : ∃ k, spec_FormatInt.f k n = some (itoaS n) := by
  obtain ⟨K, h⟩ := spec_fmt n h0 h1
  exact ⟨K, by rw [itoa_fmt]; exact h K (Nat.le_refl _)⟩
theorem size_itoa (n : Int) : (itoaS n).size = (fmt n).length := by rw [itoa_fmt, size_strOf]
theorem itoa_read (t : ByteArray) (h : 0 ≤ rdig 6 (bytesOf t)) : itoaS (rdig 6 (bytesOf t)) = t := by
  apply bytes_inj
  rw [bytes_itoa, rdig_fmt _ h]
end Go.Proofs.YtffagfflgoplbaaDoor.Pl
namespace Go.Proofs.YtffagfflgoplbaaDoor.Wk
open Go.RowKit Go.Proofs.YtffagfflgoplbaaDoor Go.Proofs.YtffagfflgoplbaaDoor.P Go.Proofs.YtffagfflgoplbaaDoor.Pl Go.Proofs.YtffagfflgoplbaaDoorW.PrintWords Go.Proofs.YtffagfflgoplbaaDoorW.PrintLast Go.Proofs.YtffagfflgoplbaaDoorW.PrintMore
set_option linter.unusedVariables false
theorem numbersWalk (a0 : Option Addr) (len0 cap0 : Nat) (z0 : List Int) (w : World) (w0 : (a0 = none ∧ len0 = 0 ∧ cap0 = 0 ∧ z0 = []) ∨ ∃ x, a0 = some x ∧ len0 ≤ cap0 ∧ cap0 ≤ maxLen ∧ z0.length = cap0 ∧ (∀ i, i < z0.length → w.cell? (x.add i) = some (.int .u8 (z0.getD i 0))) ∧ ∀ n ∈ z0, (Lit.int .u8 n).wf = true) (y0 : len0 * 1 ≤ 140737488351232) (ht : Tab w) :
    Calls Tryd.prog 4 #[.slice a0 len0 cap0] w fun e w' => e = .returned (.bool true) ∧ Below w.heap.size w w' := by
  obtain ⟨l0, rfl, hr0, hm0, hw0, hc0⟩ := ReadsInt.ofRowC w0
  have hr := Kd.C_of_reads (d := (0 : Int)) (h1 := fun _ => rfl) hr0
  by_cases hbig : (l0.length : Int) > 1048576
  · exact numbersBig a0 cap0 l0 w hr hc0 (by simp [laws_big.f, hbig])
  · obtain ⟨n, ⟨K1, e1⟩, n0, n1⟩ := drawFormat l0 (by omega)
    obtain ⟨t, ⟨K2, e2⟩, ts⟩ := drawParse l0 (by omega)
    have hsz := size_itoa n
    have hln := fmt_len n n0 n1
    obtain ⟨K3, e3⟩ := impl_int (itoaS n) (by omega)
    obtain ⟨K4, e4⟩ := spec_fmt n n0 n1
    obtain ⟨K5, e5⟩ := impl_num t (by omega)
    obtain ⟨K6, e6⟩ := spec_num t (by omega)
    have hr6 := rdig_range 6 (by omega) (bytesOf t)
    rw [bytes_itoa, rnum_fmt] at e3
    have e3' := e3 (K1 + K2 + K3 + K4 + K5 + K6) (by omega)
    refine numbersCalls (K1 + K2 + K3 + K4 + K5 + K6) a0 cap0 l0 w hr hc0 ht (by simp [laws_big.f, hbig]) n (if (fmt n).length ≤ 12 ∨ n < 0 ∧ (fmt n).length ≤ 13 then n else 0) (decide ((fmt n).length ≤ 12 ∨ n < 0 ∧ (fmt n).length ≤ 13)) _ _ _ n0 n1 (e1 _ (by omega)) ?_ ?_ rfl rfl rfl ?_ ?_
      t _ _ _ (e2 _ (by omega)) (e5 _ (by omega)) (e6 _ (by omega)) ?_
    · refine e3'.trans (congrArg some ?_)
      split <;> rename_i h
      · rw [decide_eq_true h]
      · rw [decide_eq_false h]
    · rw [itoa_fmt]
      exact e4 _ (by omega)
    · rw [hsz, Bool.eq_iff_iff]
      simp only [decide_eq_true_eq, Bool.or_eq_true, Bool.and_eq_true]
      omega
    · intro h
      rw [if_pos (of_decide_eq_true h)]
    · intro h
      have h := of_decide_eq_true h
      have e : mx (rdig 6 (bytesOf t)) 0 = rdig 6 (bytesOf t) := by unfold mx; rw [if_neg (by omega)]
      rw [e]
      exact ⟨itoa_read t h, h, by omega⟩
end Go.Proofs.YtffagfflgoplbaaDoor.Wk
