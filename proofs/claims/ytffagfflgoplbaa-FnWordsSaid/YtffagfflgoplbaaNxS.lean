/- What NextWord computes. No condition. -/
import Derived.Test.YtffagfflgoplbaaWd0
import Derived.Test.YtffagfflgoplbaaNxW
import Derived.Test.YtffagfflgoplbaaP7
namespace Go.Proofs.Ytffagfflgoplbaa.Pl
open Go.RowKit Go.Proofs.Ytffagfflgoplbaa.P Go.Proofs.YtffagfflgoplbaaW.PrintWords Go.Proofs.YtffagfflgoplbaaW.PrintLast Go.Proofs.YtffagfflgoplbaaW.PrintMore Wk
set_option linter.unusedVariables false
set_option linter.unusedSimpArgs false

theorem letter_cases {b : Int} (h : 0 ≤ letIdx b) : (b = 97 ∧ letIdx b = 0) ∨ (b = 98 ∧ letIdx b = 1) ∨ (b = 99 ∧ letIdx b = 2) := by
  unfold letIdx at h ⊢
  by_cases h1 : b = 97
  · simp [h1]
  · by_cases h2 : b = 98
    · simp [h2]
    · by_cases h3 : b = 99
      · simp [h3]
      · simp [h1, h2, h3] at h
theorem lets_get {l : List Int} (h : lets l = true) (i : Nat) (hi : i < l.length) : 0 ≤ letIdx (l.getD i 0) := by
  simp only [lets, List.all_eq_true, decide_eq_true_eq] at h
  rw [List.getD_eq_getElem?_getD, List.getElem?_eq_getElem hi]
  exact h _ (List.getElem_mem _)
theorem getD_bt (s : ByteArray) (i : Nat) (h : i < s.size) : (bytesOf s).getD i 0 = bt s i := by
  rw [bt_get s i h, List.getD_eq_getElem?_getD, List.getElem?_eq_getElem (by rw [len_bytes]; exact h)]
  rfl
theorem nextAt_split (l : List Int) (m : Nat) (hm : m + 1 ≤ l.length) (c : Int) : (filled l (m + 1)).set m c = l.take m ++ [c] ++ List.replicate (l.length - (m + 1)) 97 := by
  unfold filled
  rw [List.take_succ_eq_append_getElem (by omega), List.append_assoc, List.set_append_right _ _ (by simp; omega)]
  have e : m - (l.take m).length = 0 := by simp; omega
  rw [e]
  simp
theorem word_next (s : ByteArray) (hw : word s = true) (m : Nat) (hm : m + 1 ≤ s.size) (hne : (bytesOf s).getD m 0 ≠ 99) : word (strOfNums (nextAt (bytesOf s) (m + 1))) = true := by
  simp only [word, Bool.and_eq_true, decide_eq_true_eq] at hw
  have hlen := len_bytes s
  have hl := lets_get hw.1 m (by omega)
  have hc := letter_cases hl
  have e : nextAt (bytesOf s) (m + 1) = (bytesOf s).take m ++ [((bytesOf s).getD m 0 + 1) % 256] ++ List.replicate ((bytesOf s).length - (m + 1)) 97 := by
    rw [nextAt, if_neg (by omega), Nat.add_sub_cancel]
    exact nextAt_split _ m (by omega) _
  have hmem : ∀ b ∈ nextAt (bytesOf s) (m + 1), b = 97 ∨ b = 98 ∨ b = 99 := by
    intro b hb
    rw [e] at hb
    simp only [List.mem_append, List.mem_singleton, List.mem_replicate] at hb
    rcases hb with (hb | hb) | hb
    · have h1 := List.mem_of_mem_take hb
      have h2 := hw.1
      simp only [lets, List.all_eq_true, decide_eq_true_eq] at h2
      rcases letter_cases (h2 b h1) with q | q | q <;> omega
    · rcases hc with q | q | q <;> omega
    · exact .inl hb.2
  have hl2 : (nextAt (bytesOf s) (m + 1)).length = s.size := by rw [e]; simp; omega
  simp only [word, Bool.and_eq_true, decide_eq_true_eq, size_strOf, hl2]
  refine ⟨?_, hw.2⟩
  rw [bytes_strOf0 (fun b hb => by rcases hmem b hb with q | q | q <;> omega)]
  simp only [lets, List.all_eq_true, decide_eq_true_eq]
  intro b hb
  rcases hmem b hb with q | q | q <;> rw [q] <;> decide
/-- What NextWord answers for a word. -/
def after (s : ByteArray) (m : Nat) : ByteArray := if word (strOfNums (nextAt (bytesOf s) (lead (bytesOf s) m))) = true then strOfNums (nextAt (bytesOf s) (lead (bytesOf s) m)) else ⟨#[]⟩
theorem app_strOf (a b : List Int) : strOfNums a ++ strOfNums b = strOfNums (a ++ b) := by
  apply bytes_inj
  rw [bytes_append]
  simp [bytesOf, strOfNums]
theorem piece (b : Int) (h : b = 97 ∨ b = 98) : (⟨#[97, 98, 99]⟩ : ByteArray).extract (letIdx b + 1).toNat (letIdx b + 2).toNat = strOfNums [b + 1] ∧ ((⟨#[97, 98, 99]⟩ : ByteArray).extract (letIdx b + 1).toNat (letIdx b + 2).toNat).size = 1 := by
  rcases h with rfl | rfl
  · exact ⟨by decide, by decide⟩
  · exact ⟨by decide, by decide⟩
theorem spec_next_l0 (s : ByteArray) (hw : word s = true) : ∀ m : Nat, m ≤ s.size → Ev (fun k => spec_NextWord.l0 k s (strOfNums (List.replicate (s.size - m) 97)) ((m : Int) - 1)) (after s m) := by
  have hw' := hw
  simp only [word, Bool.and_eq_true, decide_eq_true_eq] at hw'
  have hlen := len_bytes s
  intro m
  induction m with
  | zero =>
    intro hm
    refine next ?_
    have hz : (if (s.size - 0) + 1 ≤ 9223372036854775807 then true else false) = true := if_pos (by omega)
    simp only [spec_NextWord.l0, if_neg (show ¬ (((0 : Nat) : Int) - 1) ≥ 0 by omega), size_strOf, List.length_replicate, if_pos (show s.size - 0 + 1 ≤ 9223372036854775807 by omega)]
    have e : strOfNums (List.replicate (s.size - 0) 97) ++ (⟨#[97]⟩ : ByteArray) = strOfNums (nextAt (bytesOf s) (lead (bytesOf s) 0)) := by
      rw [show (⟨#[97]⟩ : ByteArray) = strOfNums [97] from rfl, app_strOf, lead, nextAt, if_pos rfl]
      congr 1
      simp only [filled, List.take_zero, List.nil_append, hlen, Nat.sub_zero]
      rw [← List.replicate_succ', ← List.replicate_succ]
    rw [e]
    refine Ev.bind (spec_word _ (by rw [size_strOf, lead, nextAt, if_pos rfl]; simp [filled, hlen]; omega)) ?_
    unfold after
    by_cases hc : word (strOfNums (nextAt (bytesOf s) (lead (bytesOf s) 0))) = true
    · simp only [hc, if_true]
      exact Ev.now _
    · simp only [hc, if_false]
      exact Ev.now _
  | succ m ih =>
    intro hm
    have hms : m < s.size := by omega
    have hl := lets_get hw'.1 m (by omega)
    have hgd := getD_bt s m hms
    have hb := letter_cases hl
    rw [hgd] at hb hl
    refine next ?_
    rw [show (((m + 1 : Nat) : Int) - 1) = (m : Int) by omega]
    simp only [spec_NextWord.l0, if_pos (show (m : Int) ≥ 0 by omega), if_pos (show (0 : Int) ≤ m by omega), if_pos (show (m : Int) < (s.size : Int) by omega)]
    refine Ev.bind (spec_letter _) ?_
    have hr := letIdx_range (bt s m)
    rw [w64 (show -9223372036854775808 ≤ letIdx (bt s m) + 1 by omega) (by omega), w64 (show -9223372036854775808 ≤ letIdx (bt s m) + 2 by omega) (by omega)]
    by_cases h99 : bt s m = 99
    · have e2 : letIdx (bt s m) = 2 := by rw [h99]; rfl
      simp only [e2, if_neg (show ¬ (2 : Int) + 1 < 3 by omega), size_strOf, List.length_replicate, if_pos (show s.size - (m + 1) + 1 ≤ 9223372036854775807 by omega)]
      have e3 : strOfNums (List.replicate (s.size - (m + 1)) 97) ++ (⟨#[97]⟩ : ByteArray) = strOfNums (List.replicate (s.size - m) 97) := by
        rw [show (⟨#[97]⟩ : ByteArray) = strOfNums [97] from rfl, app_strOf, ← List.replicate_succ', show s.size - (m + 1) + 1 = s.size - m by omega]
      rw [e3, w64 (show -9223372036854775808 ≤ (m : Int) - 1 by omega) (by omega)]
      refine ev_eq (ih (by omega)) ?_
      unfold after
      rw [lead_down _ m (by rw [hgd]; exact h99)]
    · have hb2 : bt s m = 97 ∨ bt s m = 98 := by omega
      have hlt : letIdx (bt s m) + 1 < 3 := by omega
      obtain ⟨p1, p2⟩ := piece _ hb2
      have hne : (bytesOf s).getD m 0 ≠ 99 := by rw [hgd]; exact h99
      have ex : (s.extract 0 (m : Int).toNat).size = m := by rw [ByteArray.size_extract]; simp; omega
      simp only [if_pos hlt, if_pos (show (m : Int) ≤ (s.size : Int) by omega), if_pos (show 0 ≤ letIdx (bt s m) + 1 by omega), if_pos (show letIdx (bt s m) + 1 ≤ letIdx (bt s m) + 2 by omega), if_pos (show letIdx (bt s m) + 2 ≤ 3 by omega), p2, ex, if_pos (show m + 1 ≤ 9223372036854775807 by omega), ByteArray.size_append, size_strOf, List.length_replicate, if_pos (show m + 1 + (s.size - (m + 1)) ≤ 9223372036854775807 by omega)]
      refine ev_some ?_
      unfold after
      rw [lead_stop _ (m + 1) (.inr (by rw [Nat.add_sub_cancel]; exact hne)), if_pos (word_next s hw m hm hne), p1]
      apply bytes_inj
      rw [bytes_append, bytes_append, bytes_extract]
      have e4 : nextAt (bytesOf s) (m + 1) = (bytesOf s).take m ++ [((bytesOf s).getD m 0 + 1) % 256] ++ List.replicate ((bytesOf s).length - (m + 1)) 97 := by
        rw [nextAt, if_neg (by omega), Nat.add_sub_cancel]
        exact nextAt_split _ m (by omega) _
      have hrange : ∀ b ∈ nextAt (bytesOf s) (m + 1), 0 ≤ b ∧ b ≤ 255 := by
        intro b hb
        rw [e4] at hb
        simp only [List.mem_append, List.mem_singleton, List.mem_replicate] at hb
        rcases hb with (hb | hb) | hb
        · exact bytes_range (List.mem_of_mem_take hb)
        · omega
        · omega
      rw [bytes_strOf0 hrange, e4, hgd, hlen]
      rw [bytes_strOf0 (l := [bt s m + 1]) (by intro b hb; simp at hb; omega), bytes_strOf0 (l := List.replicate (s.size - (m + 1)) 97) (by intro b hb; have := List.eq_of_mem_replicate hb; omega)]
      simp only [Int.toNat_natCast, List.drop_zero]
      rw [show (bt s m + 1) % 256 = bt s m + 1 by omega]
def nextOf (s : ByteArray) : ByteArray := if word s = true then after s s.size else ⟨#[]⟩
theorem spec_next (s : ByteArray) (h0 : s.size ≤ 140737488351232) : Ev (fun k => spec_NextWord.f k s) (nextOf s) := by
  unfold nextOf
  simp only [spec_NextWord.f]
  refine Ev.bind (spec_word s h0) ?_
  by_cases hw : word s = true
  · have hw2 := hw
    simp only [word, Bool.and_eq_true, decide_eq_true_eq] at hw2
    simp only [hw, if_true, w64 (show -9223372036854775808 ≤ (s.size : Int) - 1 by omega) (by omega)]
    have := spec_next_l0 s hw s.size (Nat.le_refl _)
    rw [Nat.sub_self] at this
    exact this
  · simp only [hw, if_false]
    exact Ev.now _
theorem impl_next (s : ByteArray) (h0 : s.size ≤ 140737488351232) : Ev (fun k => impl_NextWord.f k s) (nextOf s) := by
  unfold nextOf
  simp only [impl_NextWord.f]
  refine Ev.bind (impl_word s h0) ?_
  by_cases hw : word s = true
  · simp only [hw, if_true]
    have hc : cand s = strOfNums (nextAt (bytesOf s) (lead (bytesOf s) s.size)) := by rw [cand, len_bytes]
    have hw2 := hw
    simp only [word, Bool.and_eq_true, decide_eq_true_eq] at hw2
    have hsz : (cand s).size ≤ 140737488351232 := by
      rw [hc, size_strOf, nextAt]
      have hle := lead_le (bytesOf s) s.size
      split
      · simp [filled, len_bytes]; omega
      · rw [List.length_set, len_filled _ _ (by rw [len_bytes]; omega), len_bytes]; omega
    refine Ev.bind (impl_word (cand s) hsz) ?_
    rw [hc]
    exact Ev.now _
  · simp only [hw, if_false]
    exact Ev.now _
end Go.Proofs.Ytffagfflgoplbaa.Pl
