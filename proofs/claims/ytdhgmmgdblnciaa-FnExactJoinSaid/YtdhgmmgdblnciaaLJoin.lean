/- The pure statement of FnExactJoin. No condition. -/
import Derived.Test.YtdhgmmgdblnciaaJn
import Derived.Test.YtdhgmmgdblnciaaWd
import Derived.Test.YtdhgmmgdblnciaaStFnExactJoin
import Derived.Test.YtdhgmmgdblnciaaP8
import Derived.Test.YtdhgmmgdblnciaaP9
namespace Go.Proofs.Ytdhgmmgdblnciaa.Pl
open Go.RowKit Go.Proofs.Ytdhgmmgdblnciaa Go.Proofs.Ytdhgmmgdblnciaa.P Go.Proofs.YtdhgmmgdblnciaaW.PrintWords Go.Proofs.YtdhgmmgdblnciaaW.PrintLast Go.Proofs.YtdhgmmgdblnciaaW.PrintMore Rk
set_option linter.unusedVariables false
set_option linter.unusedSimpArgs false

theorem szStr_l0 (l : List ByteArray) (hl : l.length ≤ 1048576) (hs : ∀ s ∈ l, s.size ≤ 9223372036854775807) : ∀ (d i : Nat) (x : Int), i + d = l.length → 0 ≤ x → x ≤ 1048576 →
    ∃ r, Ev (fun k => laws_szStringS.l0 k l x i) r ∧ (0 ≤ r → ∀ s ∈ l.drop i, s.size ≤ 1048576) := by
  intro d
  induction d with
  | zero =>
    intro i x h h0 h1
    refine ⟨x, next ?_, fun _ s hs => by rw [List.drop_eq_nil_of_le (by omega)] at hs; simp at hs⟩
    simp only [laws_szStringS.l0, if_neg (show ¬ (i : Int) < (l.length : Int) by omega)]
    exact Ev.now _
  | succ d ih =>
    intro i x h h0 h1
    have hi : i < l.length := by omega
    have hz := hs _ (List.getElem_mem hi)
    by_cases hc : x - (l[i].size : Int) < 0
    · refine ⟨-1, next ?_, fun h => by omega⟩
      simp only [laws_szStringS.l0, if_pos (show (i : Int) < (l.length : Int) by omega), if_pos (show (0 : Int) ≤ i by omega), rdOf_get _ l i hi, w64 (show -9223372036854775808 ≤ x - (l[i].size : Int) by omega) (by omega), if_pos hc]
      exact Ev.now _
    · obtain ⟨r, hr, hf⟩ := ih (i + 1) (x - (l[i].size : Int)) (by omega) (by omega) (by omega)
      refine ⟨r, next ?_, fun h s hm => ?_⟩
      · simp only [laws_szStringS.l0, if_pos (show (i : Int) < (l.length : Int) by omega), if_pos (show (0 : Int) ≤ i by omega), rdOf_get _ l i hi, w64 (show -9223372036854775808 ≤ x - (l[i].size : Int) by omega) (by omega), if_neg hc, up1 (show i < 9223372036854775807 by omega)]
        exact hr
      · rw [List.drop_eq_getElem_cons hi] at hm
        rcases List.mem_cons.mp hm with rfl | hm
        · omega
        · exact hf h s hm
theorem szStr (l : List ByteArray) (hl : l.length ≤ 9223372036854775807) (hs : ∀ s ∈ l, s.size ≤ 9223372036854775807) : ∃ r, Ev (fun k => laws_szStringS.f k l 1048576) r ∧ (0 ≤ r → l.length ≤ 1048576 ∧ ∀ s ∈ l, s.size ≤ 1048576) := by
  simp only [laws_szStringS.f, w64 (show -9223372036854775808 ≤ 1048576 - (l.length : Int) by omega) (by omega)]
  by_cases hc : 1048576 - (l.length : Int) < 0
  · simp only [if_pos hc]
    exact ⟨-1, Ev.now _, fun h => by omega⟩
  · simp only [if_neg hc]
    obtain ⟨r, hr, hf⟩ := szStr_l0 l (by omega) hs l.length 0 (1048576 - (l.length : Int)) (by omega) (by omega) (by omega)
    exact ⟨r, hr, fun h => ⟨by omega, hf h⟩⟩
theorem toStr_l0 (l : List ByteArray) (hl : l.length ≤ 1048576) : ∀ (d i : Nat) (a : List ByteArray), i + d = l.length → a.length = l.length → (∀ j, j < i → a[j]? = l[j]?) → Ev (fun k => laws_toStringS.l0 k l a i) l := by
  intro d
  induction d with
  | zero =>
    intro i a h ha hj
    refine next ?_
    simp only [laws_toStringS.l0, if_neg (show ¬ (i : Int) < (l.length : Int) by omega)]
    refine ev_some (List.ext_getElem? fun j => ?_)
    by_cases h : j < i
    · exact hj j h
    · rw [List.getElem?_eq_none (by omega), List.getElem?_eq_none (by omega)]
  | succ d ih =>
    intro i a h ha hj
    have hi : i < l.length := by omega
    refine next ?_
    simp only [laws_toStringS.l0, if_pos (show (i : Int) < (l.length : Int) by omega), if_pos (show (0 : Int) ≤ i by omega), if_pos (show (i : Int) < (a.length : Int) by omega), rdOf_get _ l i hi, Int.toNat_natCast, up1 (show i < 9223372036854775807 by omega)]
    refine ih (i + 1) _ (by omega) (by rw [List.length_set]; exact ha) (fun j hlt => ?_)
    by_cases e : j = i
    · subst e
      rw [List.getElem?_set_self (by omega), List.getElem?_eq_getElem hi]
    · rw [List.getElem?_set_ne (by omega)]
      exact hj j (by omega)
theorem toStr (l : List ByteArray) (hl : l.length ≤ 1048576) : Ev (fun k => laws_toStringS.f k l) l := by
  simp only [laws_toStringS.f, if_pos (show (0 : Int) ≤ (l.length : Int) by omega), Int.toNat_natCast, if_pos (show l.length ≤ 17592186044416 by omega)]
  exact toStr_l0 l hl l.length 0 _ (by omega) (by rw [List.length_replicate]) (by intro j h; omega)
theorem bytes_step (l : List ByteArray) (by_ : ByteArray) (i : Nat) (h : i < l.length) (h0 : 0 < i) : bytesOf (joined (l.take (i + 1)) by_) = bytesOf (joined (l.take i) by_) ++ bytesOf by_ ++ bytesOf l[i] := by
  cases l with
  | nil => simp at h
  | cons a t =>
    obtain ⟨j, rfl⟩ : ∃ j, i = j + 1 := ⟨i - 1, by omega⟩
    have hj : j < t.length := by simpa using h
    rw [List.take_succ_cons, List.take_succ_cons, List.take_succ_eq_append_getElem hj]
    simp [joined, bytesOf, Lib.join_cons, Lib.joinTail, -List.map_take, -List.take_append_getElem]
theorem bytes_first (l : List ByteArray) (by_ : ByteArray) (h : 0 < l.length) : bytesOf (joined (l.take 1) by_) = bytesOf l[0] := by
  cases l with
  | nil => simp at h
  | cons a t => rw [List.take_succ_cons]; simp [joined, bytesOf, Lib.join_one]
theorem strOf_bytes (s : ByteArray) : strOfNums (bytesOf s) = s := bytes_inj (bytes_strOf0 (fun b hb => bytes_range hb))
theorem specJoin_l0 (l : List ByteArray) (by_ : ByteArray) (hl : l.length ≤ 1048576) (hb : by_.size ≤ 1048576) (hs : ∀ s ∈ l, s.size ≤ 1048576) :
    ∀ d i : Nat, i + d = l.length → (joined (l.take i) by_).size ≤ 1048576 → Ev (fun k => spec_Join.l0 k l by_ (bytesOf (joined (l.take i) by_)) i) (capped l by_) := by
  intro d
  induction d with
  | zero =>
    intro i h hz
    rw [List.take_of_length_le (by omega)] at hz ⊢
    refine next ?_
    simp only [spec_Join.l0, if_neg (show ¬ (i : Int) < (l.length : Int) by omega)]
    exact ev_some (by unfold capped; rw [if_pos hz, strOf_bytes])
  | succ d ih =>
    intro i h hz
    have hi : i < l.length := by omega
    have hsz := hs _ (List.getElem_mem hi)
    have hm := size_mono l by_ d (i + 1) (by omega)
    refine next ?_
    simp only [spec_Join.l0, if_pos (show (i : Int) < (l.length : Int) by omega), if_pos (show (0 : Int) ≤ i by omega), rdOf_get _ l i hi, len_bytes]
    by_cases h0 : i = 0
    · subst h0
      have e1 := bytes_first l by_ hi
      have e2 := size_first l by_ hi
      have e0 : (joined (l.take 0) by_).size = 0 := rfl
      have e00 : bytesOf (joined (l.take 0) by_) = [] := rfl
      simp only [if_neg (show ¬ ((0 : Nat) : Int) > 0 by omega), e0, e00, List.nil_append, if_pos (show 0 + l[0].size < 140737488355328 by omega), Option.bind_some, len_bytes]
      by_cases hc : l[0].size ≤ 1048576
      · simp only [if_neg (show ¬ (l[0].size : Int) > 1048576 by omega), up1 (show 0 < 9223372036854775807 by omega)]
        have := ih 1 (by omega) (by omega)
        rw [e1] at this
        exact this
      · omega
    · have e1 := bytes_step l by_ i hi (by omega)
      have e2 := size_step l by_ i hi (by omega)
      simp only [if_pos (show (i : Int) > 0 by omega), if_pos (show (joined (l.take i) by_).size + by_.size < 140737488355328 by omega), Option.bind_some, List.length_append, len_bytes, if_pos (show (joined (l.take i) by_).size + by_.size + l[i].size < 140737488355328 by omega)]
      by_cases hc : (joined (l.take i) by_).size + by_.size + l[i].size ≤ 1048576
      · simp only [if_neg (show ¬ (((joined (l.take i) by_).size + by_.size + l[i].size : Nat) : Int) > 1048576 by omega), up1 (show i < 9223372036854775807 by omega)]
        have := ih (i + 1) (by omega) (by omega)
        rw [e1] at this
        exact this
      · simp only [if_pos (show (((joined (l.take i) by_).size + by_.size + l[i].size : Nat) : Int) > 1048576 by omega)]
        exact ev_some (by unfold capped; rw [if_neg]; omega)
theorem spec_join (l : List ByteArray) (by_ : ByteArray) (hl : l.length ≤ 1048576) (hb : by_.size ≤ 1048576) (hs : ∀ s ∈ l, s.size ≤ 1048576) : Ev (fun k => spec_Join.f k l by_) (capped l by_) := by
  simp only [spec_Join.f]
  exact specJoin_l0 l by_ hl hb hs l.length 0 (by omega) (by rw [List.take_zero, size_joined0]; omega)
theorem pureFnExactJoin : St.FnExactJoin := by
  intro l by_ hr hb
  have hl : l.length ≤ 9223372036854775807 := hr.1
  have hs : ∀ s ∈ l, s.size ≤ 9223372036854775807 := hr.2
  refine Ev.rounds ?_
  simp only [laws_FnExactJoin.f]
  by_cases hbig : (by_.size : Int) > 1048576
  · simp only [if_pos hbig]
    exact Ev.now _
  · simp only [if_neg hbig]
    obtain ⟨r, hr, hf⟩ := szStr l hl hs
    refine Ev.bind hr ?_
    by_cases hn : r < 0
    · simp only [if_pos hn]
      exact Ev.now _
    · simp only [if_neg hn]
      obtain ⟨hl2, hs2⟩ := hf (by omega)
      have ht := toStr l hl2
      refine Ev.bind ht (Ev.bind (spec_join l by_ hl2 (by omega) hs2) (Ev.bind ht (Ev.bind (impl_join l by_ (by omega) (by omega) (fun s h => by have := hs2 s h; omega)) ?_)))
      simp only [if_true]
      refine Ev.bind ht (Ev.bind (sameStrs l l (by omega)) ?_)
      simp only [decide_true, if_true]
      exact Ev.now _
end Go.Proofs.Ytdhgmmgdblnciaa.Pl
