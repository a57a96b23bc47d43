/- Joining strings: what impl.Join computes. No condition. -/
import Derived.Test.YtdhgmmgdblnciaaBase
import Derived.Test.YtdhgmmgdblnciaaP9
namespace Go.Proofs.Ytdhgmmgdblnciaa.Pl
open Go.RowKit Go.Proofs.Ytdhgmmgdblnciaa.P Go.Proofs.YtdhgmmgdblnciaaW.PrintWords Go.Proofs.YtdhgmmgdblnciaaW.PrintLast Go.Proofs.YtdhgmmgdblnciaaW.PrintMore
set_option linter.unusedVariables false
set_option linter.unusedSimpArgs false

def joined (l : List ByteArray) (by_ : ByteArray) : ByteArray := ⟨(Lib.join (l.map (·.data.toList)) by_.data.toList).toArray⟩
theorem size_joined0 (by_ : ByteArray) : (joined [] by_).size = 0 := rfl
theorem size_joined (a : ByteArray) (t : List ByteArray) (by_ : ByteArray) : (joined (a :: t) by_).size = a.size + by_.size * t.length + Lib.lens (t.map (·.data.toList)) := by
  show (Lib.join _ _).length = _
  rw [List.map_cons, Lib.join_cons, List.length_append, Lib.joinTail_length, List.length_map]
  show a.data.toList.length + (by_.data.toList.length * _ + _) = _
  rw [Array.length_toList, Array.length_toList]
  show a.size + (by_.size * _ + _) = _
  omega
theorem lens_take_step (l : List ByteArray) (i : Nat) (h : i < l.length) : Lib.lens ((l.take (i + 1)).map (·.data.toList)) = Lib.lens ((l.take i).map (·.data.toList)) + l[i].size := by
  rw [List.take_succ_eq_append_getElem h, List.map_append, Lib.lens, List.map_append, List.sum_append]
  show _ + l[i].data.toList.length + 0 = _
  rw [Array.length_toList]
  rfl
/-- How long what is joined of the first ones is. -/
theorem size_step (l : List ByteArray) (by_ : ByteArray) (i : Nat) (h : i < l.length) (h0 : 0 < i) : (joined (l.take (i + 1)) by_).size = (joined (l.take i) by_).size + by_.size + l[i].size := by
  cases l with
  | nil => simp at h
  | cons a t =>
    obtain ⟨j, rfl⟩ : ∃ j, i = j + 1 := ⟨i - 1, by omega⟩
    have hj : j < t.length := by simpa using h
    rw [List.take_succ_cons, List.take_succ_cons, size_joined, size_joined, lens_take_step t j hj, List.length_take, List.length_take, Nat.min_eq_left (by omega), Nat.min_eq_left (by omega), Nat.mul_succ]
    simp only [List.getElem_cons_succ]
    omega
theorem size_first (l : List ByteArray) (by_ : ByteArray) (h : 0 < l.length) : (joined (l.take 1) by_).size = l[0].size := by
  cases l with
  | nil => simp at h
  | cons a t => rw [List.take_succ_cons, size_joined]; simp [Lib.lens]
theorem size_mono (l : List ByteArray) (by_ : ByteArray) : ∀ d i : Nat, i + d = l.length → (joined (l.take i) by_).size ≤ (joined l by_).size := by
  intro d
  induction d with
  | zero => intro i h; rw [List.take_of_length_le (by omega)]; exact Nat.le_refl _
  | succ d ih =>
    intro i h
    have := ih (i + 1) (by omega)
    by_cases h0 : i = 0
    · subst h0; rw [List.take_zero, size_joined0]; omega
    · have := size_step l by_ i (by omega) (by omega)
      omega
def capped (l : List ByteArray) (by_ : ByteArray) : ByteArray := if (joined l by_).size ≤ 1048576 then joined l by_ else ⟨#[]⟩
theorem join_l0 (l : List ByteArray) (by_ : ByteArray) (hl : l.length ≤ 140737488351232) (hb : by_.size ≤ 140737488351232) (hs : ∀ s ∈ l, s.size ≤ 140737488351232) :
    ∀ d i : Nat, i + d = l.length → (joined (l.take i) by_).size ≤ 1048576 → Ev (fun k => impl_Join.l0 k l by_ ((joined (l.take i) by_).size : Int) l l.length i) (capped l by_) := by
  intro d
  induction d with
  | zero =>
    intro i h hz
    rw [List.take_of_length_le (by omega)] at hz ⊢
    refine next ?_
    have hz2 : (Lib.join (l.map (·.data.toList)) by_.data.toList).length ≤ 140737488355328 := by
      have e : (joined l by_).size = (Lib.join (l.map (·.data.toList)) by_.data.toList).length := rfl
      omega
    simp only [impl_Join.l0, if_neg (show ¬ (i : Int) < (l.length : Int) by omega), strings_Join.f, if_pos (And.intro (show l.length ≤ 140737488355328 by omega) hz2), Option.bind_some]
    exact ev_some (by unfold capped; rw [if_pos hz]; rfl)
  | succ d ih =>
    intro i h hz
    have hi : i < l.length := by omega
    have hsz := hs _ (List.getElem_mem hi)
    have hm := size_mono l by_ d (i + 1) (by omega)
    refine next ?_
    simp only [impl_Join.l0, if_pos (show (i : Int) < (l.length : Int) by omega), if_pos (show (0 : Int) ≤ i by omega), rdOf_get _ l i hi]
    by_cases h0 : i = 0
    · subst h0
      have e1 := size_first l by_ hi
      have e0 : (joined (l.take 0) by_).size = 0 := rfl
      rw [e0, w64 (show -9223372036854775808 ≤ ((0 : Nat) : Int) + (l[0].size : Int) by omega) (by omega)]
      simp only [if_neg (show ¬ ((0 : Nat) : Int) > 0 by omega)]
      by_cases hc : l[0].size ≤ 1048576
      · simp only [if_neg (show ¬ ((0 : Nat) : Int) + (l[0].size : Int) > 1048576 by omega), up1 (show 0 < 9223372036854775807 by omega)]
        have := ih 1 (by omega) (by omega)
        rw [e1] at this
        rw [show ((0 : Nat) : Int) + (l[0].size : Int) = (l[0].size : Int) by omega]
        exact this
      · simp only [if_pos (show ((0 : Nat) : Int) + (l[0].size : Int) > 1048576 by omega)]
        exact ev_some (by unfold capped; rw [if_neg]; simp only [Nat.zero_add] at hm; omega)
    · have e1 := size_step l by_ i hi (by omega)
      simp only [if_pos (show (i : Int) > 0 by omega)]
      rw [w64 (show -9223372036854775808 ≤ ((joined (l.take i) by_).size : Int) + (by_.size : Int) by omega) (by omega), w64 (show -9223372036854775808 ≤ ((joined (l.take i) by_).size : Int) + (by_.size : Int) + (l[i].size : Int) by omega) (by omega)]
      by_cases hc : (joined (l.take i) by_).size + by_.size + l[i].size ≤ 1048576
      · simp only [if_neg (show ¬ ((joined (l.take i) by_).size : Int) + (by_.size : Int) + (l[i].size : Int) > 1048576 by omega), up1 (show i < 9223372036854775807 by omega)]
        have := ih (i + 1) (by omega) (by omega)
        rw [e1] at this
        rw [show ((joined (l.take i) by_).size : Int) + (by_.size : Int) + (l[i].size : Int) = (((joined (l.take i) by_).size + by_.size + l[i].size : Nat) : Int) by omega]
        exact this
      · simp only [if_pos (show ((joined (l.take i) by_).size : Int) + (by_.size : Int) + (l[i].size : Int) > 1048576 by omega)]
        exact ev_some (by unfold capped; rw [if_neg]; omega)
theorem impl_join (l : List ByteArray) (by_ : ByteArray) (hl : l.length ≤ 140737488351232) (hb : by_.size ≤ 140737488351232) (hs : ∀ s ∈ l, s.size ≤ 140737488351232) : Ev (fun k => impl_Join.f k l by_) (capped l by_) := by
  simp only [impl_Join.f]
  exact join_l0 l by_ hl hb hs l.length 0 (by omega) (by rw [List.take_zero, size_joined0]; omega)

end Go.Proofs.Ytdhgmmgdblnciaa.Pl
