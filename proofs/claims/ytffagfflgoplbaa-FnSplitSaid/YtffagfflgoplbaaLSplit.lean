/- The pure statement of FnSplit. No condition. -/
import Derived.Test.YtffagfflgoplbaaWdA
import Derived.Test.YtffagfflgoplbaaJn
import Derived.Test.YtffagfflgoplbaaDr
import Derived.Test.YtffagfflgoplbaaP1
import Derived.Test.YtffagfflgoplbaaP2
import Derived.Test.YtffagfflgoplbaaP4
namespace Go.Proofs.Ytffagfflgoplbaa.Pl
open Go.RowKit Go.Proofs.Ytffagfflgoplbaa.P Go.Proofs.YtffagfflgoplbaaW.PrintWords Go.Proofs.YtffagfflgoplbaaW.PrintLast Go.Proofs.YtffagfflgoplbaaW.PrintMore
set_option linter.unusedVariables false
set_option linter.unusedSimpArgs false

theorem joined_cons2 (x y : ByteArray) (t : List ByteArray) (by_ : ByteArray) : joined (x :: y :: t) by_ = x ++ by_ ++ joined (y :: t) by_ := by
  apply bytes_inj
  rw [bytes_append, bytes_append]
  simp [joined, bytesOf, Lib.join_cons, Lib.joinTail]
theorem joined_one (x by_ : ByteArray) : joined [x] by_ = x := by
  apply bytes_inj
  simp [joined, bytesOf, Lib.join_one]
theorem parts_cons (s : ByteArray) (c : Int) (d i frm : Nat) : ∃ y t, parts s c d i frm = y :: t := by
  have := (parts_le s c d i frm).2
  cases h : parts s c d i frm with
  | nil => rw [h] at this; simp at this
  | cons y t => exact ⟨y, t, rfl⟩
theorem joined_parts (s : ByteArray) (c : Int) (hc : 0 ≤ c ∧ c ≤ 255) : ∀ d i frm : Nat, i + d = s.size → frm ≤ i → joined (parts s c d i frm) (strOfNums [c]) = s.extract frm s.size := by
  intro d
  induction d with
  | zero => intro i frm h hf; rw [parts, joined_one]
  | succ d ih =>
    intro i frm h hf
    rw [parts]
    by_cases hb : bt s i = c
    · rw [if_pos hb]
      have e := ih (i + 1) (i + 1) (by omega) (by omega)
      obtain ⟨y, t, hp⟩ := parts_cons s c d (i + 1) (i + 1)
      rw [hp] at e ⊢
      rw [joined_cons2, e]
      apply bytes_inj
      have e2 : (bytesOf s).drop frm = ((bytesOf s).take i).drop frm ++ (bytesOf s).drop i := by
        conv => lhs; rw [← List.take_append_drop i (bytesOf s)]
        rw [List.drop_append_of_le_length (by rw [List.length_take, len_bytes]; omega)]
      have e3 : (bytesOf s).take s.size = bytesOf s := List.take_of_length_le (by rw [len_bytes]; omega)
      have e4 : bytesOf (strOfNums [c]) = [c] := bytes_strOf0 (by intro b hb; rw [List.mem_singleton] at hb; omega)
      rw [bytes_append, bytes_append, bytes_extract, bytes_extract, bytes_extract, e4, e3, e2, drop_cons s i (by omega), hb]
      simp
    · rw [if_neg hb]
      exact ih (i + 1) frm (by omega) (by omega)
theorem free_parts (p : ByteArray) (c : Int) (hp : c ∉ bytesOf p) : ∀ d i frm : Nat, i + d = p.size → parts p c d i frm = [p.extract frm p.size] := by
  intro d
  induction d with
  | zero => intro i frm h; rfl
  | succ d ih =>
    intro i frm h
    have hne : ¬ bt p i = c := by
      intro e
      have := bt_mem p i (by omega)
      rw [e] at this
      exact hp this
    rw [parts, if_neg hne]
    exact ih (i + 1) frm (by omega)
theorem parts_free (s : ByteArray) (c : Int) : ∀ d i frm : Nat, i + d = s.size → frm ≤ i → c ∉ ((bytesOf s).take i).drop frm → ∀ p ∈ parts s c d i frm, c ∉ bytesOf p ∧ p.size ≤ s.size := by
  intro d
  induction d with
  | zero =>
    intro i frm h hf hn p hp
    rw [parts, List.mem_singleton] at hp
    subst hp
    rw [bytes_extract]
    have e : i = s.size := by omega
    subst e
    exact ⟨hn, by rw [ByteArray.size_extract]; omega⟩
  | succ d ih =>
    intro i frm h hf hn p hp
    rw [parts] at hp
    by_cases hb : bt s i = c
    · rw [if_pos hb] at hp
      rcases List.mem_cons.mp hp with rfl | hp
      · rw [bytes_extract]
        exact ⟨hn, by rw [ByteArray.size_extract]; omega⟩
      · exact ih (i + 1) (i + 1) (by omega) (by omega) (by rw [List.drop_eq_nil_of_le (by rw [List.length_take]; omega)]; simp) p hp
    · rw [if_neg hb] at hp
      refine ih (i + 1) frm (by omega) (by omega) ?_ p hp
      rw [take_snoc s i (by omega), List.drop_append]
      intro hm
      rcases List.mem_append.mp hm with q | q
      · exact hn q
      · have := List.mem_of_mem_drop q
        rw [List.mem_singleton] at this
        exact hb this.symm
theorem split_l0 (c : Int) (ps : List ByteArray) (hl : ps.length ≤ 1048576) (h : ∀ p ∈ ps, c ∉ bytesOf p ∧ p.size ≤ 1048576) : ∀ d i : Nat, i + d = ps.length → Ev (fun k => laws_FnSplit.l0 k c ps i) true := by
  intro d
  induction d with
  | zero =>
    intro i e
    refine next ?_
    simp only [laws_FnSplit.l0, if_neg (show ¬ (i : Int) < (ps.length : Int) by omega)]
    exact Ev.now _
  | succ d ih =>
    intro i e
    refine next ?_
    have hi : i < ps.length := by omega
    have hp := h _ (List.getElem_mem hi)
    simp only [laws_FnSplit.l0, if_pos (show (i : Int) < (ps.length : Int) by omega), if_pos (show (0 : Int) ≤ i by omega), rdOf_get _ ps i hi]
    refine Ev.bind (impl_split ps[i] c hp.2) ?_
    have e1 : (split ps[i] c).length = 1 := by rw [split, free_parts _ c hp.1 _ 0 0 (by omega)]; rfl
    simp only [e1, if_pos (show ((1 : Nat) : Int) = 1 by rfl), up1 (show i < 9223372036854775807 by omega)]
    exact ih (i + 1) (by omega)
theorem drawSplit (l : List Int) (hl : l.length ≤ 140737488351232) : ∃ s c, Ev (fun k => spec_DrawSplitByte.f k l) (s, c) ∧ s.size ≤ 5 ∧ 0 ≤ c ∧ c ≤ 255 := by
  obtain ⟨h, hn⟩ := new l hl
  obtain ⟨s, i1, h1, e1, m1, c1⟩ := pick l hl 0 h (cur0 l) [(⟨#[]⟩ : ByteArray), (⟨#[97]⟩ : ByteArray), (⟨#[97, 44, 98]⟩ : ByteArray), (⟨#[44]⟩ : ByteArray), (⟨#[97, 44, 44, 98, 44]⟩ : ByteArray), (⟨#[97, 10, 98, 10]⟩ : ByteArray)] (by simp) (by simp)
  obtain ⟨c, i2, h2, e2, m2, c2⟩ := pickInt l hl i1 h1 c1 [44, 10] (by simp) (by simp)
  refine ⟨s, c % 256, ?_, ?_, by omega, by omega⟩
  · simp only [spec_DrawSplitByte.f]
    refine Ev.bind hn ?_
    simp only [e1, e2, Option.bind_some]
    exact Ev.now _
  · simp only [List.mem_cons, List.not_mem_nil, or_false] at m1
    rcases m1 with rfl | rfl | rfl | rfl | rfl | rfl <;> decide
theorem pureFnSplit : laws_FnSplit.Pure := by
  intro l h0 h1 h2
  refine Ev.rounds ?_
  obtain ⟨s, c, hd, hs, hc⟩ := drawSplit l (by omega)
  have hjp := joined_parts s c hc s.size 0 0 (by omega) (by omega)
  have hfree := parts_free s c s.size 0 0 (by omega) (by omega) (by simp)
  have hlen := (parts_le s c s.size 0 0).1
  have ex : s.extract 0 s.size = s := by
    apply bytes_inj
    rw [bytes_extract, List.take_of_length_le (by rw [len_bytes]; omega)]
    rfl
  simp only [laws_FnSplit.f, laws_big.f, Option.bind_some]
  by_cases hbig : (l.length : Int) > 1048576
  · simp only [hbig, decide_true, if_true]
    exact Ev.now _
  · simp only [hbig, decide_false, if_false, Bool.false_eq_true]
    have hb1 : (strOfNums [c]).size = 1 := by rw [size_strOf]; rfl
    have hj : Ev (fun k => impl_Join.f k (split s c) (strOfNums [c])) s := by
      refine ev_eq (impl_join (split s c) (strOfNums [c]) (by unfold split; omega) (by omega) (fun p hp => by have := (hfree p hp).2; omega)) ?_
      unfold capped split
      rw [hjp, ex, if_pos (by omega)]
    refine Ev.bind hd (Ev.bind (impl_split s c (by omega)) (Ev.bind hj ?_))
    simp only [if_true]
    refine Ev.bind (spec_split s c (by omega)) ?_
    refine next ?_
    simp only [laws_FnSplit.j0, bne_self_eq_false, Bool.false_eq_true, if_false]
    exact split_l0 c (split s c) (by unfold split; omega) (fun p hp => ⟨(hfree p hp).1, by have := (hfree p hp).2; omega⟩) (split s c).length 0 (by omega)

end Go.Proofs.Ytffagfflgoplbaa.Pl
