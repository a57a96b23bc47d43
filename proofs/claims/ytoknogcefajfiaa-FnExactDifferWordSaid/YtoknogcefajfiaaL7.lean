/- What spec.l7First computes: a search breadth first. No condition. -/
import Derived.Test.YtoknogcefajfiaaShW
import Derived.Test.YtoknogcefajfiaaDf
import Derived.Test.YtoknogcefajfiaaP0
import Derived.Test.YtoknogcefajfiaaP21
import Derived.Test.YtoknogcefajfiaaP22
namespace Go.Proofs.Ytoknogcefajfiaa.Pl
open Go.RowKit Go.Proofs.Ytoknogcefajfiaa Go.Proofs.Ytoknogcefajfiaa.P Go.Proofs.Ytoknogcefajfiaa.Wk Go.Proofs.Ytoknogcefajfiaa.Bf Go.Proofs.YtoknogcefajfiaaW.PrintWords Go.Proofs.YtoknogcefajfiaaW.PrintLast Go.Proofs.YtoknogcefajfiaaW.PrintMore
set_option linter.unusedVariables false
set_option linter.unusedSimpArgs false
set_option linter.unusedSectionVars false

theorem find_l0 (l : List Int) (y : Int) (hl : l.length ≤ 140737488351232) : ∀ d i : Nat, i + d = l.length → Ev (fun k => spec_l5Find.l0 k l y i) (if y ∈ l.drop i then ((i + (l.drop i).idxOf y : Nat) : Int) else -1) := by
  intro d
  induction d with
  | zero =>
    intro i h
    refine next ?_
    simp only [spec_l5Find.l0, if_neg (show ¬ (i : Int) < (l.length : Int) by omega)]
    exact ev_some (by rw [List.drop_eq_nil_of_le (by omega)]; simp)
  | succ d ih =>
    intro i h
    have hi : i < l.length := by omega
    refine next ?_
    simp only [spec_l5Find.l0, if_pos (show (i : Int) < (l.length : Int) by omega), if_pos (show (0 : Int) ≤ i by omega), rd_get l i hi]
    rw [List.drop_eq_getElem_cons hi]
    by_cases he : l[i] = y
    · simp only [if_pos he]
      exact ev_some (by rw [if_pos (by simp [he]), List.idxOf_cons, he]; simp)
    · simp only [if_neg he, up1 (show i < 9223372036854775807 by omega)]
      refine ev_eq (ih (i + 1) (by omega)) ?_
      have hne : ¬ y = l[i] := fun e => he e.symm
      by_cases hm : y ∈ l.drop (i + 1)
      · rw [if_pos hm, if_pos (List.mem_cons_of_mem _ hm), List.idxOf_cons, beq_false_of_ne he]
        simp only [cond_false]
        omega
      · rw [if_neg hm, if_neg (fun hh => by rcases List.mem_cons.mp hh with q | q; exact hne q; exact hm q)]
theorem spec_find (l : List Int) (y : Int) (hl : l.length ≤ 140737488351232) : Ev (fun k => spec_l5Find.f k l y) (if y ∈ l then (l.idxOf y : Int) else -1) := by
  simp only [spec_l5Find.f]
  have := find_l0 l y hl l.length 0 (by omega)
  rw [List.drop_zero, Nat.zero_add] at this
  exact this
section
variable (acc goal : List Bool) (nxt : List (List Int)) (n : Nat) (hn : n ≤ 2000) (hl : nxt.length = n) (hg : goal.length = n) (hrow : ∀ r ∈ nxt, r.length = 3 ∧ ∀ q ∈ r, 0 ≤ q ∧ q < (n : Int))
include hn hl hg hrow
theorem nx_row {x : Int} (hx : 0 ≤ x ∧ x < n) : rd_L2 nxt x = nxt.getD x.toNat [] ∧ (nxt.getD x.toNat []).length = 3 ∧ ∀ j, j < 3 → 0 ≤ nxD nxt x j ∧ nxD nxt x j < n := by
  have hlt : x.toNat < nxt.length := by omega
  have e : nxt.getD x.toNat [] = nxt[x.toNat] := by rw [List.getD_eq_getElem?_getD, List.getElem?_eq_getElem hlt]; rfl
  have hr := hrow _ (List.getElem_mem hlt)
  refine ⟨?_, by rw [e]; exact hr.1, fun j hj => ?_⟩
  · obtain ⟨m, rfl⟩ := Int.eq_ofNat_of_zero_le hx.1
    rw [rows_get nxt m (by simpa using hlt), e]
    rfl
  · unfold nxD
    rw [e, rd_get _ j (by omega)]
    exact hr.2 _ (List.getElem_mem _)
theorem l7_l1 (x : Int) (wd : ByteArray) (i : Nat) (hx : 0 ≤ x ∧ x < n) (res : ByteArray × Bool) : ∀ (d j : Nat) (p : St Int), j + d = 3 → Bf.Fit (fun x => 0 ≤ x ∧ x < (n : Int)) n p → p.1[i]? = some x → p.2[i]? = some wd →
    Ev (fun k => spec_l7First.l0 k goal (ex (nxD nxt) x wd d j p).1 (ex (nxD nxt) x wd d j p).2 ((i + 1 : Nat) : Int) acc nxt) res → Ev (fun k => spec_l7First.l1 k goal p.1 p.2 i j acc nxt) res := by
  intro d
  induction d with
  | zero =>
    intro j p hj hf h1 h2 he
    have hi : i < p.1.length := (List.getElem?_eq_some_iff.mp h1).1
    have hle := hf.le
    refine next ?_
    simp only [spec_l7First.l1, if_neg (show ¬ (j : Int) < 3 by omega), up1 (show i < 9223372036854775807 by omega)]
    exact he
  | succ d ih =>
    intro j p hj hf h1 h2 he
    obtain ⟨hi, e1⟩ := List.getElem?_eq_some_iff.mp h1
    obtain ⟨hi2, e2⟩ := List.getElem?_eq_some_iff.mp h2
    have hle := hf.le
    have hlen := hf.len
    obtain ⟨r1, r2, r3⟩ := nx_row goal nxt n hn hl hg hrow hx
    have hz : wd.size ≤ i := by
      have := hf.size i
      rw [List.getD_eq_getElem?_getD, h2] at this
      exact this
    have hy := r3 j (by omega)
    have epc : (⟨#[97, 98, 99]⟩ : ByteArray).extract ((j : Int)).toNat ((wrap64 ((j : Int) + 1)) : Int).toNat = pc j := by rw [up1 (by omega), Int.toNat_natCast, Int.toNat_natCast]; rfl
    refine next ?_
    simp only [spec_l7First.l1, if_pos (show (j : Int) < 3 by omega), if_pos (show (0 : Int) ≤ i by omega), if_pos (show (i : Int) < (p.1.length : Int) by omega), rd_get p.1 i hi, e1, if_pos hx.1, if_pos (show x < (nxt.length : Int) by omega), if_pos (show (0 : Int) ≤ j by omega), r1, r2, if_pos (show (j : Int) < ((3 : Nat) : Int) by omega)]
    refine Ev.bind (spec_find p.1 _ (by omega)) ?_
    have e3 : rd (nxt.getD x.toNat []) (j : Int) = nxD nxt x j := rfl
    rw [ex] at he
    simp only [e3]
    by_cases hm : nxD nxt x j ∈ p.1
    · rw [show put (nxD nxt x j) (wd ++ pc j) p = p by unfold put; rw [if_pos hm]] at he
      simp only [if_pos hm, if_neg (show ¬ ((List.idxOf (nxD nxt x j) p.1 : Nat) : Int) < 0 by omega)]
      have := ih (j + 1) p (by omega) hf h1 h2 he
      rw [← up1 (by omega)] at this
      exact this
    · have ep : put (nxD nxt x j) (wd ++ pc j) p = (p.1 ++ [nxD nxt x j], p.2 ++ [wd ++ pc j]) := by unfold put; rw [if_neg hm]
      have hf2 := fit_put hf hy (wd := wd ++ pc j) (by rw [ByteArray.size_append, size_pc j (by omega)]; omega)
      rw [ep] at he hf2
      simp only [if_neg hm, if_pos (show (-1 : Int) < 0 by omega), if_pos (show p.1.length < 17592186044416 by omega), if_pos (show (i : Int) < (p.2.length : Int) by omega), epc, if_pos (show (j : Int) ≤ wrap64 ((j : Int) + 1) by rw [up1 (by omega)]; omega), if_pos (show wrap64 ((j : Int) + 1) ≤ 3 by rw [up1 (by omega)]; omega), rdOf_get _ p.2 i hi2, e2, size_pc j (show j < 3 by omega), if_pos (show wd.size + 1 ≤ 9223372036854775807 by omega), if_pos (show p.2.length < 8796093022208 by omega)]
      have := ih (j + 1) (p.1 ++ [nxD nxt x j], p.2 ++ [wd ++ pc j]) (by omega) hf2 (by rw [List.getElem?_append_left hi]; exact h1) (by rw [List.getElem?_append_left hi2]; exact h2) he
      rw [← up1 (by omega)] at this
      exact this
theorem l7_l0 : ∀ (d : Nat) (p : St Int) (i : Nat), Bf.Fit (fun x => 0 ≤ x ∧ x < (n : Int)) n p → i ≤ p.1.length → n + 2 ≤ d + i → Ev (fun k => spec_l7First.l0 k goal p.1 p.2 i acc nxt) (bfs (fun x => rdOf false goal x) (nxD nxt) d p i) := by
  intro d
  induction d with
  | zero => intro p i hf hi hd; have := hf.le; omega
  | succ d ih =>
    intro p i hf hi hd
    have hle := hf.le
    have hlen := hf.len
    refine next ?_
    rw [bfs]
    by_cases h : i < p.1.length
    · rw [dif_pos h]
      have hx := hf.all _ (List.getElem_mem h)
      have h2 : p.2[i]? = some p.2[i] := List.getElem?_eq_getElem (by omega)
      have hgd : p.2.getD i ByteArray.empty = p.2[i] := by rw [List.getD_eq_getElem?_getD, h2]; rfl
      simp only [spec_l7First.l0, if_pos (show (i : Int) < (p.1.length : Int) by omega), if_pos (show (0 : Int) ≤ i by omega), rd_get p.1 i h, if_pos hx.1, if_pos (show p.1[i] < (goal.length : Int) by omega)]
      by_cases hgo : rdOf false goal p.1[i] = true
      · simp only [hgo, if_true, if_pos (show (i : Int) < (p.2.length : Int) by omega), rdOf_get _ p.2 i (by omega), hgd]
        exact Ev.now _
      · simp only [hgo, if_false, hgd, Bool.false_eq_true]
        have hz : p.2[i].size ≤ i := by
          have := hf.size i
          rw [hgd] at this
          exact this
        obtain ⟨_, _, r3⟩ := nx_row goal nxt n hn hl hg hrow hx
        obtain ⟨f1, f2⟩ := fit_ex (nx := nxD nxt) hx (fun x j hx hj => (nx_row goal nxt n hn hl hg hrow hx).2.2 j hj) (wd := p.2[i]) 3 0 p (by omega) hf (by omega)
        exact l7_l1 acc goal nxt n hn hl hg hrow p.1[i] p.2[i] i hx _ 3 0 p (by omega) hf (List.getElem?_eq_getElem h) h2 (ih _ (i + 1) f1 (by omega) (by omega))
    · rw [dif_neg h]
      simp only [spec_l7First.l0, if_neg (show ¬ (i : Int) < (p.1.length : Int) by omega)]
      exact Ev.now _
theorem spec_first (h1 : 1 ≤ n) : Ev (fun k => spec_l7First.f k acc nxt goal) (bfs (fun x => rdOf false goal x) (nxD nxt) (n + 2) ([0], [(⟨#[]⟩ : ByteArray)]) 0) := by
  simp only [spec_l7First.f]
  exact l7_l0 acc goal nxt n hn hl hg hrow (n + 2) ([0], [(⟨#[]⟩ : ByteArray)]) 0 (fit0 ⟨by omega, by omega⟩ (fun s hs ha => card_range n s hs ha)) (by simp) (by omega)
end
/-- More rounds than there are elements make no odds. -/
theorem bfs_more {α : Type} [DecidableEq α] {dom : α → Prop} {N : Nat} {good : α → Bool} {nx : α → Nat → α} (hd : ∀ x j, dom x → j < 3 → dom (nx x j)) : ∀ (d d' : Nat) (p : St α) (i : Nat), Bf.Fit dom N p → i ≤ p.1.length → N + 1 ≤ d + i → N + 1 ≤ d' + i → bfs good nx d p i = bfs good nx d' p i := by
  intro d
  induction d with
  | zero => intro d' p i hf hi h1 h2; have := hf.le; omega
  | succ d ih =>
    intro d' p i hf hi h1 h2
    have hle := hf.le
    cases d' with
    | zero => omega
    | succ d' =>
      rw [bfs, bfs]
      by_cases h : i < p.1.length
      · rw [dif_pos h, dif_pos h]
        split
        · rfl
        · have hz : (p.2.getD i ByteArray.empty).size ≤ i := hf.size i
          obtain ⟨f1, f2⟩ := fit_ex (nx := nx) (hf.all _ (List.getElem_mem h)) hd (wd := p.2.getD i ByteArray.empty) 3 0 p (by omega) hf (by omega)
          exact ih d' _ (i + 1) f1 (by omega) (by omega) (by omega)
      · rw [dif_neg h, dif_neg h]

end Go.Proofs.Ytoknogcefajfiaa.Pl
