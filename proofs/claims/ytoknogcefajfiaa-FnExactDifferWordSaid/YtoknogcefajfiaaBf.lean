/- Searching breadth first: lists of what was met, and the words that lead there. No condition. -/
import Derived.Test.YtoknogcefajfiaaBase
import Derived.Test.YtoknogcefajfiaaMp
namespace Go.Proofs.Ytoknogcefajfiaa.Bf
open Go.RowKit Go.Proofs.Ytoknogcefajfiaa.Pl Go.Proofs.Ytoknogcefajfiaa.Mp Go.Proofs.YtoknogcefajfiaaW.PrintWords Go.Proofs.YtoknogcefajfiaaW.PrintLast Go.Proofs.YtoknogcefajfiaaW.PrintMore
set_option linter.unusedVariables false
set_option linter.unusedSimpArgs false
set_option linter.unusedSectionVars false

def pc (j : Nat) : ByteArray := (⟨#[97, 98, 99]⟩ : ByteArray).extract j (j + 1)
theorem size_pc (j : Nat) (h : j < 3) : (pc j).size = 1 := by
  match j, h with
  | 0, _ => rfl
  | 1, _ => rfl
  | 2, _ => rfl
section
variable {α : Type} [DecidableEq α]
/-- Where each one of a list stands. -/
def idx (s : List α) : α → Option Int := fun y => if y ∈ s then some (s.idxOf y : Int) else none
theorem idx_some {s : List α} {y : α} : (idx s y).isSome = decide (y ∈ s) := by unfold idx; split <;> simp_all
theorem idx_in {s : List α} {y : α} (h : y ∈ s) : (idx s y).isSome = true := by rw [idx_some]; exact decide_eq_true h
theorem idx_out {s : List α} {y : α} (h : y ∉ s) : (idx s y).isSome = false := by rw [idx_some]; exact decide_eq_false h
theorem idx_upd {s : List α} {y : α} (h : y ∉ s) : upd (idx s) y (s.length : Int) = idx (s ++ [y]) := by
  funext z
  unfold upd idx
  by_cases hz : z = y
  · subst hz
    rw [if_pos rfl, if_pos (by simp), List.idxOf_append, if_neg h]
    simp
  · rw [if_neg hz]
    by_cases hm : z ∈ s
    · rw [if_pos hm, if_pos (by simp [hm]), List.idxOf_append, if_pos hm]
    · rw [if_neg hm, if_neg (by simp [hm, hz])]
theorem idx_one (x : α) : upd (fun _ => none) x 0 = idx [x] := by
  funext z
  unfold upd idx
  by_cases hz : z = x
  · subst hz; simp
  · rw [if_neg hz, if_neg (by simp [hz])]

abbrev St (α : Type) := List α × List ByteArray
def put (y : α) (wd : ByteArray) (p : St α) : St α := if y ∈ p.1 then p else (p.1 ++ [y], p.2 ++ [wd])
def ex (nx : α → Nat → α) (x : α) (wd : ByteArray) : Nat → Nat → St α → St α
  | 0, _, p => p
  | d + 1, j, p => ex nx x wd d (j + 1) (put (nx x j) (wd ++ pc j) p)
def bfs (good : α → Bool) (nx : α → Nat → α) : Nat → St α → Nat → ByteArray × Bool
  | 0, _, _ => (⟨#[]⟩, false)
  | d + 1, p, i => if h : i < p.1.length then (if good p.1[i] = true then (p.2.getD i ByteArray.empty, true) else bfs good nx d (ex nx p.1[i] (p.2.getD i ByteArray.empty) 3 0 p) (i + 1)) else (⟨#[]⟩, false)
end
section
variable {α : Type}
/-- What holds of the lists throughout. -/
structure Fit (dom : α → Prop) (N : Nat) (p : St α) : Prop where
  nd : p.1.Nodup
  all : ∀ x ∈ p.1, dom x
  len : p.2.length = p.1.length
  size : ∀ j, (p.2.getD j ByteArray.empty).size ≤ j
  card : ∀ s : List α, s.Nodup → (∀ x ∈ s, dom x) → s.length ≤ N
theorem Fit.le {dom : α → Prop} {N : Nat} {p : St α} (h : Fit dom N p) : p.1.length ≤ N := h.card _ h.nd h.all
theorem Fit.snoc {dom : α → Prop} {N : Nat} {p : St α} (h : Fit dom N p) {y : α} (hy : dom y) (hn : y ∉ p.1) {wd : ByteArray} (hw : wd.size ≤ p.1.length) : Fit dom N (p.1 ++ [y], p.2 ++ [wd]) where
  nd := by
    rw [List.nodup_append]
    refine ⟨h.nd, by simp, ?_⟩
    intro a ha b hb
    rw [List.mem_singleton] at hb
    subst hb
    rintro rfl
    exact hn ha
  all := fun x hx => by
    rcases List.mem_append.mp hx with q | q
    · exact h.all x q
    · rw [List.mem_singleton] at q
      subst q
      exact hy
  len := by simp [h.len]
  size := fun j => by
    have hl := h.len
    simp only [List.getD_eq_getElem?_getD]
    by_cases hj : j < p.2.length
    · rw [List.getElem?_append_left hj]
      have := h.size j
      simpa only [List.getD_eq_getElem?_getD] using this
    · rw [List.getElem?_append_right (by omega)]
      by_cases hj2 : j - p.2.length = 0
      · rw [hj2]
        simp
        omega
      · rw [List.getElem?_eq_none (by simp; omega)]
        simp [ByteArray.size]
  card := h.card
theorem fit0 {dom : α → Prop} {N : Nat} {x : α} (hx : dom x) (hc : ∀ s : List α, s.Nodup → (∀ x ∈ s, dom x) → s.length ≤ N) : Fit dom N ([x], [(⟨#[]⟩ : ByteArray)]) where
  nd := by simp
  all := fun y hy => by rw [List.mem_singleton] at hy; subst hy; exact hx
  len := rfl
  size := fun j => by cases j <;> simp [ByteArray.size]
  card := hc
end
section
variable {α : Type} [DecidableEq α]
theorem fit_put {dom : α → Prop} {N : Nat} {p : St α} (h : Fit dom N p) {y : α} (hy : dom y) {wd : ByteArray} (hw : wd.size ≤ p.1.length) : Fit dom N (put y wd p) := by
  unfold put
  split
  · exact h
  · rename_i hn
    exact h.snoc hy hn hw
theorem put_len (y : α) (wd : ByteArray) (p : St α) : p.1.length ≤ (put y wd p).1.length := by
  unfold put
  split <;> simp
theorem fit_ex {dom : α → Prop} {N : Nat} {nx : α → Nat → α} {x : α} (hx : dom x) (hd : ∀ x j, dom x → j < 3 → dom (nx x j)) {wd : ByteArray} : ∀ (d j : Nat) (p : St α), j + d ≤ 3 → Fit dom N p → wd.size + 1 ≤ p.1.length → Fit dom N (ex nx x wd d j p) ∧ p.1.length ≤ (ex nx x wd d j p).1.length
  | 0, j, p, _, h, _ => ⟨h, Nat.le_refl _⟩
  | d + 1, j, p, hj, h, hw => by
    have h1 : Fit dom N (put (nx x j) (wd ++ pc j) p) := fit_put h (hd x j hx (by omega)) (by rw [ByteArray.size_append, size_pc j (by omega)]; exact hw)
    have h2 := put_len (nx x j) (wd ++ pc j) p
    obtain ⟨h3, h4⟩ := fit_ex hx hd d (j + 1) _ (by omega) h1 (Nat.le_trans hw h2)
    exact ⟨h3, Nat.le_trans h2 h4⟩
end
end Go.Proofs.Ytoknogcefajfiaa.Bf
