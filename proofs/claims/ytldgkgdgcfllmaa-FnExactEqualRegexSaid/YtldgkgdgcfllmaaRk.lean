/- Arguments that are slices, slices of slices and structs, opened as the printed contracts want them. No condition. -/
import Derived.Test.YtldgkgdgcfllmaaP0
import Derived.Deep.Slices
import Derived.Lib.SmallJoins
namespace Go.Proofs.Ytldgkgdgcfllmaa.Rk
open Go.RowKit Go.Deep Go.ChangeShapes Go.WideShapes Go.Proofs.YtldgkgdgcfllmaaW.PrintWords Go.Proofs.YtldgkgdgcfllmaaW.PrintLast Go.Proofs.YtldgkgdgcfllmaaW.PrintMore
set_option linter.unusedVariables false
set_option linter.unusedSimpArgs false
variable {H : Type} {enc : TypeId × Value → H} {P : Program} {w : World} {base : Nat} {spare : Nat → Bool} {held : Bool} {α : Type}

/-- Whatever reads as a value of type t is a K, and G holds of it. -/
def Opens (enc : TypeId × Value → H) (P : Program) (w : World) (base : Nat) (spare : Nat → Bool) (held : Bool) (K : Kd α) (G : α → Prop) (t : TypeId) : Prop :=
  ∀ (fuel : Nat) (cs : List Value) (x : DataW H × List MemPlace), DataW.trod enc P w base spare held fuel t cs = some x → ∃ a, K.K w a cs ∧ G a
def wfI (k : IntKind) (n : Int) : Prop := (Lit.int k n).wf = true
def shortS (s : ByteArray) : Prop := s.size ≤ 9223372036854775807
def rowsOf (G : α → Prop) (xs : List α) : Prop := xs.length ≤ 9223372036854775807 ∧ ∀ x ∈ xs, G x
theorem opens_int {k : IntKind} {t : TypeId} (ht : P.underlying t = some (.int k)) : Opens enc P w base spare held (Kd.int k) (wfI k) t := by
  intro fuel cs x h
  obtain ⟨n, rfl, _, h2⟩ := DataW.trod_int ht h
  exact ⟨n, rfl, h2⟩
theorem opens_bool {t : TypeId} (ht : P.underlying t = some .bool) : Opens enc P w base spare held Kd.bool (fun _ => True) t := by
  intro fuel cs x h
  obtain ⟨b, rfl, _⟩ := DataW.trod_bool ht h
  exact ⟨b, rfl, trivial⟩
theorem opens_string {t : TypeId} (ht : P.underlying t = some .string) : Opens enc P w base spare held Kd.string shortS t := by
  intro fuel cs x h
  obtain ⟨s, rfl, _, h2⟩ := DataW.trod_string ht h
  exact ⟨s, rfl, h2⟩
theorem opens_slice [Inhabited α] {K : Kd α} {G : α → Prop} {t e : TypeId} (q : Nat) (ht : P.underlying t = some (.slice e)) (hc : P.cellsOf e = 1) (hs : K.sz = 1) (h : Opens enc P w base spare held K G e) : Opens enc P w base spare held (Kd.slice q K) (rowsOf G) t := by
  intro fuel cs x hx
  rcases open_slice1 ht hc hx with ⟨rfl, _⟩ | ⟨a, len, cap, m, n, V, D, Pl, rfl, _, hl, hm, hmm, _, hx⟩
  · exact ⟨[], ⟨none, 0, rfl, Nat.le_refl _, rfl, by simp, fun h0 => absurd h0 (Nat.lt_irrefl _)⟩, by simp, fun x hx => by cases hx⟩
  · have hle : len ≤ m := by rw [hmm]; split <;> omega
    obtain ⟨f, hf⟩ := choose_lt (n := len) (p := fun i y => K.K w y [V i] ∧ G y) (fun i hi => h _ _ _ (hx i (by omega)).2)
    have hlen : ((List.range len).map f).length = len := by simp
    have hbig : len ≤ 9223372036854775807 := by unfold maxLen at hm; omega
    refine ⟨(List.range len).map f, ⟨some a, cap, by rw [hlen], by rw [hlen]; exact hl, hlen.symm ▸ rfl, ?_, fun _ => ⟨a, rfl, fun j p hj => ?_⟩⟩, by rw [hlen]; exact hbig, fun x hx => ?_⟩
    · rw [hlen]; exact hbig
    · have hjl : j < len := by
        have := (List.getElem?_eq_some_iff.1 hj).1
        rwa [hlen] at this
      have hp : f j = p := by
        rw [List.getElem?_map, List.getElem?_range hjl] at hj
        simpa using hj
      subst hp
      refine ⟨[V j], hs.symm, (hf j hjl).1, fun i u hu => ?_⟩
      cases i with
      | zero =>
        have : V j = u := by simpa using hu
        subst this
        rw [hs, Nat.mul_one, Nat.add_zero]
        exact (hx j (by omega)).1
      | succ i => simp at hu
    · obtain ⟨i, hi, rfl⟩ := List.mem_map.mp hx
      exact (hf i (List.mem_range.mp hi)).2
/-- A slice's value, opened. -/
theorem slice_of {K : Kd α} {q : Nat} {v : Value} {xs : List α} (h : (Kd.slice q K).K w xs [v]) : ∃ A c, v = .slice A xs.length c ∧ xs.length ≤ c ∧ K.C w A xs.length xs := by
  obtain ⟨A, c, e, h1, h2⟩ := h
  exact ⟨A, c, by simpa using e, h1, h2⟩
end Go.Proofs.Ytldgkgdgcfllmaa.Rk
