/- An argument that is a tree (a struct of a number, a string and a slice of its like), opened. No condition. -/
import Derived.Test.YtldgkgdgcfllmaaRk
namespace Go.Proofs.Ytldgkgdgcfllmaa.Rk
open Go.RowKit Go.Deep Go.ChangeShapes Go.WideShapes Go.Proofs.Ytldgkgdgcfllmaa.P Go.Proofs.YtldgkgdgcfllmaaW.PrintWords Go.Proofs.YtldgkgdgcfllmaaW.PrintLast Go.Proofs.YtldgkgdgcfllmaaW.PrintMore
set_option linter.unusedVariables false
set_option linter.unusedSimpArgs false
variable {H : Type} {enc : TypeId × Value → H} {w : World} {base : Nat} {spare : Nat → Bool} {held : Bool}

/-- What holds of a tree that came in. -/
inductive OkT : S24 → Prop
  | mk (x : S24) (h0 : wfI .i64 x.f0) (h1 : shortS x.f1) (h2 : x.f2.length ≤ 9223372036854775807) (h3 : ∀ y ∈ x.f2, OkT y) : OkT x
/-- A row of trees out of its elements. -/
theorem row_trees {a : Addr} {len cap : Nat} (hl : len ≤ cap) (hm : cap ≤ maxLen) (h : ∀ i, i < len → ∃ y : S24, (∃ cs', w.cells? base (a.add (i * 3)) 3 = some cs' ∧ k24.K w y cs') ∧ OkT y) :
    ∃ xs : List S24, xs.length = len ∧ Kd.C k24 w (some a) xs.length xs ∧ xs.length ≤ 9223372036854775807 ∧ ∀ y ∈ xs, OkT y := by
  haveI : Inhabited S24 := ⟨z24⟩
  obtain ⟨f, hf⟩ := choose_lt (n := len) (p := fun i y => (∃ cs', w.cells? base (a.add (i * 3)) 3 = some cs' ∧ k24.K w y cs') ∧ OkT y) h
  have hlen : ((List.range len).map f).length = len := by simp
  have hbig : len ≤ 9223372036854775807 := by unfold maxLen at hm; omega
  refine ⟨(List.range len).map f, hlen, ⟨rfl, by rw [hlen]; exact hbig, fun _ => ⟨a, rfl, fun j p hj => ?_⟩⟩, by rw [hlen]; exact hbig, fun y hy => ?_⟩
  · have hjl : j < len := by
      have := (List.getElem?_eq_some_iff.1 hj).1
      rwa [hlen] at this
    have hp : f j = p := by
      rw [List.getElem?_map, List.getElem?_range hjl] at hj
      simpa using hj
    subst hp
    obtain ⟨⟨cs', hc, hK⟩, _⟩ := hf j hjl
    obtain ⟨_, hcl, hat⟩ := World.cells?_some hc
    refine ⟨cs', hcl, hK, fun i u hu => ?_⟩
    have hi : i < 3 := by
      have := (List.getElem?_eq_some_iff.1 hu).1
      omega
    have e : k24.sz = 3 := rfl
    rw [e, ← Go.Deep.add_add, hat i hi]
    exact hu
  · obtain ⟨i, hi, rfl⟩ := List.mem_map.mp hy
    exact (hf i (List.mem_range.mp hi)).2
/-- A slice of trees that reads, where shorter readings of trees do. -/
theorem slice_trees {fuel : Nat} (ih : ∀ n, n < fuel → ∀ cs (x : DataW H × List MemPlace), DataW.trod enc Try.prog w base spare held n 24 cs = some x → ∃ y, k24.K w y cs ∧ OkT y)
    {cs : List Value} {x : DataW H × List MemPlace} (h : DataW.trod enc Try.prog w base spare held fuel 22 cs = some x) : ∃ xs : List S24, (Kd.slice 24 k24).K w xs cs ∧ rowsOf OkT xs := by
  rcases DataW.trod_slice Try.underlying22 h with ⟨rfl, _⟩ | ⟨a, len, cap, elems, rest, n, rfl, rfl, _, hb, hl, hm, hlen, hel, _, _⟩
  · exact ⟨[], ⟨none, 0, rfl, Nat.le_refl _, rfl, by simp, fun h0 => absurd h0 (Nat.lt_irrefl _)⟩, by simp, fun x hx => by cases hx⟩
  · have hC : Try.prog.cellsOf 24 = 3 := by kernel_rfl
    obtain ⟨xs, h1, h2, h3, h4⟩ := row_trees (w := w) (base := base) (a := a) hl hm (fun i hi => by
      have := hel i hi
      rw [List.getElem?_eq_getElem (by omega), hC] at this
      obtain ⟨cs', hc, ht⟩ := Option.bind_eq_some_iff.1 this
      obtain ⟨y, hy, hok⟩ := ih n (by omega) cs' _ ht
      exact ⟨y, ⟨cs', hc, hy⟩, hok⟩)
    subst h1
    exact ⟨xs, ⟨some a, cap, rfl, hl, h2⟩, h3, h4⟩
set_option maxRecDepth 100000 in
theorem opens_tree : ∀ (fuel : Nat) (cs : List Value) (x : DataW H × List MemPlace), DataW.trod enc Try.prog w base spare held fuel 24 cs = some x → ∃ y, k24.K w y cs ∧ OkT y := by
  intro fuel
  induction fuel using Nat.strongRecOn with
  | _ fuel ih =>
  intro cs x h
  obtain ⟨xs, n, rfl, _, hcl, hlen, hg⟩ := DataW.trod_struct Try.underlying24 h
  have hC : Try.prog.cellsOf 24 = 3 := by kernel_rfl
  have c0 : Try.prog.cellsOf 3 = 1 := by kernel_rfl
  have c1 : Try.prog.cellsOf 9 = 1 := by kernel_rfl
  have c2 : Try.prog.cellsOf 22 = 1 := by kernel_rfl
  rw [hC] at hcl
  match cs, hcl, xs, hlen with
  | [u0, u1, u2], _, [y0, y1, y2], _ =>
    have g0 : DataW.trod enc Try.prog w base spare held n 3 (([u0, u1, u2].drop 0).take (Try.prog.cellsOf 3)) = some y0 := hg 0 _ rfl
    have g1 : DataW.trod enc Try.prog w base spare held n 9 (([u0, u1, u2].drop 1).take (Try.prog.cellsOf 9)) = some y1 := hg 1 _ rfl
    have g2 : DataW.trod enc Try.prog w base spare held n 22 (([u0, u1, u2].drop 2).take (Try.prog.cellsOf 22)) = some y2 := hg 2 _ rfl
    rw [c0] at g0
    rw [c1] at g1
    rw [c2] at g2
    obtain ⟨a, e0, _, w0⟩ := DataW.trod_int Try.underlying3 g0
    obtain ⟨s, e1, _, w1⟩ := DataW.trod_string Try.underlying9 g1
    obtain ⟨l, hK, hl, hok⟩ := slice_trees (fuel := n) (fun m hm => ih m (by omega)) g2
    obtain ⟨A, c, e2, hlc, hC2⟩ := hK
    have q0 : u0 = .int .i64 a := (List.cons.inj e0).1
    have q1 : u1 = .string s := (List.cons.inj e1).1
    have q2 : u2 = .slice A l.length c := (List.cons.inj e2).1
    subst q0
    subst q1
    subst q2
    exact ⟨⟨a, s, l⟩, k24_mk w ⟨a, s, l⟩ hlc hC2, OkT.mk _ w0 w1 hl hok⟩
theorem opens_trees : Opens enc Try.prog w base spare held (Kd.slice 24 k24) (rowsOf OkT) 22 :=
  fun fuel cs x h => slice_trees (fun n _ => opens_tree n) h
end Go.Proofs.Ytldgkgdgcfllmaa.Rk
