/- Texts of the proof of FnExactParseRegex, put together. No condition. -/
import Derived.Shelf.Abstract
import Derived.Lib.Walk
import Derived.Test.YtldgkgdgcfllmaaQFnExactParseRegex2
import Derived.Deep.Slices
import Derived.Lib.SmallJoins
section
namespace Go.Proofs.Ytldgkgdgcfllmaa
open Go.RowKit Go.Shelf Go.Proofs.Ytldgkgdgcfllmaa.P Go.Proofs.YtldgkgdgcfllmaaW.PrintWords Go.Proofs.YtldgkgdgcfllmaaW.PrintLast Go.Proofs.YtldgkgdgcfllmaaW.PrintMore
set_option linter.unusedVariables false
structure Pc where
  P : World → List Nat → Prop
  mv : ∀ {w w' : World} {fp : List Nat}, P w fp → (∀ k ∈ fp, w'.heap[k]? = w.heap[k]?) → P w' fp
  lt : ∀ {w : World} {fp : List Nat}, P w fp → ∀ k ∈ fp, k < w.heap.size
def SlF (w : World) : List Pc → List Nat → Prop
  | [], fp => fp = []
  | p :: ps, fp => ∃ f1 f2, fp = f1 ++ f2 ∧ p.P w f1 ∧ SlF w ps f2
structure Sl (w0 w : World) (ps : List Pc) : Prop where
  bel : Below w0.heap.size w0 w
  own : ∃ fp, SlF w ps fp ∧ fp.Nodup ∧ ∀ k ∈ fp, w0.heap.size ≤ k
section
variable {w0 w w' w1 : World} {ps qs : List Pc} {p q : Pc} {fp : List Nat} {i j : Nat}
theorem SlF.mv : ∀ {ps : List Pc} {fp : List Nat}, SlF w ps fp → (∀ k ∈ fp, w'.heap[k]? = w.heap[k]?) → SlF w' ps fp
  | [], _, h, _ => h
  | p :: ps, _, ⟨f1, f2, e, h1, h2⟩, hm => ⟨f1, f2, e, p.mv h1 (fun k hk => hm k (by rw [e]; exact List.mem_append_left _ hk)), SlF.mv h2 (fun k hk => hm k (by rw [e]; exact List.mem_append_right _ hk))⟩
theorem SlF.lt : ∀ {ps : List Pc} {fp : List Nat}, SlF w ps fp → ∀ k ∈ fp, k < w.heap.size
  | [], _, h, k, hk => by rw [h] at hk; cases hk
  | p :: ps, _, ⟨f1, f2, e, h1, h2⟩, k, hk => by
    rw [e] at hk
    rcases List.mem_append.1 hk with hk | hk
    · exact p.lt h1 k hk
    · exact SlF.lt h2 k hk
theorem SlF.app : ∀ {ps : List Pc} {f g : List Nat}, SlF w ps f → SlF w qs g → SlF w (ps ++ qs) (f ++ g)
  | [], _, _, h, h2 => by rw [h]; exact h2
  | p :: ps, _, g, ⟨f1, f2, e, h1, h2⟩, h3 => ⟨f1, f2 ++ g, by rw [e, List.append_assoc], h1, SlF.app h2 h3⟩
theorem SlF.take : ∀ {ps : List Pc} {f : List Nat} (n : Nat), SlF w ps f → ∃ g, SlF w (ps.take n) g ∧ List.Sublist g f
  | ps, f, 0, h => ⟨[], rfl, List.nil_sublist _⟩
  | [], _, n + 1, h => ⟨[], rfl, List.nil_sublist _⟩
  | p :: ps, _, n + 1, ⟨f1, f2, e, h1, h2⟩ => by
    obtain ⟨g, h3, h4⟩ := SlF.take n h2
    exact ⟨f1 ++ g, ⟨f1, g, rfl, h1, h3⟩, by rw [e]; exact List.Sublist.append_left h4 _⟩
theorem SlF.at_ : ∀ {ps : List Pc} {i : Nat} {fp : List Nat}, SlF w ps fp → ps[i]? = some p →
    ∃ f fr, p.P w f ∧ fp.Perm (f ++ fr) ∧ ∀ (w' : World) (q : Pc) (f' : List Nat), (∀ k ∈ fr, w'.heap[k]? = w.heap[k]?) → q.P w' f' → ∃ fp', SlF w' (ps.set i q) fp' ∧ fp'.Perm (f' ++ fr)
  | [], i, _, _, h => by cases i <;> cases h
  | r :: ps, 0, _, ⟨f1, f2, e, h1, h2⟩, h => by
    obtain rfl := Option.some.inj h
    exact ⟨f1, f2, h1, by rw [e], fun w' q f' hk hq => ⟨f' ++ f2, ⟨f', f2, rfl, hq, SlF.mv h2 hk⟩, List.Perm.refl _⟩⟩
  | r :: ps, i + 1, _, ⟨f1, f2, e, h1, h2⟩, h => by
    obtain ⟨f, fr, h3, h4, h5⟩ := SlF.at_ h2 (by simpa using h)
    refine ⟨f, f1 ++ fr, h3, ?_, fun w' q f' hk hq => ?_⟩
    · rw [e]
      exact (List.Perm.append_left f1 h4).trans (by rw [← List.append_assoc, ← List.append_assoc]; exact List.Perm.append_right fr List.perm_append_comm)
    · obtain ⟨g, h6, h7⟩ := h5 w' q f' (fun k hk' => hk k (List.mem_append_right _ hk')) hq
      refine ⟨f1 ++ g, ⟨f1, g, rfl, r.mv h1 (fun k hk' => hk k (List.mem_append_left _ hk')), h6⟩, ?_⟩
      exact (List.Perm.append_left f1 h7).trans (by rw [← List.append_assoc, ← List.append_assoc]; exact List.Perm.append_right fr List.perm_append_comm)
theorem Sl.start (w : World) : Sl w w [] := ⟨Below.refl _ _, [], rfl, List.nodup_nil, fun k hk => by cases hk⟩
theorem Sl.only (H : Sl w0 w ps) (hb : Below w.heap.size w w') : Sl w0 w' ps := by
  obtain ⟨fp, h1, h2, h3⟩ := H.own
  exact ⟨below_then H.bel H.bel.size hb, fp, SlF.mv h1 (fun k hk => hb.block k (SlF.lt h1 k hk)), h2, h3⟩
theorem Sl.drew (H : Sl w0 w ps) : Sl w0 w.drew ps := H.only (below_drew1 (Below.refl _ _))
theorem Sl.call (H : Sl w0 w ps) (K : Sl w w' qs) : Sl w0 w' (ps ++ qs) := by
  obtain ⟨fp, h1, h2, h3⟩ := H.own
  obtain ⟨gp, g1, g2, g3⟩ := K.own
  refine ⟨below_then H.bel H.bel.size K.bel, fp ++ gp, SlF.app (SlF.mv h1 (fun k hk => K.bel.block k (SlF.lt h1 k hk))) g1, List.nodup_append.2 ⟨h2, g2, fun a ha b hb e => ?_⟩, fun k hk => ?_⟩
  · have := SlF.lt h1 a ha
    have := g3 b hb
    omega
  · rcases List.mem_append.1 hk with hk | hk
    · exact h3 k hk
    · exact Nat.le_trans H.bel.size (g3 k hk)
theorem Sl.pre (H : Sl w0 w ps) (n : Nat) : Sl w0 w (ps.take n) := by
  obtain ⟨fp, h1, h2, h3⟩ := H.own
  obtain ⟨g, h4, h5⟩ := SlF.take n h1
  exact ⟨H.bel, g, h4, h2.sublist h5, fun k hk => h3 k (h5.subset hk)⟩
theorem Sl.opn (H : Sl w0 w ps) (i : Nat) (hi : ps[i]? = some p) : ∃ f, p.P w f ∧ f.Nodup ∧ (∀ k ∈ f, w0.heap.size ≤ k) ∧ ∀ (w' : World) (q : Pc) (f' : List Nat), Below w0.heap.size w0 w' → q.P w' f' → f'.Nodup → (∀ k ∈ f', k ∈ f ∨ w.heap.size ≤ k) → (∀ k, k < w.heap.size → k ∉ f → w'.heap[k]? = w.heap[k]?) → Sl w0 w' (ps.set i q) := by
  obtain ⟨fp, h1, h2, h3⟩ := H.own
  obtain ⟨f, fr, h4, h5, h6⟩ := SlF.at_ h1 hi
  have hn := (List.Perm.nodup_iff h5).1 h2
  obtain ⟨n1, n2, n3⟩ := List.nodup_append.1 hn
  have hlt : ∀ k ∈ fr, k < w.heap.size := fun k hk => SlF.lt h1 k (h5.mem_iff.2 (List.mem_append_right _ hk))
  refine ⟨f, h4, n1, fun k hk => h3 k (h5.mem_iff.2 (List.mem_append_left _ hk)), fun w' q f' hb hq hd hf hk => ?_⟩
  obtain ⟨gp, g1, g2⟩ := h6 w' q f' (fun k hkr => hk k (hlt k hkr) (fun hkf => n3 k hkf k hkr rfl)) hq
  refine ⟨hb, gp, g1, (List.Perm.nodup_iff g2).2 (List.nodup_append.2 ⟨hd, n2, fun a ha b hb' e => ?_⟩), fun k hk' => ?_⟩
  · subst e
    rcases hf a ha with hf | hf
    · exact n3 a hf a hb' rfl
    · exact absurd (hlt a hb') (by omega)
  · rcases List.mem_append.1 (g2.mem_iff.1 hk') with hk' | hk'
    · rcases hf k hk' with hf | hf
      · exact h3 k (h5.mem_iff.2 (List.mem_append_left _ hf))
      · exact Nat.le_trans H.bel.size hf
    · exact h3 k (h5.mem_iff.2 (List.mem_append_right _ hk'))
theorem Sl.upd (H : Sl w0 w ps) (i : Nat) (hi : ps[i]? = some p) (hb : Below w0.heap.size w0 w')
    (h : ∀ f, p.P w f → f.Nodup → (∀ k ∈ f, w0.heap.size ≤ k) → ∃ f', q.P w' f' ∧ f'.Nodup ∧ (∀ k ∈ f', k ∈ f ∨ w.heap.size ≤ k) ∧ ∀ k, k < w.heap.size → k ∉ f → w'.heap[k]? = w.heap[k]?) : Sl w0 w' (ps.set i q) := by
  obtain ⟨f, h1, h2, h3, h4⟩ := H.opn i hi
  obtain ⟨f', k1, k2, k3, k4⟩ := h f h1 h2 h3
  exact h4 w' q f' hb k1 k2 k3 k4
def emp : Pc := ⟨fun _ fp => fp = [], fun h _ => h, fun h k hk => by rw [h] at hk; cases hk⟩
def both (p q : Pc) : Pc := ⟨fun w fp => ∃ f1 f2, fp = f1 ++ f2 ∧ p.P w f1 ∧ q.P w f2,
  fun ⟨f1, f2, e, h1, h2⟩ hm => ⟨f1, f2, e, p.mv h1 (fun k hk => hm k (by rw [e]; exact List.mem_append_left _ hk)), q.mv h2 (fun k hk => hm k (by rw [e]; exact List.mem_append_right _ hk))⟩,
  fun ⟨f1, f2, e, h1, h2⟩ k hk => by
    rw [e] at hk
    rcases List.mem_append.1 hk with hk | hk
    · exact p.lt h1 k hk
    · exact q.lt h2 k hk⟩
theorem Sl.join (H : Sl w0 w ps) (i j : Nat) (hi : ps[i]? = some p) (hj : ps[j]? = some q) (hne : i ≠ j) : Sl w0 w ((ps.set i (both p q)).set j emp) := by
  obtain ⟨fp, h1, h2, h3⟩ := H.own
  obtain ⟨f, fr, h4, h5, h6⟩ := SlF.at_ h1 hj
  obtain ⟨gp, g1, g2⟩ := h6 w emp [] (fun _ _ => rfl) rfl
  obtain ⟨f', fr', k4, k5, k6⟩ := SlF.at_ (i := i) (p := p) g1 (by rw [List.getElem?_set_ne (Ne.symm hne)]; exact hi)
  obtain ⟨hp, l1, l2⟩ := k6 w (both p q) (f' ++ f) (fun _ _ => rfl) ⟨f', f, rfl, k4, h4⟩
  have hperm : hp.Perm fp := by
    have e1 : hp.Perm (f ++ (f' ++ fr')) := l2.trans (by rw [← List.append_assoc]; exact List.Perm.append_right _ List.perm_append_comm)
    refine e1.trans ((List.Perm.append_left f ?_).trans h5.symm)
    exact (k5.symm).trans (by simpa using g2)
  rw [List.set_comm _ _ (Ne.symm hne)] at l1
  exact ⟨H.bel, hp, l1, (List.Perm.nodup_iff hperm).2 h2, fun k hk => h3 k (hperm.mem_iff.1 hk)⟩
theorem Sl.get (H : Sl w0 w ps) (i : Nat) (hi : ps[i]? = some p) : ∃ f, p.P w f ∧ f.Nodup ∧ ∀ k ∈ f, w0.heap.size ≤ k := by
  obtain ⟨fp, h1, h2, h3⟩ := H.own
  obtain ⟨f, fr, h4, h5, _⟩ := SlF.at_ h1 hi
  exact ⟨f, h4, (List.nodup_append.1 ((List.Perm.nodup_iff h5).1 h2)).1, fun k hk => h3 k (h5.mem_iff.2 (List.mem_append_left _ hk))⟩
theorem Sl.drop (H : Sl w0 w ps) (i : Nat) (hi : ps[i]? = some p) : Sl w0 w (ps.set i emp) :=
  H.upd i hi H.bel (fun f hp hn _ => ⟨[], rfl, List.nodup_nil, (fun k hk => by cases hk), fun _ _ _ => rfl⟩)
theorem Sl.one (H : Sl w0 w ps) (i : Nat) (hi : ps[i]? = some p := by rfl) : Sl w0 w [p] := by
  obtain ⟨f, h1, h2, h3⟩ := H.get i hi
  exact ⟨H.bel, f ++ [], ⟨f, [], rfl, h1, rfl⟩, by simpa using h2, by simpa using h3⟩
theorem SlF.sel : ∀ (is : List Nat) {ps : List Pc} {fp : List Nat}, is.Nodup → SlF w ps fp → fp.Nodup → ∃ g, SlF w (is.map (fun i => ps.getD i emp)) g ∧ g.Nodup ∧ ∀ k ∈ g, k ∈ fp
  | [], _, _, _, _, _ => ⟨[], rfl, List.nodup_nil, fun k hk => by cases hk⟩
  | i :: is, ps, fp, hn, h, hd => by
    obtain ⟨h1, h2⟩ := List.nodup_cons.1 hn
    by_cases hi : i < ps.length
    · obtain ⟨f, fr, h3, h4, h5⟩ := SlF.at_ h (List.getElem?_eq_getElem hi)
      obtain ⟨fp', h6, h7⟩ := h5 w emp [] (fun _ _ => rfl) rfl
      obtain ⟨n1, n2, n3⟩ := List.nodup_append.1 ((List.Perm.nodup_iff h4).1 hd)
      obtain ⟨g, h8, h9, h10⟩ := SlF.sel is h2 h6 ((List.Perm.nodup_iff h7).2 (by simpa using n2))
      have hg : ∀ k ∈ g, k ∈ fr := fun k hk => by simpa using h7.mem_iff.1 (h10 k hk)
      refine ⟨f ++ g, ⟨f, g, rfl, ?_, ?_⟩, List.nodup_append.2 ⟨n1, h9, fun a ha b hb => n3 a ha b (hg b hb)⟩, fun k hk => h4.mem_iff.2 ?_⟩
      · show (ps.getD i emp).P w f
        rw [List.getD_eq_getElem?_getD, List.getElem?_eq_getElem hi]
        exact h3
      · have e : List.map (fun j => (ps.set i emp).getD j emp) is = List.map (fun j => ps.getD j emp) is := List.map_congr_left (fun j hj => by
          have hne : i ≠ j := fun e => h1 (by rw [e]; exact hj)
          rw [List.getD_eq_getElem?_getD, List.getD_eq_getElem?_getD, List.getElem?_set_ne hne])
        show SlF w (List.map (fun j => ps.getD j emp) is) g
        rw [← e]
        exact h8
      · rcases List.mem_append.1 hk with hk | hk
        · exact List.mem_append_left _ hk
        · exact List.mem_append_right _ (hg k hk)
    · obtain ⟨g, h8, h9, h10⟩ := SlF.sel is h2 h hd
      refine ⟨[] ++ g, ⟨[], g, rfl, ?_, h8⟩, h9, h10⟩
      show (ps.getD i emp).P w []
      rw [List.getD_eq_getElem?_getD, List.getElem?_eq_none (by omega)]
      rfl
theorem Sl.sel (H : Sl w0 w ps) (is : List Nat) (hn : is.Nodup := by decide) : Sl w0 w (is.map (fun i => ps.getD i emp)) := by
  obtain ⟨fp, h1, h2, h3⟩ := H.own
  obtain ⟨g, h4, h5, h6⟩ := SlF.sel is hn h1 h2
  exact ⟨H.bel, g, h4, h5, fun k hk => h3 k (h6 k hk)⟩
def bx (g : Nat) (cs : Array Value) (t : TypeId) : Pc := ⟨fun w fp => fp = [g] ∧ w.heap[g]? = some (.cells cs t (0, 0)), fun ⟨e, h⟩ hm => ⟨e, (hm g (by rw [e]; exact List.mem_singleton.2 rfl)).trans h⟩, fun ⟨e, h⟩ k hk => by
  rw [e] at hk
  rw [List.mem_singleton.1 hk]
  exact blk_lt h⟩
theorem Sl.blk (H : Sl w0 w ps) (i : Nat) {g : Nat} {cs : Array Value} {t : TypeId} (hi : ps[i]? = some (bx g cs t)) : w.heap[g]? = some (.cells cs t (0, 0)) := by
  obtain ⟨f, ⟨_, h⟩, _⟩ := H.get i hi
  exact h
theorem Sl.new (H : Sl w0 w ps) (cs : Array Value) (t : TypeId) : Sl w0 (w.alloc (.cells cs t (0, 0))) (ps ++ [bx w.heap.size cs t]) :=
  H.call ⟨below_alloc (Below.refl _ _) _, [w.heap.size], ⟨[w.heap.size], [], by simp, ⟨rfl, blk_new _ _⟩, rfl⟩, by simp, by simp⟩
theorem Sl.put (H : Sl w0 w ps) (i : Nat) {g : Nat} {cs : Array Value} {t : TypeId} (hi : ps[i]? = some (bx g cs t)) (j : Nat) (u : Value) : Sl w0 (w.setCell ⟨g, j, none⟩ u) (ps.set i (bx g (cs.setIfInBounds j u) t)) := by
  obtain ⟨f, ⟨e, h⟩, _, hg⟩ := H.get i hi
  refine H.upd i hi (below_set H.bel (hg g (by rw [e]; exact List.mem_singleton.2 rfl))) (fun f hp hn _ => ⟨[g], ⟨rfl, blk_set h j u⟩, by simp, fun k hk => Or.inl (by rw [hp.1]; exact hk), fun k _ hk => Below.heap_setCell w ⟨g, j, none⟩ u k (fun e => hk (by rw [hp.1, e]; exact List.mem_singleton.2 rfl))⟩)
theorem Sl.f1 (H : Sl w0 w ps) (i : Nat) {g : Nat} {x : Value} {t : TypeId} (hi : ps[i]? = some (bx g #[x] t) := by rfl) : w.cell? ⟨g, 0, none⟩ = some x ∧ w.frozen? ⟨g, 0, none⟩ = false := by
  have h := H.blk i hi
  exact ⟨blk_cell h 0, blk_frozen h 0⟩
theorem Sl.f2 (H : Sl w0 w ps) (i : Nat) {g : Nat} {x y : Value} {t : TypeId} (hi : ps[i]? = some (bx g #[x, y] t) := by rfl) : (w.cell? ⟨g, 0, none⟩ = some x ∧ w.frozen? ⟨g, 0, none⟩ = false) ∧ w.cell? ⟨g, 1, none⟩ = some y ∧ w.frozen? ⟨g, 1, none⟩ = false := by
  have h := H.blk i hi
  exact ⟨⟨blk_cell h 0, blk_frozen h 0⟩, blk_cell h 1, blk_frozen h 1⟩
theorem Sl.f3 (H : Sl w0 w ps) (i : Nat) {g : Nat} {x y z : Value} {t : TypeId} (hi : ps[i]? = some (bx g #[x, y, z] t) := by rfl) : (w.cell? ⟨g, 0, none⟩ = some x ∧ w.frozen? ⟨g, 0, none⟩ = false) ∧ (w.cell? ⟨g, 1, none⟩ = some y ∧ w.frozen? ⟨g, 1, none⟩ = false) ∧ w.cell? ⟨g, 2, none⟩ = some z ∧ w.frozen? ⟨g, 2, none⟩ = false := by
  have h := H.blk i hi
  exact ⟨⟨blk_cell h 0, blk_frozen h 0⟩, ⟨blk_cell h 1, blk_frozen h 1⟩, blk_cell h 2, blk_frozen h 2⟩
theorem ba_ {w : World} {o : Obj} : Below w.heap.size w (w.alloc o) := below_alloc (Below.refl _ _) o
theorem Sl.ne (H : Sl w0 w ps) (i j : Nat) {g g' : Nat} {cs cs' : Array Value} {t t' : TypeId} (hi : ps[i]? = some (bx g cs t)) (hj : ps[j]? = some (bx g' cs' t')) (hne : i ≠ j) : g ≠ g' := by
  have h := (H.join i j hi hj hne).get i (p := both (bx g cs t) (bx g' cs' t')) (by
    rw [List.getElem?_set_ne (Ne.symm hne)]
    have := (List.getElem?_eq_some_iff.1 hi).1
    rw [List.getElem?_set_self this])
  obtain ⟨f, ⟨f1, f2, e, ⟨e1, _⟩, ⟨e2, _⟩⟩, hn, _⟩ := h
  rw [e, e1, e2] at hn
  intro he
  simp [he] at hn
end
section
variable {P : Program} {ops : Array Oper} {rest : List Oper} {o : Oper} {a : Act} {Q : Exit → Act → World → Prop} {Kc : Act → World → Prop} {w0 W : World} {ps : List Pc}
theorem nw_ (H : Sl w0 W ps) (N : Tmp) (cs : Array Value) (t : TypeId) (hd : o.dst = some N)
    (h : ∀ g w1, Sl w0 w1 (ps ++ [bx g cs t]) → wpList P ops Q rest (a.put o.dst (.pointer (some ⟨g, 0, none⟩))) w1) (hgd : o.guard = none := by rfl)
    (hrun : (execOp a.eval o).run P W = .ok (.value (.pointer (some ⟨W.heap.size, 0, none⟩))) (W.alloc (.cells cs t (0, 0))) := by first | (go_simp; done) | (go_simp; rfl)) : wpList P ops Q (o :: rest) a W :=
  Kd.event_run hgd hrun (h _ _ (H.new cs t))
theorem Sl.put3 (H : Sl w0 W ps) (i : Nat) {g : Nat} {x y z : Value} {t : TypeId} (x' y' z' : Value) (hi : ps[i]? = some (bx g #[x, y, z] t) := by rfl) : Sl w0 (((W.setCell ⟨g, 0, none⟩ x').setCell ⟨g, 1, none⟩ y').setCell ⟨g, 2, none⟩ z') (ps.set i (bx g #[x', y', z'] t)) := by
  have hl := (List.getElem?_eq_some_iff.1 hi).1
  have h1 := H.put i hi 0 x'
  have h2 := h1.put i (by rw [List.getElem?_set_self hl]) 1 y'
  have h3 := h2.put i (by rw [List.getElem?_set_self (by rw [List.length_set]; exact hl)]) 2 z'
  rw [List.set_set, List.set_set] at h3
  exact h3
theorem p3_ (H : Sl w0 W ps) (p : Tmp) (i : Nat) {g : Nat} {x y z x' y' z' : Value} {t t' : TypeId} {q : Operand} (ho : o.op = .store t' (.tmp p) q)
    (h : ∀ w1, Sl w0 w1 (ps.set i (bx g #[x', y', z'] t)) → wpList P ops Q rest a w1) (hi : ps[i]? = some (bx g #[x, y, z] t) := by rfl)
    (hrun : (execOp a.eval o).run P W = .ok .skip (((W.setCell ⟨g, 0, none⟩ x').setCell ⟨g, 1, none⟩ y').setCell ⟨g, 2, none⟩ z') := by first | (go_simp; done) | (go_simp; rfl)) (hgd : o.guard = none := by rfl) (hN : o.dst = none := by rfl) : wpList P ops Q (o :: rest) a W := by
  refine wpList_plain hgd fun K hK => ?_
  unfold Oper.wp
  rw [hrun]
  show K (a.put o.dst undef) _
  rw [hN]
  exact hK _ _ (h _ (H.put3 i x' y' z' hi))
theorem s3_ (H : Sl w0 W ps) (i : Nat) {g : Nat} {x y z x' y' z' : Value} {t : TypeId} (h : ∀ w1, Sl w0 w1 (ps.set i (bx g #[x', y', z'] t)) → Kc a w1) (hi : ps[i]? = some (bx g #[x, y, z] t) := by rfl)
    (hrun : (execOp a.eval o).run P W = .ok .skip (((W.setCell ⟨g, 0, none⟩ x').setCell ⟨g, 1, none⟩ y').setCell ⟨g, 2, none⟩ z') := by first | (go_simp; done) | (go_simp; rfl)) (hw : Region.wanted o (yielded ops a.tmps) = true := by rfl) (hN : o.dst = none := by rfl) : if Region.wanted o (yielded ops a.tmps) = true then Oper.wp P o a W Kc Q else Kc (a.put none undef) W :=
  skip_ hw hN hrun (h _ (H.put3 i x' y' z' hi))
theorem p1_ (H : Sl w0 W ps) (p : Tmp) (i j : Nat) {g : Nat} {cs : Array Value} {x' : Value} {t t' : TypeId} {q : Operand} (ho : o.op = .store t' (.tmp p) q)
    (h : ∀ w1, Sl w0 w1 (ps.set i (bx g (cs.setIfInBounds j x') t)) → wpList P ops Q rest a w1) (hi : ps[i]? = some (bx g cs t) := by rfl)
    (hrun : (execOp a.eval o).run P W = .ok .skip (W.setCell ⟨g, j, none⟩ x') := by first | (go_simp; done) | (go_simp; rfl)) (hgd : o.guard = none := by rfl) (hN : o.dst = none := by rfl) : wpList P ops Q (o :: rest) a W := by
  refine wpList_plain hgd fun K hK => ?_
  unfold Oper.wp
  rw [hrun]
  show K (a.put o.dst undef) _
  rw [hN]
  exact hK _ _ (h _ (H.put i hi j x'))
end
end Go.Proofs.Ytldgkgdgcfllmaa
end
section
namespace Go.Proofs.Ytldgkgdgcfllmaa.Rg
open Go.RowKit Go.Proofs.Ytldgkgdgcfllmaa.P Go.Proofs.Ytldgkgdgcfllmaa.Pl Go.Proofs.YtldgkgdgcfllmaaW.PrintWords Go.Proofs.YtldgkgdgcfllmaaW.PrintLast Go.Proofs.YtldgkgdgcfllmaaW.PrintMore
set_option linter.unusedVariables false
set_option linter.unusedSimpArgs false
abbrev Tr := S29
inductive Rx where
  | none | empty | letter (c : ByteArray) | any
  | cat (x y : Rx) | or (x y : Rx) | and (x y : Rx) | star (x : Rx) | not (x : Rx)
def sz : Rx → Nat
  | .cat x y => 1 + sz x + sz y
  | .or x y => 1 + sz x + sz y
  | .and x y => 1 + sz x + sz y
  | .star x => 1 + sz x
  | .not x => 1 + sz x
  | _ => 1
def sub (l : List Int) (i j : Nat) : List Int := (l.take j).drop i
theorem sub_len {l : List Int} {i j : Nat} (h : j ≤ l.length) : (sub l i j).length = j - i := by
  unfold sub
  rw [List.length_drop, List.length_take]
  omega
theorem sub_nil {l : List Int} {i j : Nat} (h : j ≤ l.length) (hi : i ≤ j) : sub l i j = [] ↔ i = j := by
  rw [← List.length_eq_zero_iff, sub_len h]
  omega
end Go.Proofs.Ytldgkgdgcfllmaa.Rg
end
section
namespace Go.Proofs.Ytldgkgdgcfllmaa
open Go.RowKit Go.Shelf Go.Proofs.Ytldgkgdgcfllmaa.P Go.Proofs.Ytldgkgdgcfllmaa.Rg Go.Proofs.YtldgkgdgcfllmaaW.PrintWords Go.Proofs.YtldgkgdgcfllmaaW.PrintLast Go.Proofs.YtldgkgdgcfllmaaW.PrintMore
set_option linter.unusedVariables false
mutual
inductive Own (w : World) : Value → List Tr → List Nat → Prop
  | mk {v : Value} {ts : List Tr} {fs : List Nat} {cs : List Value} : OwnL w cs ts fs → w.ownsRow 0 29 3 v ts.length cs → Own w v ts (v.ownBlock.toList ++ fs)
inductive OwnL (w : World) : List Value → List Tr → List Nat → Prop
  | nil : OwnL w [] [] []
  | cons {t : Tr} {v : Value} {f1 : List Nat} {cs : List Value} {ts : List Tr} {f2 : List Nat} : Own w v t.f2 f1 → OwnL w cs ts f2 → OwnL w (.int .i64 t.f0 :: .string t.f1 :: v :: cs) (t :: ts) (f1 ++ f2)
end
section
variable {w w' : World}
mutual
theorem Own.mv : ∀ {v : Value} {ts : List Tr} {fp : List Nat}, Own w v ts fp → (∀ k ∈ fp, w'.heap[k]? = w.heap[k]?) → Own w' v ts fp
  | _, _, _, .mk h ho, hm => .mk (OwnL.mv h (fun k hk => hm k (List.mem_append_right _ hk))) (own_move ho (fun k hk => hm k (List.mem_append_left _ (by rw [hk]; exact List.mem_singleton.2 rfl))))
theorem OwnL.mv : ∀ {cs : List Value} {ts : List Tr} {fp : List Nat}, OwnL w cs ts fp → (∀ k ∈ fp, w'.heap[k]? = w.heap[k]?) → OwnL w' cs ts fp
  | _, _, _, .nil, _ => .nil
  | _, _, _, .cons h1 h2, hm => .cons (Own.mv h1 (fun k hk => hm k (List.mem_append_left _ hk))) (OwnL.mv h2 (fun k hk => hm k (List.mem_append_right _ hk)))
end
mutual
theorem Own.lt : ∀ {v : Value} {ts : List Tr} {fp : List Nat}, Own w v ts fp → ∀ k ∈ fp, k < w.heap.size
  | _, _, _, .mk h ho, k, hk => by
    rcases List.mem_append.1 hk with hk | hk
    · exact own_lt ho k (by simpa using hk)
    · exact OwnL.lt h k hk
theorem OwnL.lt : ∀ {cs : List Value} {ts : List Tr} {fp : List Nat}, OwnL w cs ts fp → ∀ k ∈ fp, k < w.heap.size
  | _, _, _, .nil, k, hk => by cases hk
  | _, _, _, .cons h1 h2, k, hk => by
    rcases List.mem_append.1 hk with hk | hk
    · exact Own.lt h1 k hk
    · exact OwnL.lt h2 k hk
end
theorem OwnL.len : ∀ {cs : List Value} {ts : List Tr} {fp : List Nat}, OwnL w cs ts fp → cs.length = ts.length * 3
  | _, _, _, .nil => rfl
  | _, _, _, .cons _ h => by have := OwnL.len h; simp only [List.length_cons]; omega
theorem OwnL.one : ∀ {cs : List Value} {ts : List Tr} {fp : List Nat}, OwnL w cs ts fp → ∀ u ∈ cs, u.oneCell' = true
  | _, _, _, .nil, u, hu => by cases hu
  | _, _, _, .cons (.mk _ ho) h, u, hu => by
    simp only [List.mem_cons] at hu
    rcases hu with rfl | rfl | rfl | hu
    · rfl
    · rfl
    · rcases ho.2 with ⟨rfl, _⟩ | ⟨g, cap, cur, rfl, _⟩ <;> rfl
    · exact OwnL.one h u hu
mutual
theorem Own.reads : ∀ {v : Value} {ts : List Tr} {fp : List Nat}, Own w v ts fp → ∃ A c, v = .slice A ts.length c ∧ ts.length ≤ c ∧ Kd.C k29 w A ts.length ts
  | _, _, _, .mk h ho => by
    obtain ⟨A, c, e, hl, hr⟩ := OwnRow.reads ⟨_, ho, OwnL.reps h⟩
    exact ⟨A, c, e, hl, hr⟩
theorem OwnL.reps : ∀ {cs : List Value} {ts : List Tr} {fp : List Nat}, OwnL w cs ts fp → Reps (k29.K w) 3 ts cs
  | _, _, _, .nil => Reps.none _ _
  | _, _, _, .cons (t := t) h1 h2 => by
    obtain ⟨A, c, rfl, hl, hc⟩ := Own.reads h1
    have hk := k29_mk w t hl hc
    have h3 := OwnL.reps h2
    refine ⟨by have := h3.1; simp only [List.length_cons]; omega, fun j p hp => ?_⟩
    cases j with
    | zero =>
      obtain rfl := Option.some.inj hp
      exact hk
    | succ j =>
      have := h3.2 j p (by simpa using hp)
      rw [show (j + 1) * 3 = j * 3 + 1 + 1 + 1 by omega]
      exact this
end
end
theorem kid_ {w : World} {A : Option Addr} {ts : List Tr} (h : Kd.C k29 w A ts.length ts) (i : Nat) (hi : i < ts.length) : ∃ ad A2 c2 y, A = some ad ∧ (ts[i]'hi = y ∧ ts.take (i + 1) = ts.take i ++ [y] ∧ y ∈ ts) ∧ (w.cell? (ad.add (i * 3)) = some (.int .i64 y.f0) ∧ w.cell? ⟨(ad.add (i * 3)).block, (ad.add (i * 3)).off + 1, none⟩ = some (.string y.f1) ∧ w.cell? ⟨(ad.add (i * 3)).block, (ad.add (i * 3)).off + 2, none⟩ = some (.slice A2 y.f2.length c2)) ∧ y.f2.length ≤ c2 ∧ Kd.C k29 w A2 y.f2.length y.f2 := by
  obtain ⟨ad, A2, c2, e, h0, h1, h2, h3, h4⟩ := at_T29 h (i : Int) (by omega) (by omega)
  have hy : rd_T29 ts (i : Int) = ts[i]'hi := by simp [rd_T29, List.getD_eq_getElem?_getD, hi]
  rw [hy, Int.toNat_natCast] at h0 h1 h2
  rw [hy] at h3 h4
  exact ⟨ad, A2, c2, _, e, ⟨rfl, List.take_succ_eq_append_getElem hi, List.getElem_mem hi⟩, ⟨h0, h1, h2⟩, h3, h4⟩
def tre (v : Value) (ts : List Tr) : Pc := ⟨fun w fp => Own w v ts fp, fun h hm => Own.mv h hm, fun h => Own.lt h⟩
theorem Sl.tv {w0 w : World} {ps : List Pc} {v : Value} {ts : List Tr} (H : Sl w0 w ps) (i : Nat) (hi : ps[i]? = some (tre v ts) := by rfl) : ∃ A c, v = .slice A ts.length c ∧ ts.length ≤ c ∧ Kd.C k29 w A ts.length ts := by
  obtain ⟨f, h, _⟩ := H.get i hi
  exact Own.reads h
end Go.Proofs.Ytldgkgdgcfllmaa
end
section
namespace Go.Proofs.Ytldgkgdgcfllmaa
open Go.RowKit Go.Shelf Go.Proofs.Ytldgkgdgcfllmaa.P Go.Proofs.Ytldgkgdgcfllmaa.Rg Go.Proofs.YtldgkgdgcfllmaaW.PrintWords Go.Proofs.YtldgkgdgcfllmaaW.PrintLast Go.Proofs.YtldgkgdgcfllmaaW.PrintMore
set_option linter.unusedVariables false
section
variable {w0 W w1 : World} {ps : List Pc} {i j : Nat} {v u u1 u2 : Value} {ts : List Tr} {t t1 t2 : Tr}
theorem sub_nil (H : Sl w0 W ps) : Sl w0 W (ps ++ [tre (.slice none 0 0) []]) :=
  H.call ⟨Below.refl _ _, [], ⟨[], [], rfl, Own.mk OwnL.nil ⟨rfl, .inl ⟨rfl, rfl⟩⟩, rfl⟩, List.nodup_nil, fun k hk => by cases hk⟩
theorem Sl.lit {p : Pc} {cs : List Value} (H : Sl w0 W ps) (i : Nat) (hi : ps[i]? = some p) (hp : ∀ f, p.P W f → OwnL W cs ts f) (hl : ts.length ≤ 1000) : Sl w0 (W.alloc (.cells cs.toArray 29)) (ps.set i (tre (.slice (some ⟨W.heap.size, 0, none⟩) ts.length ts.length) ts)) := by
  have hb : Below W.heap.size W (W.alloc (.cells cs.toArray 29)) := below_alloc (Below.refl _ _) _
  refine H.upd i hi (below_then H.bel H.bel.size hb) (fun f hf hn hg => ?_)
  have ho := hp f hf
  have hlt := OwnL.lt ho
  refine ⟨_, Own.mk (OwnL.mv ho (fun k hk => hb.block k (hlt k hk))) (by
    have h2 := World.ownsRow_lit (base := 0) (e := 29) (size := 3) W cs.toArray ts.length (Nat.zero_le _) (by simp [maxLen]; omega) (by simpa using OwnL.len ho)
    simpa using h2), ?_, fun k hk => ?_, fun k hk _ => hb.block k hk⟩
  · refine List.nodup_append.2 ⟨by simp [Value.ownBlock], hn, fun a ha b hb' e => ?_⟩
    have := hlt b hb'
    simp [Value.ownBlock] at ha
    omega
  · rcases List.mem_append.1 hk with hk | hk
    · simp [Value.ownBlock] at hk
      exact Or.inr (by omega)
    · exact Or.inl hk
theorem Sl.lit1 (H : Sl w0 W ps) (i : Nat) (hi : ps[i]? = some (tre u t.f2)) : Sl w0 (W.alloc (.cells #[.int .i64 t.f0, .string t.f1, u] 29)) (ps.set i (tre (.slice (some ⟨W.heap.size, 0, none⟩) 1 1) [t])) :=
  H.lit (ts := [t]) (cs := [.int .i64 t.f0, .string t.f1, u]) i hi (fun f hf => by have := OwnL.cons (t := t) hf OwnL.nil; rwa [List.append_nil] at this) (by simp)
theorem Sl.lit2 (H : Sl w0 W ps) (i j : Nat) (hi : ps[i]? = some (tre u1 t1.f2)) (hj : ps[j]? = some (tre u2 t2.f2)) (hne : i ≠ j) :
    Sl w0 (W.alloc (.cells #[.int .i64 t1.f0, .string t1.f1, u1, .int .i64 t2.f0, .string t2.f1, u2] 29)) ((ps.set j emp).set i (tre (.slice (some ⟨W.heap.size, 0, none⟩) 2 2) [t1, t2])) := by
  have h1 := H.join i j hi hj hne
  have h2 := h1.lit (ts := [t1, t2]) (cs := [.int .i64 t1.f0, .string t1.f1, u1, .int .i64 t2.f0, .string t2.f1, u2]) i (p := both (tre u1 t1.f2) (tre u2 t2.f2))
    (by rw [List.getElem?_set_ne (Ne.symm hne), List.getElem?_set_self (List.getElem?_eq_some_iff.1 hi).1])
    (fun f ⟨f1, f2, e, g1, g2⟩ => by rw [e]; have := OwnL.cons g1 (OwnL.cons g2 OwnL.nil); rwa [List.append_nil] at this) (by simp)
  rw [List.set_comm _ _ hne, List.set_set] at h2
  exact h2
end
section
variable {ops : Array Oper} {rest : List Oper} {o : Oper} {a : Act} {Q : Exit → Act → World → Prop} {Kc : Act → World → Prop} {w0 W : World} {ps : List Pc} {v u : Value} {ts : List Tr} {t : Tr} {s x : Operand}
theorem bb_ {t1 t2 : Tr} {u1 u2 : Value} (H : Sl w0 W ps) (i j : Nat) (h : ∀ g w1, Sl w0 w1 ((ps.set j emp).set i (tre (.slice (some ⟨g, 0, none⟩) 2 2) [t1, t2])) → Below W.heap.size W w1 → Kc (a.put o.dst (.slice (some ⟨g, 0, none⟩) 2 2)) w1)
    (hi : ps[i]? = some (tre u1 t1.f2) := by rfl) (hj : ps[j]? = some (tre u2 t2.f2) := by rfl) (hne : i ≠ j := by decide) (hw : Region.wanted o (yielded ops a.tmps) = true := by rfl)
    (hrun : (execOp a.eval o).run Try.prog W = .ok (.value (.slice (some ⟨W.heap.size, 0, none⟩) 2 2)) (W.alloc (.cells #[.int .i64 t1.f0, .string t1.f1, u1, .int .i64 t2.f0, .string t2.f1, u2] 29)) := by first | (go_simp; done) | (go_simp; rfl)) :
    if Region.wanted o (yielded ops a.tmps) = true then Oper.wp Try.prog o a W Kc Q else Kc (a.put o.dst undef) W :=
  event_step hw hrun (h _ _ (H.lit2 i j hi hj hne) ba_)
end
end Go.Proofs.Ytldgkgdgcfllmaa
end
section
namespace Go.Proofs.Ytldgkgdgcfllmaa
open Go.RowKit Go.Shelf Go.Proofs.Ytldgkgdgcfllmaa.P Go.Proofs.Ytldgkgdgcfllmaa.Pl Go.Proofs.Ytldgkgdgcfllmaa.Rg Go.Proofs.YtldgkgdgcfllmaaW.PrintWords Go.Proofs.YtldgkgdgcfllmaaW.PrintLast Go.Proofs.YtldgkgdgcfllmaaW.PrintMore
set_option linter.unusedVariables false
set_option linter.unusedSimpArgs false
abbrev tv (t : Tr) (A : Option Addr) (c : Nat) : Value := .agg #[.int .i64 t.f0, .string t.f1, .slice A t.f2.length c]
abbrev zt : Array Value := #[.int .i64 0, .string ⟨#[]⟩, .slice none 0 0]
end Go.Proofs.Ytldgkgdgcfllmaa
end
section
namespace Go.Proofs.Ytldgkgdgcfllmaa
open Go.RowKit Go.Shelf Go.Proofs.Ytldgkgdgcfllmaa.P Go.Proofs.Ytldgkgdgcfllmaa.Rg Go.Proofs.YtldgkgdgcfllmaaW.PrintWords Go.Proofs.YtldgkgdgcfllmaaW.PrintLast Go.Proofs.YtldgkgdgcfllmaaW.PrintMore
set_option linter.unusedVariables false
section
variable {ops : Array Oper} {rest : List Oper} {o : Oper} {a : Act} {Q : Exit → Act → World → Prop} {w0 W : World} {ps : List Pc}
theorem wl1_ {t : Tr} {u : Value} (H : Sl w0 W ps) (N : Tmp) (i : Nat) (hd : o.dst = some N) (h : ∀ g w1, Sl w0 w1 (ps.set i (tre (.slice (some ⟨g, 0, none⟩) 1 1) [t])) → wpList Try.prog ops Q rest (a.put o.dst (.slice (some ⟨g, 0, none⟩) 1 1)) w1)
    (hi : ps[i]? = some (tre u t.f2) := by rfl) (hrun : (execOp a.eval o).run Try.prog W = .ok (.value (.slice (some ⟨W.heap.size, 0, none⟩) 1 1)) (W.alloc (.cells #[.int .i64 t.f0, .string t.f1, u] 29)) := by first | (go_simp; done) | (go_simp; rfl)) (hgd : o.guard = none := by rfl) : wpList Try.prog ops Q (o :: rest) a W :=
  Kd.event_run hgd hrun (h _ _ (H.lit1 i hi))
theorem wl2_ {t1 t2 : Tr} {u1 u2 : Value} (H : Sl w0 W ps) (N : Tmp) (i j : Nat) (hd : o.dst = some N) (h : ∀ g w1, Sl w0 w1 ((ps.set j emp).set i (tre (.slice (some ⟨g, 0, none⟩) 2 2) [t1, t2])) → wpList Try.prog ops Q rest (a.put o.dst (.slice (some ⟨g, 0, none⟩) 2 2)) w1)
    (hi : ps[i]? = some (tre u1 t1.f2) := by rfl) (hj : ps[j]? = some (tre u2 t2.f2) := by rfl) (hne : i ≠ j := by decide) (hrun : (execOp a.eval o).run Try.prog W = .ok (.value (.slice (some ⟨W.heap.size, 0, none⟩) 2 2)) (W.alloc (.cells #[.int .i64 t1.f0, .string t1.f1, u1, .int .i64 t2.f0, .string t2.f1, u2] 29)) := by first | (go_simp; done) | (go_simp; rfl)) (hgd : o.guard = none := by rfl) : wpList Try.prog ops Q (o :: rest) a W :=
  Kd.event_run hgd hrun (h _ _ (H.lit2 i j hi hj hne))
end
end Go.Proofs.Ytldgkgdgcfllmaa
end
section
namespace Go.Proofs.Ytldgkgdgcfllmaa
open Go.RowKit Go.Shelf Go.Proofs.Ytldgkgdgcfllmaa.P Go.Proofs.Ytldgkgdgcfllmaa.Rg Go.Proofs.YtldgkgdgcfllmaaW.PrintWords Go.Proofs.YtldgkgdgcfllmaaW.PrintLast Go.Proofs.YtldgkgdgcfllmaaW.PrintMore
set_option linter.unusedVariables false
theorem take_set' {α : Type} (l : List α) (n i : Nat) (x : α) : (l.set i x).take n = (l.take n).set i x := by
  apply List.ext_getElem?
  intro j
  simp only [List.getElem?_take, List.getElem?_set]
  by_cases hj : j < n
  · by_cases e : i = j
    · subst e
      simp only [if_pos hj, if_true, List.length_take]
      by_cases hl : i < l.length
      · rw [if_pos hl, if_pos (by omega)]
      · rw [if_neg hl, if_neg (by omega)]
    · simp only [if_pos hj, if_neg e]
  · by_cases e : i = j
    · subst e
      simp only [if_neg hj, if_true, List.length_take]
      rw [if_neg (by omega)]
    · simp only [if_neg hj, if_neg e]
section
variable {w : World}
theorem OwnL.at_ : ∀ {cs : List Value} {ts : List Tr} {fp : List Nat} (_ : OwnL w cs ts fp) (i : Nat) (hi : i < ts.length), ∃ u fu fr, cs[i * 3]? = some (.int .i64 (ts[i]'hi).f0) ∧ cs[i * 3 + 1]? = some (.string (ts[i]'hi).f1) ∧ cs[i * 3 + 2]? = some u ∧ Own w u (ts[i]'hi).f2 fu ∧ fp.Perm (fu ++ fr) ∧
    ∀ (w' : World) (t' : Tr) (u' : Value) (fu' : List Nat), (∀ k ∈ fr, w'.heap[k]? = w.heap[k]?) → Own w' u' t'.f2 fu' → ∃ fp', OwnL w' (((cs.set (i * 3) (.int .i64 t'.f0)).set (i * 3 + 1) (.string t'.f1)).set (i * 3 + 2) u') (ts.set i t') fp' ∧ fp'.Perm (fu' ++ fr)
  | _, _, _, .nil, i, hi => absurd hi (by simp)
  | _, _, _, .cons (t := t) (v := v) (f1 := f1) (f2 := f2) h1 h2, 0, hi => ⟨v, f1, f2, rfl, rfl, rfl, h1, List.Perm.refl _, fun w' t' u' fu' hk hu => ⟨_, OwnL.cons hu (OwnL.mv h2 hk), List.Perm.refl _⟩⟩
  | _, _, _, .cons (t := t) (v := v) (f1 := f1) (cs := cs) (ts := ts) (f2 := f2) h1 h2, i + 1, hi => by
    obtain ⟨u, fu, fr, c0, c1, c2, h3, h4, h5⟩ := OwnL.at_ h2 i (by simpa using hi)
    rw [show (i + 1) * 3 = i * 3 + 1 + 1 + 1 by omega]
    refine ⟨u, fu, f1 ++ fr, c0, c1, c2, h3, ?_, fun w' t' u' fu' hk hu => ?_⟩
    · exact (List.Perm.append_left f1 h4).trans (by rw [← List.append_assoc, ← List.append_assoc]; exact List.Perm.append_right fr List.perm_append_comm)
    · obtain ⟨gp, h6, h7⟩ := h5 w' t' u' fu' (fun k hk' => hk k (List.mem_append_right _ hk')) hu
      refine ⟨f1 ++ gp, OwnL.cons (Own.mv h1 (fun k hk' => hk k (List.mem_append_left _ hk'))) h6, ?_⟩
      exact (List.Perm.append_left f1 h7).trans (by rw [← List.append_assoc, ← List.append_assoc]; exact List.Perm.append_right fr List.perm_append_comm)
theorem Own.at_ {v : Value} {ts : List Tr} {fp : List Nat} (h : Own w v ts fp) (i : Nat) (hi : i < ts.length) : ∃ g c arr u fu fr, v = .slice (some ⟨g, 0, none⟩) ts.length c ∧ w.heap[g]? = some (.cells arr 29 (0, 0)) ∧ (arr[i * 3]? = some (.int .i64 (ts[i]'hi).f0) ∧ arr[i * 3 + 1]? = some (.string (ts[i]'hi).f1) ∧ arr[i * 3 + 2]? = some u) ∧ Own w u (ts[i]'hi).f2 fu ∧ fp.Perm (g :: (fu ++ fr)) ∧
    ∀ (w' : World) (t' : Tr) (u' : Value) (fu' : List Nat), w'.heap[g]? = some (.cells (((arr.setIfInBounds (i * 3) (.int .i64 t'.f0)).setIfInBounds (i * 3 + 1) (.string t'.f1)).setIfInBounds (i * 3 + 2) u') 29 (0, 0)) → (∀ k ∈ fr, w'.heap[k]? = w.heap[k]?) → Own w' u' t'.f2 fu' → ∃ fp', Own w' v (ts.set i t') fp' ∧ fp'.Perm (g :: (fu' ++ fr)) := by
  cases h with
  | @mk _ _ fs cs hL ho =>
    obtain ⟨u, fu, fr, c0, c1, c2, h3, h4, h5⟩ := OwnL.at_ hL i hi
    obtain ⟨hlen, ho2⟩ := ho
    rcases ho2 with ⟨_, e⟩ | ⟨g, cap, cur, rfl, hb, hg, hn, hm, hs, ht⟩
    · omega
    have get : ∀ j u, cs[i * 3 + j]? = some u → j < 3 → cur[i * 3 + j]? = some u := fun j u hu hj => by
      rw [← ht, List.getElem?_take] at hu
      rw [if_pos (by omega)] at hu
      simpa using hu
    refine ⟨g, cap, cur, u, fu, fr, rfl, hg, ⟨get 0 _ c0 (by omega), get 1 _ c1 (by omega), get 2 _ c2 (by omega)⟩, h3, ?_, fun w' t' u' fu' hg' hk hu => ?_⟩
    · show (g :: fs).Perm _
      exact List.Perm.cons g h4
    · obtain ⟨gp, h6, h7⟩ := h5 w' t' u' fu' hk hu
      have hl : (ts.set i t').length = ts.length := List.length_set
      refine ⟨g :: gp, ?_, List.Perm.cons g h7⟩
      have hO : Own w' (.slice (some ⟨g, 0, none⟩) ts.length cap) (ts.set i t') _ := Own.mk h6 (by
        rw [hl]
        refine ⟨by simp only [List.length_set]; exact hlen, .inr ⟨g, cap, _, rfl, hb, hg', hn, hm, by simp only [Array.size_setIfInBounds]; exact hs, ?_⟩⟩
        simp only [Array.toList_setIfInBounds, take_set', ht])
      exact hO
end
structure Same (w w' : World) (fp : List Nat) : Prop where
  os : w'.os = w.os
  tape : w'.tape = w.tape
  output : w'.output = w.output
  size : w.heap.size ≤ w'.heap.size
  block : ∀ k, k < w.heap.size → k ∉ fp → w'.heap[k]? = w.heap[k]?
section
variable {w0 w w' w2 : World} {fp : List Nat} {ps : List Pc} {i : Nat} {p q : Pc}
theorem Same.refl (w : World) (fp : List Nat) : Same w w fp := ⟨rfl, rfl, rfl, Nat.le_refl _, fun _ _ _ => rfl⟩
theorem Same.trans (h : Same w w' fp) (k : Same w' w2 fp) : Same w w2 fp := ⟨k.os.trans h.os, k.tape.trans h.tape, k.output.trans h.output, Nat.le_trans h.size k.size, fun i hi hf => (k.block i (Nat.lt_of_lt_of_le hi h.size) hf).trans (h.block i hi hf)⟩
theorem Same.of (h : Below w.heap.size w w') : Same w w' fp := ⟨h.os, h.tape, h.output, h.size, fun k hk _ => h.block k hk⟩
theorem Same.more {f2 : List Nat} (h : Same w w' fp) (hs : ∀ k ∈ fp, k ∈ f2) : Same w w' f2 := ⟨h.os, h.tape, h.output, h.size, fun k hk hf => h.block k hk (fun e => hf (hs k e))⟩
theorem Same.set (g j : Nat) (u : Value) (hg : g ∈ fp) : Same w (w.setCell ⟨g, j, none⟩ u) fp :=
  ⟨rfl, rfl, rfl, by simp [World.setCell], fun k _ hk => Below.heap_setCell w ⟨g, j, none⟩ u k (fun e => hk (by rw [e]; exact hg))⟩
theorem Same.below (h : Same w w' fp) (HB : Below w0.heap.size w0 w) (hf : ∀ k ∈ fp, w0.heap.size ≤ k) : Below w0.heap.size w0 w' :=
  ⟨h.os.trans HB.os, h.tape.trans HB.tape, h.output.trans HB.output, Nat.le_trans HB.size h.size, fun k hk => (h.block k (Nat.lt_of_lt_of_le hk HB.size) (fun e => absurd (hf k e) (by omega))).trans (HB.block k hk)⟩
theorem set_same {arr : Array Value} {j : Nat} {u : Value} (h : arr[j]? = some u) : arr.setIfInBounds j u = arr := by
  apply Array.ext_getElem?
  intro k
  rw [Array.getElem?_setIfInBounds]
  by_cases e : j = k
  · subst e
    rw [if_pos rfl, if_pos (Array.getElem?_eq_some_iff.1 h).1, h]
  · rw [if_neg e]
end
section
variable {P : Program} {ops : Array Oper} {rest : List Oper} {o : Oper} {a : Act} {Q : Exit → Act → World → Prop} {W : World}
theorem sv_ (p : Tmp) (ad : Addr) (x : Value) {t' : TypeId} {q : Operand} (ho : o.op = .store t' (.tmp p) q) (h : ∀ w1, w1 = W.setCell ad x → wpList P ops Q rest a w1)
    (hrun : (execOp a.eval o).run P W = .ok .skip (W.setCell ad x) := by first | (go_simp; done) | (go_simp; rfl)) (hgd : o.guard = none := by rfl) (hN : o.dst = none := by rfl) : wpList P ops Q (o :: rest) a W :=
  store_event hgd ho hN hrun h
end
section
variable {ops : Array Oper} {rest : List Oper} {o : Oper} {a : Act} {Q : Exit → Act → World → Prop} {w0 W : World} {ps : List Pc}
theorem Sl.e3 {ts : List Tr} {g n c : Nat} (H : Sl w0 W ps) (i k : Nat) (hk : k < ts.length) (hi : ps[i]? = some (tre (.slice (some ⟨g, 0, none⟩) n c) ts) := by rfl) : ∃ x y z : Value, (W.cell? ⟨g, k * 3, none⟩ = some x ∧ W.frozen? ⟨g, k * 3, none⟩ = false) ∧ (W.cell? ⟨g, k * 3 + 1, none⟩ = some y ∧ W.frozen? ⟨g, k * 3 + 1, none⟩ = false) ∧ W.cell? ⟨g, k * 3 + 2, none⟩ = some z ∧ W.frozen? ⟨g, k * 3 + 2, none⟩ = false := by
  obtain ⟨f, hO, _⟩ := H.get i hi
  obtain ⟨g', c', arr, u, fu, fr, e, hg, ⟨h0, h1, h2⟩, _⟩ := Own.at_ hO k hk
  injection e with e1 _ _
  injection e1 with e1
  injection e1 with e1 _ _
  subst e1
  exact ⟨_, _, _, ⟨(blk_cell hg _).trans h0, blk_frozen hg _⟩, ⟨(blk_cell hg _).trans h1, blk_frozen hg _⟩, (blk_cell hg _).trans h2, blk_frozen hg _⟩
end
end Go.Proofs.Ytldgkgdgcfllmaa
end
section
namespace Go.Proofs.Ytldgkgdgcfllmaa.Rk
open Go.RowKit Go.Deep Go.ChangeShapes Go.WideShapes Go.Proofs.YtldgkgdgcfllmaaW.PrintWords Go.Proofs.YtldgkgdgcfllmaaW.PrintLast Go.Proofs.YtldgkgdgcfllmaaW.PrintMore
set_option linter.unusedVariables false
set_option linter.unusedSimpArgs false
variable {H : Type} {enc : TypeId × Value → H} {P : Program} {w : World} {base : Nat} {spare : Nat → Bool} {held : Bool} {α : Type}
end Go.Proofs.Ytldgkgdgcfllmaa.Rk
end
section
namespace Go.Proofs.Ytldgkgdgcfllmaa.Rk
open Go.RowKit Go.Deep Go.ChangeShapes Go.WideShapes Go.Proofs.Ytldgkgdgcfllmaa.P Go.Proofs.YtldgkgdgcfllmaaW.PrintWords Go.Proofs.YtldgkgdgcfllmaaW.PrintLast Go.Proofs.YtldgkgdgcfllmaaW.PrintMore
set_option linter.unusedVariables false
set_option linter.unusedSimpArgs false
variable {H : Type} {enc : TypeId × Value → H} {w : World} {base : Nat} {spare : Nat → Bool} {held : Bool}
end Go.Proofs.Ytldgkgdgcfllmaa.Rk
end
section
namespace Go.Proofs.Ytldgkgdgcfllmaa.P
open Go.RowKit Go.Proofs.YtldgkgdgcfllmaaW.PrintWords Go.Proofs.YtldgkgdgcfllmaaW.PrintLast Go.Proofs.YtldgkgdgcfllmaaW.PrintMore
attribute [local go_sem] max2_int min2_int max_two min_two max_three min_three max_four min_four
set_option linter.unusedVariables false
set_option linter.unusedSimpArgs false
end Go.Proofs.Ytldgkgdgcfllmaa.P
end
section
namespace Go.Proofs.Ytldgkgdgcfllmaa.P
open Go.RowKit Go.Proofs.YtldgkgdgcfllmaaW.PrintWords Go.Proofs.YtldgkgdgcfllmaaW.PrintLast Go.Proofs.YtldgkgdgcfllmaaW.PrintMore
attribute [local go_sem] max2_int min2_int max_two min_two max_three min_three max_four min_four
set_option linter.unusedVariables false
set_option linter.unusedSimpArgs false
end Go.Proofs.Ytldgkgdgcfllmaa.P
end
