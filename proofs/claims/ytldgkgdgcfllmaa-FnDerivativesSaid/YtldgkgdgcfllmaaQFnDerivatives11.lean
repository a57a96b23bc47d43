/- Texts of the proof of FnDerivatives, put together. No condition. -/
import Derived.Test.YtldgkgdgcfllmaaQFnDerivatives3
import Derived.Test.YtldgkgdgcfllmaaQFnDerivatives8
import Derived.Test.YtldgkgdgcfllmaaQFnDerivatives10
import Derived.Shelf.Abstract
import Derived.Lib.Walk
import Derived.Test.YtldgkgdgcfllmaaQFnDerivatives5
section
namespace Go.Proofs.Ytldgkgdgcfllmaa.P
open Go.RowKit Go.Proofs.YtldgkgdgcfllmaaW.PrintWords Go.Proofs.YtldgkgdgcfllmaaW.PrintLast Go.Proofs.YtldgkgdgcfllmaaW.PrintMore
attribute [local go_sem] max2_int min2_int max_two min_two max_three min_three max_four min_four
set_option linter.unusedVariables false
set_option linter.unusedSimpArgs false
def impl_IsNullable.f (k : Nat) (a0_0 : Int) (a0_1 : ByteArray) (l0_2 : List (S29)) : Option (Bool) := (impl_MatchRegex.f k a0_0 a0_1 l0_2 (⟨#[]⟩ : ByteArray)).bind fun ae => (some ae)
theorem impl_IsNullable.mono : ∀ a0 a1 a2 k, LeO (impl_IsNullable.f k a0 a1 a2) (impl_IsNullable.f (k + 1) a0 a1 a2) := by
  intro a0 a1 a2 k
  unfold impl_IsNullable.f
  repeat' first
      | (with_reducible exact impl_MatchRegex.mono _ _ _ _ _)
      | (with_reducible exact LeO.refl _)
      | (with_reducible exact LeO.none _)
      | (with_reducible refine LeO.ite ?_ ?_)
      | (with_reducible refine LeO.bind ?_ (fun _ => ?_))
      | exact impl_MatchRegex.mono _ _ _ _ _
      | exact LeO.none _
      | refine LeO.ite ?_ ?_
      | refine LeO.bind ?_ (fun _ => ?_)
set_option maxHeartbeats 8000000 in
set_option maxRecDepth 100000 in
theorem impl_IsNullable.calls (k : Nat) (a0_0 : Int) (a0_1 : ByteArray) (A0_2 : Option Addr) (c0_2 : Nat) (l0_2 : List (S29)) (r : Bool) (w : World) (hr0_2 : Kd.C k29 w A0_2 l0_2.length l0_2) (hc0_2 : l0_2.length ≤ c0_2) (h : impl_IsNullable.f k a0_0 a0_1 l0_2 = some r) :
    Calls Try.prog 28 #[.agg #[.int .i64 a0_0, .string a0_1, .slice A0_2 l0_2.length c0_2]] w fun e w' => e = .returned (.bool r) ∧ Below w.heap.size w w' := by
  have hu29 := Try.underlying29
  have af := am_ hr0_2
  have ag := am_ hc0_2
  clear hr0_2 hc0_2
  have HB := am_ (Below.refl w.heap.size w)
  have H : ((impl_MatchRegex.f k a0_0 a0_1 l0_2 (⟨#[]⟩ : ByteArray)).bind fun ae => (some ae)) = some r := h
  clear h
  replace H := Option.bind_eq_some_iff.mp H
  obtain ⟨ae, A20, H⟩ := H
  replace H : (some ae) = some r := H
  have A2 := am_ A20
  clear A20
  obtain rfl := Option.some.inj H
  simp only [Option.some.injEq, Prod.mk.injEq] at H
  obtain ⟨rfl⟩ := H
  go_enter Try.func28, Try.ntmps28
  go_wp2_with (first | ((with_reducible refine gate_dst (N := 1) rfl ?_); refine box_event ?hg (N := 1) ?hd (cs := #[.int .i64 a0_0, .string a0_1, .slice A0_2 l0_2.length c0_2]) (t := 29) ?hr ?_; (case hd => rfl); (case hg => rfl); (case hr => first | (go_simp; done) | (go_simp; rfl)); intro aj hg w3 hbox hb; replace ab := am_ (hbox); replace au := am_ ((by rw [hg]; exact (below_size (b0_ HB.out)) : w.heap.size ≤ aj)); replace ak := am_ ((by rw [hg]; exact (below_size (b0_ HB.out)) : w.heap.size ≤ aj)); replace HB := am_ (below_step (b0_ HB.out) hb); clear hb hbox hg; have al := ck_ (v := (.int .i64 a0_0)) ab 0 rfl; have am := ck_ (v := (.string a0_1)) ab 1 rfl; have an := ck_ (v := (.slice A0_2 l0_2.length c0_2)) ab 2 rfl; have ao := blk_frozen ab.out 0; have ap := blk_frozen ab.out 1; have aq := blk_frozen ab.out 2) | ((with_reducible refine gate_callee (f := 26) rfl ?_); refine gL_ (some 4) Try.func26 #[.agg #[.int .i64 a0_0, .string a0_1, .slice A0_2 l0_2.length c0_2], .string (⟨#[]⟩ : ByteArray)] ?_; (with_reducible refine (impl_MatchRegex.calls k a0_0 a0_1 _ _ l0_2 (⟨#[]⟩ : ByteArray) ae _ ?side1 ?side2 A2.out).mono ?_); (case side1 => exact rc_ (Kd.C_below af.out HB.out)); (case side2 => exact ag.out); rintro e w5 ⟨rfl, hb⟩; refine ⟨_, rfl, ?_⟩; have n0_ := am_ (blk_below (rb_ ab.out) hb); have n1_ := am_ (below_step (b1_ HB.out ak.out) hb); clear ab; clear HB; have ab := n0_; have HB := n1_; clear n0_ n1_; (try clear hb); (try clear hb2); (try clear hk); (try clear hi)))
  go_ret
  exact ⟨by first | rfl | (simp [errW_none, errW_some] <;> rfl) | (simp [*, errW_none, errW_some] <;> rfl), by repeat (first | (with_reducible first | exact HB.out | apply below_alloc | apply pw_below_drewN | apply below_drew1 | refine below_set ?_ ak.out) | exact HB.out)⟩
end Go.Proofs.Ytldgkgdgcfllmaa.P
end
section
namespace Go.Proofs.Ytldgkgdgcfllmaa
open Go.RowKit Go.Shelf Go.Proofs.Ytldgkgdgcfllmaa.P Go.Proofs.YtldgkgdgcfllmaaW.PrintWords Go.Proofs.YtldgkgdgcfllmaaW.PrintLast Go.Proofs.YtldgkgdgcfllmaaW.PrintMore
set_option linter.unusedVariables false
structure Pc where
  P : World → List Nat → Prop
  mv : ∀ {w w' : World} {fp : List Nat}, P w fp → (∀ k ∈ fp, w'.heap[k]? = w.heap[k]?) → P w' fp
  lt : ∀ {w : World} {fp : List Nat}, P w fp → ∀ k ∈ fp, k < w.heap.size
def SlF (w : World) : List Pc → List Nat → Prop
  | [], fp => fp = []
  | p :: ps, fp => ∃ f1 f2, fp = f1 ++ f2 ∧ p.P w f1 ∧ SlF w ps f2
structure Sl (w0 w : World) (ps : List Pc) : Prop where
  bel : Below w0.heap.size w0 w
  own : ∃ fp, SlF w ps fp ∧ fp.Nodup ∧ ∀ k ∈ fp, w0.heap.size ≤ k
section
variable {w0 w w' w1 : World} {ps qs : List Pc} {p q : Pc} {fp : List Nat} {i j : Nat}
theorem SlF.mv : ∀ {ps : List Pc} {fp : List Nat}, SlF w ps fp → (∀ k ∈ fp, w'.heap[k]? = w.heap[k]?) → SlF w' ps fp
  | [], _, h, _ => h
  | p :: ps, _, ⟨f1, f2, e, h1, h2⟩, hm => ⟨f1, f2, e, p.mv h1 (fun k hk => hm k (by rw [e]; exact List.mem_append_left _ hk)), SlF.mv h2 (fun k hk => hm k (by rw [e]; exact List.mem_append_right _ hk))⟩
theorem SlF.lt : ∀ {ps : List Pc} {fp : List Nat}, SlF w ps fp → ∀ k ∈ fp, k < w.heap.size
  | [], _, h, k, hk => by rw [h] at hk; cases hk
  | p :: ps, _, ⟨f1, f2, e, h1, h2⟩, k, hk => by
    rw [e] at hk
    rcases List.mem_append.1 hk with hk | hk
    · exact p.lt h1 k hk
    · exact SlF.lt h2 k hk
theorem SlF.app : ∀ {ps : List Pc} {f g : List Nat}, SlF w ps f → SlF w qs g → SlF w (ps ++ qs) (f ++ g)
  | [], _, _, h, h2 => by rw [h]; exact h2
  | p :: ps, _, g, ⟨f1, f2, e, h1, h2⟩, h3 => ⟨f1, f2 ++ g, by rw [e, List.append_assoc], h1, SlF.app h2 h3⟩
theorem SlF.take : ∀ {ps : List Pc} {f : List Nat} (n : Nat), SlF w ps f → ∃ g, SlF w (ps.take n) g ∧ List.Sublist g f
  | ps, f, 0, h => ⟨[], rfl, List.nil_sublist _⟩
  | [], _, n + 1, h => ⟨[], rfl, List.nil_sublist _⟩
  | p :: ps, _, n + 1, ⟨f1, f2, e, h1, h2⟩ => by
    obtain ⟨g, h3, h4⟩ := SlF.take n h2
    exact ⟨f1 ++ g, ⟨f1, g, rfl, h1, h3⟩, by rw [e]; exact List.Sublist.append_left h4 _⟩
theorem SlF.at_ : ∀ {ps : List Pc} {i : Nat} {fp : List Nat}, SlF w ps fp → ps[i]? = some p →
    ∃ f fr, p.P w f ∧ fp.Perm (f ++ fr) ∧ ∀ (w' : World) (q : Pc) (f' : List Nat), (∀ k ∈ fr, w'.heap[k]? = w.heap[k]?) → q.P w' f' → ∃ fp', SlF w' (ps.set i q) fp' ∧ fp'.Perm (f' ++ fr)
  | [], i, _, _, h => by cases i <;> cases h
  | r :: ps, 0, _, ⟨f1, f2, e, h1, h2⟩, h => by
    obtain rfl := Option.some.inj h
    exact ⟨f1, f2, h1, by rw [e], fun w' q f' hk hq => ⟨f' ++ f2, ⟨f', f2, rfl, hq, SlF.mv h2 hk⟩, List.Perm.refl _⟩⟩
  | r :: ps, i + 1, _, ⟨f1, f2, e, h1, h2⟩, h => by
    obtain ⟨f, fr, h3, h4, h5⟩ := SlF.at_ h2 (by simpa using h)
    refine ⟨f, f1 ++ fr, h3, ?_, fun w' q f' hk hq => ?_⟩
    · rw [e]
      exact (List.Perm.append_left f1 h4).trans (by rw [← List.append_assoc, ← List.append_assoc]; exact List.Perm.append_right fr List.perm_append_comm)
    · obtain ⟨g, h6, h7⟩ := h5 w' q f' (fun k hk' => hk k (List.mem_append_right _ hk')) hq
      refine ⟨f1 ++ g, ⟨f1, g, rfl, r.mv h1 (fun k hk' => hk k (List.mem_append_left _ hk')), h6⟩, ?_⟩
      exact (List.Perm.append_left f1 h7).trans (by rw [← List.append_assoc, ← List.append_assoc]; exact List.Perm.append_right fr List.perm_append_comm)
theorem Sl.start (w : World) : Sl w w [] := ⟨Below.refl _ _, [], rfl, List.nodup_nil, fun k hk => by cases hk⟩
theorem Sl.only (H : Sl w0 w ps) (hb : Below w.heap.size w w') : Sl w0 w' ps := by
  obtain ⟨fp, h1, h2, h3⟩ := H.own
  exact ⟨below_then H.bel H.bel.size hb, fp, SlF.mv h1 (fun k hk => hb.block k (SlF.lt h1 k hk)), h2, h3⟩
theorem Sl.drew (H : Sl w0 w ps) : Sl w0 w.drew ps := H.only (below_drew1 (Below.refl _ _))
theorem Sl.call (H : Sl w0 w ps) (K : Sl w w' qs) : Sl w0 w' (ps ++ qs) := by
  obtain ⟨fp, h1, h2, h3⟩ := H.own
  obtain ⟨gp, g1, g2, g3⟩ := K.own
  refine ⟨below_then H.bel H.bel.size K.bel, fp ++ gp, SlF.app (SlF.mv h1 (fun k hk => K.bel.block k (SlF.lt h1 k hk))) g1, List.nodup_append.2 ⟨h2, g2, fun a ha b hb e => ?_⟩, fun k hk => ?_⟩
  · have := SlF.lt h1 a ha
    have := g3 b hb
    omega
  · rcases List.mem_append.1 hk with hk | hk
    · exact h3 k hk
    · exact Nat.le_trans H.bel.size (g3 k hk)
theorem Sl.pre (H : Sl w0 w ps) (n : Nat) : Sl w0 w (ps.take n) := by
  obtain ⟨fp, h1, h2, h3⟩ := H.own
  obtain ⟨g, h4, h5⟩ := SlF.take n h1
  exact ⟨H.bel, g, h4, h2.sublist h5, fun k hk => h3 k (h5.subset hk)⟩
theorem Sl.opn (H : Sl w0 w ps) (i : Nat) (hi : ps[i]? = some p) : ∃ f, p.P w f ∧ f.Nodup ∧ (∀ k ∈ f, w0.heap.size ≤ k) ∧ ∀ (w' : World) (q : Pc) (f' : List Nat), Below w0.heap.size w0 w' → q.P w' f' → f'.Nodup → (∀ k ∈ f', k ∈ f ∨ w.heap.size ≤ k) → (∀ k, k < w.heap.size → k ∉ f → w'.heap[k]? = w.heap[k]?) → Sl w0 w' (ps.set i q) := by
  obtain ⟨fp, h1, h2, h3⟩ := H.own
  obtain ⟨f, fr, h4, h5, h6⟩ := SlF.at_ h1 hi
  have hn := (List.Perm.nodup_iff h5).1 h2
  obtain ⟨n1, n2, n3⟩ := List.nodup_append.1 hn
  have hlt : ∀ k ∈ fr, k < w.heap.size := fun k hk => SlF.lt h1 k (h5.mem_iff.2 (List.mem_append_right _ hk))
  refine ⟨f, h4, n1, fun k hk => h3 k (h5.mem_iff.2 (List.mem_append_left _ hk)), fun w' q f' hb hq hd hf hk => ?_⟩
  obtain ⟨gp, g1, g2⟩ := h6 w' q f' (fun k hkr => hk k (hlt k hkr) (fun hkf => n3 k hkf k hkr rfl)) hq
  refine ⟨hb, gp, g1, (List.Perm.nodup_iff g2).2 (List.nodup_append.2 ⟨hd, n2, fun a ha b hb' e => ?_⟩), fun k hk' => ?_⟩
  · subst e
    rcases hf a ha with hf | hf
    · exact n3 a hf a hb' rfl
    · exact absurd (hlt a hb') (by omega)
  · rcases List.mem_append.1 (g2.mem_iff.1 hk') with hk' | hk'
    · rcases hf k hk' with hf | hf
      · exact h3 k (h5.mem_iff.2 (List.mem_append_left _ hf))
      · exact Nat.le_trans H.bel.size hf
    · exact h3 k (h5.mem_iff.2 (List.mem_append_right _ hk'))
theorem Sl.upd (H : Sl w0 w ps) (i : Nat) (hi : ps[i]? = some p) (hb : Below w0.heap.size w0 w')
    (h : ∀ f, p.P w f → f.Nodup → (∀ k ∈ f, w0.heap.size ≤ k) → ∃ f', q.P w' f' ∧ f'.Nodup ∧ (∀ k ∈ f', k ∈ f ∨ w.heap.size ≤ k) ∧ ∀ k, k < w.heap.size → k ∉ f → w'.heap[k]? = w.heap[k]?) : Sl w0 w' (ps.set i q) := by
  obtain ⟨f, h1, h2, h3, h4⟩ := H.opn i hi
  obtain ⟨f', k1, k2, k3, k4⟩ := h f h1 h2 h3
  exact h4 w' q f' hb k1 k2 k3 k4
def emp : Pc := ⟨fun _ fp => fp = [], fun h _ => h, fun h k hk => by rw [h] at hk; cases hk⟩
def both (p q : Pc) : Pc := ⟨fun w fp => ∃ f1 f2, fp = f1 ++ f2 ∧ p.P w f1 ∧ q.P w f2,
  fun ⟨f1, f2, e, h1, h2⟩ hm => ⟨f1, f2, e, p.mv h1 (fun k hk => hm k (by rw [e]; exact List.mem_append_left _ hk)), q.mv h2 (fun k hk => hm k (by rw [e]; exact List.mem_append_right _ hk))⟩,
  fun ⟨f1, f2, e, h1, h2⟩ k hk => by
    rw [e] at hk
    rcases List.mem_append.1 hk with hk | hk
    · exact p.lt h1 k hk
    · exact q.lt h2 k hk⟩
theorem Sl.join (H : Sl w0 w ps) (i j : Nat) (hi : ps[i]? = some p) (hj : ps[j]? = some q) (hne : i ≠ j) : Sl w0 w ((ps.set i (both p q)).set j emp) := by
  obtain ⟨fp, h1, h2, h3⟩ := H.own
  obtain ⟨f, fr, h4, h5, h6⟩ := SlF.at_ h1 hj
  obtain ⟨gp, g1, g2⟩ := h6 w emp [] (fun _ _ => rfl) rfl
  obtain ⟨f', fr', k4, k5, k6⟩ := SlF.at_ (i := i) (p := p) g1 (by rw [List.getElem?_set_ne (Ne.symm hne)]; exact hi)
  obtain ⟨hp, l1, l2⟩ := k6 w (both p q) (f' ++ f) (fun _ _ => rfl) ⟨f', f, rfl, k4, h4⟩
  have hperm : hp.Perm fp := by
    have e1 : hp.Perm (f ++ (f' ++ fr')) := l2.trans (by rw [← List.append_assoc]; exact List.Perm.append_right _ List.perm_append_comm)
    refine e1.trans ((List.Perm.append_left f ?_).trans h5.symm)
    exact (k5.symm).trans (by simpa using g2)
  rw [List.set_comm _ _ (Ne.symm hne)] at l1
  exact ⟨H.bel, hp, l1, (List.Perm.nodup_iff hperm).2 h2, fun k hk => h3 k (hperm.mem_iff.1 hk)⟩
theorem Sl.get (H : Sl w0 w ps) (i : Nat) (hi : ps[i]? = some p) : ∃ f, p.P w f ∧ f.Nodup ∧ ∀ k ∈ f, w0.heap.size ≤ k := by
  obtain ⟨fp, h1, h2, h3⟩ := H.own
  obtain ⟨f, fr, h4, h5, _⟩ := SlF.at_ h1 hi
  exact ⟨f, h4, (List.nodup_append.1 ((List.Perm.nodup_iff h5).1 h2)).1, fun k hk => h3 k (h5.mem_iff.2 (List.mem_append_left _ hk))⟩
theorem Sl.drop (H : Sl w0 w ps) (i : Nat) (hi : ps[i]? = some p) : Sl w0 w (ps.set i emp) :=
  H.upd i hi H.bel (fun f hp hn _ => ⟨[], rfl, List.nodup_nil, (fun k hk => by cases hk), fun _ _ _ => rfl⟩)
theorem Sl.one (H : Sl w0 w ps) (i : Nat) (hi : ps[i]? = some p := by rfl) : Sl w0 w [p] := by
  obtain ⟨f, h1, h2, h3⟩ := H.get i hi
  exact ⟨H.bel, f ++ [], ⟨f, [], rfl, h1, rfl⟩, by simpa using h2, by simpa using h3⟩
theorem SlF.sel : ∀ (is : List Nat) {ps : List Pc} {fp : List Nat}, is.Nodup → SlF w ps fp → fp.Nodup → ∃ g, SlF w (is.map (fun i => ps.getD i emp)) g ∧ g.Nodup ∧ ∀ k ∈ g, k ∈ fp
  | [], _, _, _, _, _ => ⟨[], rfl, List.nodup_nil, fun k hk => by cases hk⟩
  | i :: is, ps, fp, hn, h, hd => by
    obtain ⟨h1, h2⟩ := List.nodup_cons.1 hn
    by_cases hi : i < ps.length
    · obtain ⟨f, fr, h3, h4, h5⟩ := SlF.at_ h (List.getElem?_eq_getElem hi)
      obtain ⟨fp', h6, h7⟩ := h5 w emp [] (fun _ _ => rfl) rfl
      obtain ⟨n1, n2, n3⟩ := List.nodup_append.1 ((List.Perm.nodup_iff h4).1 hd)
      obtain ⟨g, h8, h9, h10⟩ := SlF.sel is h2 h6 ((List.Perm.nodup_iff h7).2 (by simpa using n2))
      have hg : ∀ k ∈ g, k ∈ fr := fun k hk => by simpa using h7.mem_iff.1 (h10 k hk)
      refine ⟨f ++ g, ⟨f, g, rfl, ?_, ?_⟩, List.nodup_append.2 ⟨n1, h9, fun a ha b hb => n3 a ha b (hg b hb)⟩, fun k hk => h4.mem_iff.2 ?_⟩
      · show (ps.getD i emp).P w f
        rw [List.getD_eq_getElem?_getD, List.getElem?_eq_getElem hi]
        exact h3
      · have e : List.map (fun j => (ps.set i emp).getD j emp) is = List.map (fun j => ps.getD j emp) is := List.map_congr_left (fun j hj => by
          have hne : i ≠ j := fun e => h1 (by rw [e]; exact hj)
          rw [List.getD_eq_getElem?_getD, List.getD_eq_getElem?_getD, List.getElem?_set_ne hne])
        show SlF w (List.map (fun j => ps.getD j emp) is) g
        rw [← e]
        exact h8
      · rcases List.mem_append.1 hk with hk | hk
        · exact List.mem_append_left _ hk
        · exact List.mem_append_right _ (hg k hk)
    · obtain ⟨g, h8, h9, h10⟩ := SlF.sel is h2 h hd
      refine ⟨[] ++ g, ⟨[], g, rfl, ?_, h8⟩, h9, h10⟩
      show (ps.getD i emp).P w []
      rw [List.getD_eq_getElem?_getD, List.getElem?_eq_none (by omega)]
      rfl
theorem Sl.sel (H : Sl w0 w ps) (is : List Nat) (hn : is.Nodup := by decide) : Sl w0 w (is.map (fun i => ps.getD i emp)) := by
  obtain ⟨fp, h1, h2, h3⟩ := H.own
  obtain ⟨g, h4, h5, h6⟩ := SlF.sel is hn h1 h2
  exact ⟨H.bel, g, h4, h5, fun k hk => h3 k (h6 k hk)⟩
theorem Sl.old (H : Sl w0 w ps) {a : Addr} {v : Value} (h : w0.cell? a = some v) : w.cell? a = some v := pw_cell_below H.bel h
def bx (g : Nat) (cs : Array Value) (t : TypeId) : Pc := ⟨fun w fp => fp = [g] ∧ w.heap[g]? = some (.cells cs t (0, 0)), fun ⟨e, h⟩ hm => ⟨e, (hm g (by rw [e]; exact List.mem_singleton.2 rfl)).trans h⟩, fun ⟨e, h⟩ k hk => by
  rw [e] at hk
  rw [List.mem_singleton.1 hk]
  exact blk_lt h⟩
theorem Sl.blk (H : Sl w0 w ps) (i : Nat) {g : Nat} {cs : Array Value} {t : TypeId} (hi : ps[i]? = some (bx g cs t)) : w.heap[g]? = some (.cells cs t (0, 0)) := by
  obtain ⟨f, ⟨_, h⟩, _⟩ := H.get i hi
  exact h
theorem Sl.new (H : Sl w0 w ps) (cs : Array Value) (t : TypeId) : Sl w0 (w.alloc (.cells cs t (0, 0))) (ps ++ [bx w.heap.size cs t]) :=
  H.call ⟨below_alloc (Below.refl _ _) _, [w.heap.size], ⟨[w.heap.size], [], by simp, ⟨rfl, blk_new _ _⟩, rfl⟩, by simp, by simp⟩
theorem Sl.put (H : Sl w0 w ps) (i : Nat) {g : Nat} {cs : Array Value} {t : TypeId} (hi : ps[i]? = some (bx g cs t)) (j : Nat) (u : Value) : Sl w0 (w.setCell ⟨g, j, none⟩ u) (ps.set i (bx g (cs.setIfInBounds j u) t)) := by
  obtain ⟨f, ⟨e, h⟩, _, hg⟩ := H.get i hi
  refine H.upd i hi (below_set H.bel (hg g (by rw [e]; exact List.mem_singleton.2 rfl))) (fun f hp hn _ => ⟨[g], ⟨rfl, blk_set h j u⟩, by simp, fun k hk => Or.inl (by rw [hp.1]; exact hk), fun k _ hk => Below.heap_setCell w ⟨g, j, none⟩ u k (fun e => hk (by rw [hp.1, e]; exact List.mem_singleton.2 rfl))⟩)
theorem Sl.f1 (H : Sl w0 w ps) (i : Nat) {g : Nat} {x : Value} {t : TypeId} (hi : ps[i]? = some (bx g #[x] t) := by rfl) : w.cell? ⟨g, 0, none⟩ = some x ∧ w.frozen? ⟨g, 0, none⟩ = false := by
  have h := H.blk i hi
  exact ⟨blk_cell h 0, blk_frozen h 0⟩
theorem Sl.f2 (H : Sl w0 w ps) (i : Nat) {g : Nat} {x y : Value} {t : TypeId} (hi : ps[i]? = some (bx g #[x, y] t) := by rfl) : (w.cell? ⟨g, 0, none⟩ = some x ∧ w.frozen? ⟨g, 0, none⟩ = false) ∧ w.cell? ⟨g, 1, none⟩ = some y ∧ w.frozen? ⟨g, 1, none⟩ = false := by
  have h := H.blk i hi
  exact ⟨⟨blk_cell h 0, blk_frozen h 0⟩, blk_cell h 1, blk_frozen h 1⟩
theorem Sl.f3 (H : Sl w0 w ps) (i : Nat) {g : Nat} {x y z : Value} {t : TypeId} (hi : ps[i]? = some (bx g #[x, y, z] t) := by rfl) : (w.cell? ⟨g, 0, none⟩ = some x ∧ w.frozen? ⟨g, 0, none⟩ = false) ∧ (w.cell? ⟨g, 1, none⟩ = some y ∧ w.frozen? ⟨g, 1, none⟩ = false) ∧ w.cell? ⟨g, 2, none⟩ = some z ∧ w.frozen? ⟨g, 2, none⟩ = false := by
  have h := H.blk i hi
  exact ⟨⟨blk_cell h 0, blk_frozen h 0⟩, ⟨blk_cell h 1, blk_frozen h 1⟩, blk_cell h 2, blk_frozen h 2⟩
theorem ba_ {w : World} {o : Obj} : Below w.heap.size w (w.alloc o) := below_alloc (Below.refl _ _) o
theorem sb_ {w w' : World} {p q : Prop} (hb : Below w.heap.size w w') (h : p) (c : Below w.heap.size w w' → p → q := by intro hb_ h_; (repeat (refine And.intro (pw_cell_below hb_ h_.1) ?_; replace h_ := h_.2)); exact pw_cell_below hb_ h_) : q := c hb h
theorem Sl.ne (H : Sl w0 w ps) (i j : Nat) {g g' : Nat} {cs cs' : Array Value} {t t' : TypeId} (hi : ps[i]? = some (bx g cs t)) (hj : ps[j]? = some (bx g' cs' t')) (hne : i ≠ j) : g ≠ g' := by
  have h := (H.join i j hi hj hne).get i (p := both (bx g cs t) (bx g' cs' t')) (by
    rw [List.getElem?_set_ne (Ne.symm hne)]
    have := (List.getElem?_eq_some_iff.1 hi).1
    rw [List.getElem?_set_self this])
  obtain ⟨f, ⟨f1, f2, e, ⟨e1, _⟩, ⟨e2, _⟩⟩, hn, _⟩ := h
  rw [e, e1, e2] at hn
  intro he
  simp [he] at hn
end
theorem tw_ {P : Program} {ops : Array Oper} {Q : Exit → Act → World → Prop} {md : Region.Mode} {S : World → Prop} {ds : List Nat} {T : Bool × List (List Nat × List Nat)} {oi oj : Oper} {fuel : Nat} {l : Array Bool} {a : Act} {w : World} (i j : Nat) (Ni Nj : Option Nat) (li lj : Array Bool) (hT : Aside0 (rtab md ops = T))
    (h1 : ∀ K : Act → World → Prop, Shut (∀ a' w', S w' → (S w' → wpAnyLast P md ops Q S ds fuel li a' w') → K a' w') → if Region.wanted oi (yielded ops a.tmps) = true then Oper.wp P oi a w K Q else K (a.put Ni undef) w)
    (h2 : ∀ K : Act → World → Prop, Shut (∀ a' w', S w' → (S w' → wpAnyLast P md ops Q S ds fuel lj a' w') → K a' w') → if Region.wanted oj (yielded ops a.tmps) = true then Oper.wp P oj a w K Q else K (a.put Nj undef) w)
    (hi : ops[i]? = some oi := by rfl) (hj : ops[j]? = some oj := by rfl) (hNi : oi.dst = Ni := by rfl) (hNj : oj.dst = Nj := by rfl) (hc : (readyT T.2 l.toList == [i, j] && l.toList.set i true == li.toList && l.toList.set j true == lj.toList) = true := by kernel_rfl) (hdi : i ∉ ds := by decide) (hdj : j ∉ ds := by decide) : wpAnyLast P md ops Q S ds (fuel + 1) l a w :=
  two_ li lj hi hj hNi hNj (two_of hT.out hc) hdi hdj h1 h2
theorem ed_ {P : Program} {ops : Array Oper} {Q : Exit → Act → World → Prop} {md : Region.Mode} {S : World → Prop} {ds : List Nat} {fuel : Nat} {l : Array Bool} {a a' : Act} {w : World} (h : wpAnyLast P md ops Q S ds fuel l a' w) (ha : a = a' := by simp only [putAll, Act.put, List.setIfInBounds_toArray, List.set_cons_zero, List.set_cons_succ]; rfl) : wpAnyLast P md ops Q S ds fuel l a w := norm_ ha h
section
variable {P : Program} {ops : Array Oper} {rest : List Oper} {o : Oper} {a : Act} {Q : Exit → Act → World → Prop} {Kc : Act → World → Prop} {w0 W : World} {ps : List Pc}
theorem nw_ (H : Sl w0 W ps) (N : Tmp) (cs : Array Value) (t : TypeId) (hd : o.dst = some N)
    (h : ∀ g w1, Sl w0 w1 (ps ++ [bx g cs t]) → wpList P ops Q rest (a.put o.dst (.pointer (some ⟨g, 0, none⟩))) w1) (hgd : o.guard = none := by rfl)
    (hrun : (execOp a.eval o).run P W = .ok (.value (.pointer (some ⟨W.heap.size, 0, none⟩))) (W.alloc (.cells cs t (0, 0))) := by first | (go_simp; done) | (go_simp; rfl)) : wpList P ops Q (o :: rest) a W :=
  Kd.event_run hgd hrun (h _ _ (H.new cs t))
theorem ns_ (H : Sl w0 W ps) (N : Tmp) (cs : Array Value) (t : TypeId) (hd : o.dst = some N)
    (h : ∀ g w1, Sl w0 w1 (ps ++ [bx g cs t]) → Below W.heap.size W w1 → Kc (a.put o.dst (.pointer (some ⟨g, 0, none⟩))) w1) (hw : Region.wanted o (yielded ops a.tmps) = true := by rfl)
    (hrun : (execOp a.eval o).run P W = .ok (.value (.pointer (some ⟨W.heap.size, 0, none⟩))) (W.alloc (.cells cs t (0, 0))) := by first | (go_simp; done) | (go_simp; rfl)) : if Region.wanted o (yielded ops a.tmps) = true then Oper.wp P o a W Kc Q else Kc (a.put o.dst undef) W :=
  event_step hw hrun (h _ _ (H.new cs t) ba_)
theorem Sl.put3 (H : Sl w0 W ps) (i : Nat) {g : Nat} {x y z : Value} {t : TypeId} (x' y' z' : Value) (hi : ps[i]? = some (bx g #[x, y, z] t) := by rfl) : Sl w0 (((W.setCell ⟨g, 0, none⟩ x').setCell ⟨g, 1, none⟩ y').setCell ⟨g, 2, none⟩ z') (ps.set i (bx g #[x', y', z'] t)) := by
  have hl := (List.getElem?_eq_some_iff.1 hi).1
  have h1 := H.put i hi 0 x'
  have h2 := h1.put i (by rw [List.getElem?_set_self hl]) 1 y'
  have h3 := h2.put i (by rw [List.getElem?_set_self (by rw [List.length_set]; exact hl)]) 2 z'
  rw [List.set_set, List.set_set] at h3
  exact h3
theorem p3_ (H : Sl w0 W ps) (p : Tmp) (i : Nat) {g : Nat} {x y z x' y' z' : Value} {t t' : TypeId} {q : Operand} (ho : o.op = .store t' (.tmp p) q)
    (h : ∀ w1, Sl w0 w1 (ps.set i (bx g #[x', y', z'] t)) → wpList P ops Q rest a w1) (hi : ps[i]? = some (bx g #[x, y, z] t) := by rfl)
    (hrun : (execOp a.eval o).run P W = .ok .skip (((W.setCell ⟨g, 0, none⟩ x').setCell ⟨g, 1, none⟩ y').setCell ⟨g, 2, none⟩ z') := by first | (go_simp; done) | (go_simp; rfl)) (hgd : o.guard = none := by rfl) (hN : o.dst = none := by rfl) : wpList P ops Q (o :: rest) a W := by
  refine wpList_plain hgd fun K hK => ?_
  unfold Oper.wp
  rw [hrun]
  show K (a.put o.dst undef) _
  rw [hN]
  exact hK _ _ (h _ (H.put3 i x' y' z' hi))
theorem s1_ (H : Sl w0 W ps) (i j : Nat) {g : Nat} {cs : Array Value} {x' : Value} {t : TypeId} (h : ∀ w1, Sl w0 w1 (ps.set i (bx g (cs.setIfInBounds j x') t)) → Kc a w1) (hi : ps[i]? = some (bx g cs t) := by rfl)
    (hrun : (execOp a.eval o).run P W = .ok .skip (W.setCell ⟨g, j, none⟩ x') := by first | (go_simp; done) | (go_simp; rfl)) (hw : Region.wanted o (yielded ops a.tmps) = true := by rfl) (hN : o.dst = none := by rfl) : if Region.wanted o (yielded ops a.tmps) = true then Oper.wp P o a W Kc Q else Kc (a.put none undef) W :=
  skip_ hw hN hrun (h _ (H.put i hi j x'))
theorem s3_ (H : Sl w0 W ps) (i : Nat) {g : Nat} {x y z x' y' z' : Value} {t : TypeId} (h : ∀ w1, Sl w0 w1 (ps.set i (bx g #[x', y', z'] t)) → Kc a w1) (hi : ps[i]? = some (bx g #[x, y, z] t) := by rfl)
    (hrun : (execOp a.eval o).run P W = .ok .skip (((W.setCell ⟨g, 0, none⟩ x').setCell ⟨g, 1, none⟩ y').setCell ⟨g, 2, none⟩ z') := by first | (go_simp; done) | (go_simp; rfl)) (hw : Region.wanted o (yielded ops a.tmps) = true := by rfl) (hN : o.dst = none := by rfl) : if Region.wanted o (yielded ops a.tmps) = true then Oper.wp P o a W Kc Q else Kc (a.put none undef) W :=
  skip_ hw hN hrun (h _ (H.put3 i x' y' z' hi))
end
end Go.Proofs.Ytldgkgdgcfllmaa
end
section
namespace Go.Proofs.Ytldgkgdgcfllmaa
open Go.RowKit Go.Shelf Go.Proofs.Ytldgkgdgcfllmaa.P Go.Proofs.Ytldgkgdgcfllmaa.Rg Go.Proofs.YtldgkgdgcfllmaaW.PrintWords Go.Proofs.YtldgkgdgcfllmaaW.PrintLast Go.Proofs.YtldgkgdgcfllmaaW.PrintMore
set_option linter.unusedVariables false
mutual
inductive Own (w : World) : Value → List Tr → List Nat → Prop
  | mk {v : Value} {ts : List Tr} {fs : List Nat} {cs : List Value} : OwnL w cs ts fs → w.ownsRow 0 29 3 v ts.length cs → Own w v ts (v.ownBlock.toList ++ fs)
inductive OwnL (w : World) : List Value → List Tr → List Nat → Prop
  | nil : OwnL w [] [] []
  | cons {t : Tr} {v : Value} {f1 : List Nat} {cs : List Value} {ts : List Tr} {f2 : List Nat} : Own w v t.f2 f1 → OwnL w cs ts f2 → OwnL w (.int .i64 t.f0 :: .string t.f1 :: v :: cs) (t :: ts) (f1 ++ f2)
end
section
variable {w w' : World}
mutual
theorem Own.mv : ∀ {v : Value} {ts : List Tr} {fp : List Nat}, Own w v ts fp → (∀ k ∈ fp, w'.heap[k]? = w.heap[k]?) → Own w' v ts fp
  | _, _, _, .mk h ho, hm => .mk (OwnL.mv h (fun k hk => hm k (List.mem_append_right _ hk))) (own_move ho (fun k hk => hm k (List.mem_append_left _ (by rw [hk]; exact List.mem_singleton.2 rfl))))
theorem OwnL.mv : ∀ {cs : List Value} {ts : List Tr} {fp : List Nat}, OwnL w cs ts fp → (∀ k ∈ fp, w'.heap[k]? = w.heap[k]?) → OwnL w' cs ts fp
  | _, _, _, .nil, _ => .nil
  | _, _, _, .cons h1 h2, hm => .cons (Own.mv h1 (fun k hk => hm k (List.mem_append_left _ hk))) (OwnL.mv h2 (fun k hk => hm k (List.mem_append_right _ hk)))
end
mutual
theorem Own.lt : ∀ {v : Value} {ts : List Tr} {fp : List Nat}, Own w v ts fp → ∀ k ∈ fp, k < w.heap.size
  | _, _, _, .mk h ho, k, hk => by
    rcases List.mem_append.1 hk with hk | hk
    · exact own_lt ho k (by simpa using hk)
    · exact OwnL.lt h k hk
theorem OwnL.lt : ∀ {cs : List Value} {ts : List Tr} {fp : List Nat}, OwnL w cs ts fp → ∀ k ∈ fp, k < w.heap.size
  | _, _, _, .nil, k, hk => by cases hk
  | _, _, _, .cons h1 h2, k, hk => by
    rcases List.mem_append.1 hk with hk | hk
    · exact Own.lt h1 k hk
    · exact OwnL.lt h2 k hk
end
theorem OwnL.len : ∀ {cs : List Value} {ts : List Tr} {fp : List Nat}, OwnL w cs ts fp → cs.length = ts.length * 3
  | _, _, _, .nil => rfl
  | _, _, _, .cons _ h => by have := OwnL.len h; simp only [List.length_cons]; omega
theorem OwnL.one : ∀ {cs : List Value} {ts : List Tr} {fp : List Nat}, OwnL w cs ts fp → ∀ u ∈ cs, u.oneCell' = true
  | _, _, _, .nil, u, hu => by cases hu
  | _, _, _, .cons (.mk _ ho) h, u, hu => by
    simp only [List.mem_cons] at hu
    rcases hu with rfl | rfl | rfl | hu
    · rfl
    · rfl
    · rcases ho.2 with ⟨rfl, _⟩ | ⟨g, cap, cur, rfl, _⟩ <;> rfl
    · exact OwnL.one h u hu
theorem OwnL.snoc : ∀ {cs : List Value} {ts : List Tr} {fp : List Nat} {t : Tr} {v : Value} {f : List Nat}, OwnL w cs ts fp → Own w v t.f2 f → OwnL w (cs ++ [.int .i64 t.f0, .string t.f1, v]) (ts ++ [t]) (fp ++ f)
  | _, _, _, _, _, _, .nil, h => by have := OwnL.cons h OwnL.nil; simpa using this
  | _, _, _, _, _, _, .cons h1 h2, h => by
    have := OwnL.cons h1 (OwnL.snoc h2 h)
    rw [← List.append_assoc] at this
    exact this
mutual
theorem Own.reads : ∀ {v : Value} {ts : List Tr} {fp : List Nat}, Own w v ts fp → ∃ A c, v = .slice A ts.length c ∧ ts.length ≤ c ∧ Kd.C k29 w A ts.length ts
  | _, _, _, .mk h ho => by
    obtain ⟨A, c, e, hl, hr⟩ := OwnRow.reads ⟨_, ho, OwnL.reps h⟩
    exact ⟨A, c, e, hl, hr⟩
theorem OwnL.reps : ∀ {cs : List Value} {ts : List Tr} {fp : List Nat}, OwnL w cs ts fp → Reps (k29.K w) 3 ts cs
  | _, _, _, .nil => Reps.none _ _
  | _, _, _, .cons (t := t) h1 h2 => by
    obtain ⟨A, c, rfl, hl, hc⟩ := Own.reads h1
    have hk := k29_mk w t hl hc
    have h3 := OwnL.reps h2
    refine ⟨by have := h3.1; simp only [List.length_cons]; omega, fun j p hp => ?_⟩
    cases j with
    | zero =>
      obtain rfl := Option.some.inj hp
      exact hk
    | succ j =>
      have := h3.2 j p (by simpa using hp)
      rw [show (j + 1) * 3 = j * 3 + 1 + 1 + 1 by omega]
      exact this
end
end
theorem kid_ {w : World} {A : Option Addr} {ts : List Tr} (h : Kd.C k29 w A ts.length ts) (i : Nat) (hi : i < ts.length) : ∃ ad A2 c2 y, A = some ad ∧ (ts[i]'hi = y ∧ ts.take (i + 1) = ts.take i ++ [y] ∧ y ∈ ts) ∧ (w.cell? (ad.add (i * 3)) = some (.int .i64 y.f0) ∧ w.cell? ⟨(ad.add (i * 3)).block, (ad.add (i * 3)).off + 1, none⟩ = some (.string y.f1) ∧ w.cell? ⟨(ad.add (i * 3)).block, (ad.add (i * 3)).off + 2, none⟩ = some (.slice A2 y.f2.length c2)) ∧ y.f2.length ≤ c2 ∧ Kd.C k29 w A2 y.f2.length y.f2 := by
  obtain ⟨ad, A2, c2, e, h0, h1, h2, h3, h4⟩ := at_T29 h (i : Int) (by omega) (by omega)
  have hy : rd_T29 ts (i : Int) = ts[i]'hi := by simp [rd_T29, List.getD_eq_getElem?_getD, hi]
  rw [hy, Int.toNat_natCast] at h0 h1 h2
  rw [hy] at h3 h4
  exact ⟨ad, A2, c2, _, e, ⟨rfl, List.take_succ_eq_append_getElem hi, List.getElem_mem hi⟩, ⟨h0, h1, h2⟩, h3, h4⟩
def tre (v : Value) (ts : List Tr) : Pc := ⟨fun w fp => Own w v ts fp, fun h hm => Own.mv h hm, fun h => Own.lt h⟩
theorem Sl.tv {w0 w : World} {ps : List Pc} {v : Value} {ts : List Tr} (H : Sl w0 w ps) (i : Nat) (hi : ps[i]? = some (tre v ts) := by rfl) : ∃ A c, v = .slice A ts.length c ∧ ts.length ≤ c ∧ Kd.C k29 w A ts.length ts := by
  obtain ⟨f, h, _⟩ := H.get i hi
  exact Own.reads h
end Go.Proofs.Ytldgkgdgcfllmaa
end
section
namespace Go.Proofs.Ytldgkgdgcfllmaa
open Go.RowKit Go.Shelf Go.Proofs.Ytldgkgdgcfllmaa.P Go.Proofs.Ytldgkgdgcfllmaa.Rg Go.Proofs.YtldgkgdgcfllmaaW.PrintWords Go.Proofs.YtldgkgdgcfllmaaW.PrintLast Go.Proofs.YtldgkgdgcfllmaaW.PrintMore
set_option linter.unusedVariables false
theorem und_tre : Try.prog.underlying 27 = some (.slice 29) := by kernel_rfl
section
variable {w0 W w1 : World} {ps : List Pc} {i j : Nat} {v u u1 u2 : Value} {ts : List Tr} {t t1 t2 : Tr}
theorem sub_nil (H : Sl w0 W ps) : Sl w0 W (ps ++ [tre (.slice none 0 0) []]) :=
  H.call ⟨Below.refl _ _, [], ⟨[], [], rfl, Own.mk OwnL.nil ⟨rfl, .inl ⟨rfl, rfl⟩⟩, rfl⟩, List.nodup_nil, fun k hk => by cases hk⟩
theorem Sl.lit {p : Pc} {cs : List Value} (H : Sl w0 W ps) (i : Nat) (hi : ps[i]? = some p) (hp : ∀ f, p.P W f → OwnL W cs ts f) (hl : ts.length ≤ 1000) : Sl w0 (W.alloc (.cells cs.toArray 29)) (ps.set i (tre (.slice (some ⟨W.heap.size, 0, none⟩) ts.length ts.length) ts)) := by
  have hb : Below W.heap.size W (W.alloc (.cells cs.toArray 29)) := below_alloc (Below.refl _ _) _
  refine H.upd i hi (below_then H.bel H.bel.size hb) (fun f hf hn hg => ?_)
  have ho := hp f hf
  have hlt := OwnL.lt ho
  refine ⟨_, Own.mk (OwnL.mv ho (fun k hk => hb.block k (hlt k hk))) (by
    have h2 := World.ownsRow_lit (base := 0) (e := 29) (size := 3) W cs.toArray ts.length (Nat.zero_le _) (by simp [maxLen]; omega) (by simpa using OwnL.len ho)
    simpa using h2), ?_, fun k hk => ?_, fun k hk _ => hb.block k hk⟩
  · refine List.nodup_append.2 ⟨by simp [Value.ownBlock], hn, fun a ha b hb' e => ?_⟩
    have := hlt b hb'
    simp [Value.ownBlock] at ha
    omega
  · rcases List.mem_append.1 hk with hk | hk
    · simp [Value.ownBlock] at hk
      exact Or.inr (by omega)
    · exact Or.inl hk
theorem Sl.lit2 (H : Sl w0 W ps) (i j : Nat) (hi : ps[i]? = some (tre u1 t1.f2)) (hj : ps[j]? = some (tre u2 t2.f2)) (hne : i ≠ j) :
    Sl w0 (W.alloc (.cells #[.int .i64 t1.f0, .string t1.f1, u1, .int .i64 t2.f0, .string t2.f1, u2] 29)) ((ps.set j emp).set i (tre (.slice (some ⟨W.heap.size, 0, none⟩) 2 2) [t1, t2])) := by
  have h1 := H.join i j hi hj hne
  have h2 := h1.lit (ts := [t1, t2]) (cs := [.int .i64 t1.f0, .string t1.f1, u1, .int .i64 t2.f0, .string t2.f1, u2]) i (p := both (tre u1 t1.f2) (tre u2 t2.f2))
    (by rw [List.getElem?_set_ne (Ne.symm hne), List.getElem?_set_self (List.getElem?_eq_some_iff.1 hi).1])
    (fun f ⟨f1, f2, e, g1, g2⟩ => by rw [e]; have := OwnL.cons g1 (OwnL.cons g2 OwnL.nil); rwa [List.append_nil] at this) (by simp)
  rw [List.set_comm _ _ hne, List.set_set] at h2
  exact h2
end
section
variable {ops : Array Oper} {rest : List Oper} {o : Oper} {a : Act} {Q : Exit → Act → World → Prop} {Kc : Act → World → Prop} {w0 W : World} {ps : List Pc} {v u : Value} {ts : List Tr} {t : Tr} {s x : Operand}
theorem bb_ {t1 t2 : Tr} {u1 u2 : Value} (H : Sl w0 W ps) (i j : Nat) (h : ∀ g w1, Sl w0 w1 ((ps.set j emp).set i (tre (.slice (some ⟨g, 0, none⟩) 2 2) [t1, t2])) → Below W.heap.size W w1 → Kc (a.put o.dst (.slice (some ⟨g, 0, none⟩) 2 2)) w1)
    (hi : ps[i]? = some (tre u1 t1.f2) := by rfl) (hj : ps[j]? = some (tre u2 t2.f2) := by rfl) (hne : i ≠ j := by decide) (hw : Region.wanted o (yielded ops a.tmps) = true := by rfl)
    (hrun : (execOp a.eval o).run Try.prog W = .ok (.value (.slice (some ⟨W.heap.size, 0, none⟩) 2 2)) (W.alloc (.cells #[.int .i64 t1.f0, .string t1.f1, u1, .int .i64 t2.f0, .string t2.f1, u2] 29)) := by first | (go_simp; done) | (go_simp; rfl)) :
    if Region.wanted o (yielded ops a.tmps) = true then Oper.wp Try.prog o a W Kc Q else Kc (a.put o.dst undef) W :=
  event_step hw hrun (h _ _ (H.lit2 i j hi hj hne) ba_)
theorem ap_ (H : Sl w0 W ps) (i j : Nat) (h : ∀ A1 n1 c1 w1, Sl w0 w1 ((ps.set i (tre (.slice A1 n1 c1) (ts ++ [t]))).set j emp) → Kc (a.put o.dst (.slice A1 n1 c1)) w1) (hl : ts.length < 2932031007402)
    (hi : ps[i]? = some (tre v ts) := by rfl) (hj : ps[j]? = some (tre u t.f2) := by rfl) (hne : i ≠ j := by decide) (hw : Region.wanted o (yielded ops a.tmps) = true := by rfl)
    (ho : o.op = .call { callee := .builtin .append, args := #[s, x], argTypes := #[27, 27] } := by rfl) (hs : a.eval s = v := by rfl) (hx : a.eval x = .slice (some ⟨W.heap.size, 0, none⟩) 1 1 := by rfl) :
    if Region.wanted o (yielded ops a.tmps) = true then Oper.wp Try.prog o a (W.alloc (.cells #[.int .i64 t.f0, .string t.f1, u] 29)) Kc Q else Kc (a.put o.dst undef) (W.alloc (.cells #[.int .i64 t.f0, .string t.f1, u] 29)) := by
  have HJ := H.join i j hi hj hne
  have hp : ((ps.set i (both (tre v ts) (tre u t.f2))).set j emp)[i]? = some (both (tre v ts) (tre u t.f2)) := by rw [List.getElem?_set_ne (Ne.symm hne), List.getElem?_set_self (List.getElem?_eq_some_iff.1 hi).1]
  obtain ⟨f, ⟨f1, f2, e, h1, h2⟩, hn, hg⟩ := HJ.get i hp
  cases h1 with
  | @mk _ _ fs cs hL ho' =>
    refine step_append_cells (w0 := W) 0 hw s x 27 29 (.agg #[(.int .i64 0), (.string ⟨#[]⟩), (.slice none 0 0)]) 3 48 ho und_tre info29 rfl (by decide) (by decide) v ts.length cs [.int .i64 t.f0, .string t.f1, u] hs hx rfl ?_ ho' (Below.refl _ _) (Nat.zero_le _) (by omega) ?_
    · have := OwnL.one (OwnL.cons (t := t) h2 OwnL.nil)
      exact this
    intro v1 w1 hown _ hgr hat
    have hbv : ∀ k, v.ownBlock = some k → w0.heap.size ≤ k := fun k hk => hg k (by rw [e]; exact List.mem_append_left _ (List.mem_append_left _ (by rw [hk]; exact List.mem_singleton.2 rfl)))
    have HB : Below w0.heap.size w0 w1 := HJ.bel.grown hgr HJ.bel.size hbv
    obtain ⟨A1, c1, rfl⟩ : ∃ A1 c1, v1 = .slice A1 (ts ++ [t]).length c1 := by
      rw [List.length_append, List.length_singleton]
      rcases hown.2 with ⟨_, e2⟩ | ⟨g, cap, cur, e1, _⟩
      · omega
      · exact ⟨_, _, e1⟩
    refine h A1 _ c1 w1 ?_
    generalize hv1 : Value.slice A1 (ts ++ [t]).length c1 = v1 at hown hat ⊢
    have hset : ((ps.set i (both (tre v ts) (tre u t.f2))).set j emp).set i (tre v1 (ts ++ [t])) = (ps.set i (tre v1 (ts ++ [t]))).set j emp := by rw [List.set_comm _ _ (Ne.symm hne), List.set_set]
    rw [← hset]
    refine HJ.upd i hp HB (fun f' ⟨f1', f2', e', k1, k2⟩ hn' hg' => ?_)
    cases k1 with
    | @mk _ _ fs' cs' hL' ho'' =>
      have hcs : cs' = cs := by
        rcases ho'.2 with ⟨e1, e2⟩ | ⟨g, cap, cur, e1, _, e3, _, _, _, e4⟩
        · rcases ho''.2 with ⟨_, _⟩ | ⟨g', cap', cur', e1', _⟩
          · have a1 := ho'.1
            have a2 := ho''.1
            rw [e2] at a1 a2
            rw [List.eq_nil_of_length_eq_zero (l := cs) (by simpa using a1), List.eq_nil_of_length_eq_zero (l := cs') (by simpa using a2)]
          · rw [e1] at e1'; cases e1'
        · rcases ho''.2 with ⟨e1', _⟩ | ⟨g', cap', cur', e1', _, e3', _, _, _, e4'⟩
          · rw [e1] at e1'; cases e1'
          · rw [e1] at e1'
            injection e1' with e5 _ _
            injection e5 with e5
            injection e5 with e5 _ _
            subst e5
            rw [e3] at e3'
            injection e3' with e3'
            injection e3' with e3' _ _
            rw [← e4, ← e4', e3']
      subst hcs
      rw [e'] at hn' hg'
      have hnd := List.nodup_append.1 hn'
      have hnd1 := List.nodup_append.1 hnd.1
      have hsame : ∀ k ∈ fs' ++ f2', w1.heap[k]? = W.heap[k]? := fun k hk => by
        have hlt : k < W.heap.size := by
          rcases List.mem_append.1 hk with hk | hk
          · exact OwnL.lt hL' k hk
          · exact Own.lt k2 k hk
        refine hgr.block k hlt (fun he => ?_)
        have hm : k ∈ v.ownBlock.toList := by rw [← he]; exact List.mem_singleton.2 rfl
        rcases List.mem_append.1 hk with hk | hk
        · exact hnd1.2.2 k hm k hk rfl
        · exact hnd.2.2 k (List.mem_append_left _ hm) k hk rfl
      have hL2 : OwnL w1 (cs' ++ [.int .i64 t.f0, .string t.f1, u]) (ts ++ [t]) (fs' ++ f2') := OwnL.mv (OwnL.snoc hL' k2) hsame
      refine ⟨_, Own.mk hL2 (by rw [List.length_append, List.length_singleton]; exact hown), ?_, fun k hk => ?_, fun k hk hk2 => ?_⟩
      · refine List.nodup_append.2 ⟨by cases v1.ownBlock <;> simp, ?_, fun a ha b hb ee => ?_⟩
        · rw [List.append_assoc] at hn'
          exact (List.nodup_append.1 hn').2.1
        · subst ee
          rcases hat with hat | ⟨c, hat, hc⟩
          · rw [hat] at ha
            rcases List.mem_append.1 hb with hb | hb
            · exact hnd1.2.2 a ha a hb rfl
            · exact hnd.2.2 a (List.mem_append_left _ ha) a hb rfl
          · rw [hat] at ha
            have : a = c := by simpa using ha
            rcases List.mem_append.1 hb with hb | hb
            · exact absurd (OwnL.lt hL' a hb) (by omega)
            · exact absurd (Own.lt k2 a hb) (by omega)
      · rw [e']
        rcases List.mem_append.1 hk with hk | hk
        · rcases hat with hat | ⟨c, hat, hc⟩
          · rw [hat] at hk
            exact Or.inl (List.mem_append_left _ (List.mem_append_left _ hk))
          · rw [hat] at hk
            have : k = c := by simpa using hk
            exact Or.inr (by omega)
        · rcases List.mem_append.1 hk with hk | hk
          · exact Or.inl (List.mem_append_left _ (List.mem_append_right _ hk))
          · exact Or.inl (List.mem_append_right _ hk)
      · refine hgr.block k hk (fun he => hk2 ?_)
        rw [e']
        exact List.mem_append_left _ (List.mem_append_left _ (by rw [← he]; exact List.mem_singleton.2 rfl))
end
end Go.Proofs.Ytldgkgdgcfllmaa
end
section
namespace Go.Proofs.Ytldgkgdgcfllmaa
open Go.RowKit Go.Shelf Go.Proofs.Ytldgkgdgcfllmaa.P Go.Proofs.Ytldgkgdgcfllmaa.Pl Go.Proofs.Ytldgkgdgcfllmaa.Rg Go.Proofs.YtldgkgdgcfllmaaW.PrintWords Go.Proofs.YtldgkgdgcfllmaaW.PrintLast Go.Proofs.YtldgkgdgcfllmaaW.PrintMore
set_option linter.unusedVariables false
set_option linter.unusedSimpArgs false
def Tall : Nat → Tr → Prop
  | 0, _ => False
  | n + 1, t => t.f2.length ≤ 1000000 ∧ ∀ a ∈ t.f2, Tall n a
abbrev tv (t : Tr) (A : Option Addr) (c : Nat) : Value := .agg #[.int .i64 t.f0, .string t.f1, .slice A t.f2.length c]
abbrev tb (t : Tr) (A : Option Addr) (c : Nat) : Array Value := #[.int .i64 t.f0, .string t.f1, .slice A t.f2.length c]
abbrev PT (w : World) (q : Tr) (e : Ending) (w' : World) : Prop := ∃ v, e = .returned (.agg #[.int .i64 q.f0, .string q.f1, v]) ∧ Sl w w' [tre v q.f2]
abbrev CT (f : Nat) (l : ByteArray) (a q : Tr) : Prop := ∀ (A : Option Addr) (c : Nat) (w : World), Kd.C k29 w A a.f2.length a.f2 → a.f2.length ≤ c → Calls Try.prog f #[tv a A c, .string l] w (PT w q)
abbrev zt : Array Value := #[.int .i64 0, .string ⟨#[]⟩, .slice none 0 0]
def T5 : Bool × List (List Nat × List Nat) := (true, [([], []), ([0], [0]), ([], []), ([2], [2]), ([3], [3]), ([1, 4, 3], [1, 4]), ([0, 1, 2, 3, 4, 5], []), ([6, 5, 5, 0, 1, 2, 3, 4, 5], [5, 6])])
def B5 : List Nat := [0, 1, 0, 4, 12, 31, 63, 127]
theorem tab5 : rtab .any (opsOf Try.f82 5) = T5 := by kernel_rfl
theorem bits5 : waitsOk T5.2 B5 = true := by kernel_rfl
set_option maxHeartbeats 4000000 in
set_option maxRecDepth 100000 in
theorem cloneCalls : ∀ (n : Nat) (t : Tr) (A : Option Addr) (c : Nat) (w : World), Tall n t → Kd.C k29 w A t.f2.length t.f2 → t.f2.length ≤ c →
    Calls Try.prog 82 #[tv t A c] w fun e w' => ∃ v, e = .returned (.agg #[.int .i64 t.f0, .string t.f1, v]) ∧ Sl w w' [tre v t.f2] := by
  intro n
  induction n with
  | zero => intro t A c w h; exact h.elim
  | succ n ih =>
  intro t A c w ht hC hc
  have HT := am_ ht
  have HC := am_ hC
  have H := Sl.start w
  have hu := Try.underlying29
  clear ht hC hc
  go_enter Try.func82, Try.ntmps82
  go_wp2_with (first | (refine nw_ H 1 (tb t A c) 29 rfl ?_; clear H; intro g1 w1 H) | (refine nw_ H 2 zt 29 rfl ?_; clear H; intro g2 w1 H; have F0 := H.f3 0) | (refine nw_ H 3 zt 29 rfl ?_; clear H F0; intro g3 w1 H; have F0 := H.f3 0; have F2 := H.f3 2) | (refine p3_ H 3 2 rfl ?_; clear H F0 F2; intro w1 H; have F0 := H.f3 0; have F2 := H.f3 2))
  go_loopg [14] t.f2.length (fun gg v14 w' => ∃ (i : Nat) (v : Value), v14 = .int .i64 (i : Int) ∧ Aside0 (i ≤ t.f2.length ∧ t.f2.length ≤ gg + i) ∧ Sl w w' [bx g1 (tb t A c) 29, bx g2 zt 29, bx g3 #[.int .i64 t.f0, .string t.f1, v] 29, tre v (t.f2.take i)])
  case atStart => exact ⟨0, _, rfl, ⟨Nat.zero_le _, by omega⟩, sub_nil H⟩
  case round =>
    clear H F0 F2
    obtain ⟨i, v, rfl, HI, H⟩ := hrel
    by_cases hi : i < t.f2.length
    · obtain ⟨g1_, rfl⟩ : ∃ q, gk = q + 1 := ⟨gk - 1, by have := HI.out; omega⟩
      obtain ⟨ad, A2, c2, y, rfl, ⟨-, hy, hm⟩, hx, hl2, hC2⟩ := kid_ HC.out i hi
      have HY := am_ hy
      have HT2 := am_ (HT.out.2 y hm)
      have HL2 := am_ hl2
      have HC2 := am_ hC2
      replace hx := And.imp H.old (And.imp H.old H.old) hx
      have p1 : ((0 : Int) ≤ (i : Int)) = True := eq_true (by omega)
      have q1 : ((i : Int) < (t.f2.length : Int)) = True := eq_true (by omega)
      have HI2 := am_ hi
      clear hy hm hl2 hC2 hi
      have F0 := H.f3 0
      have F2 := H.f3 2
      go_wp2_with (first | (refine nw_ H 5 zt 29 rfl ?_; clear H F0 F2; intro g5 w1 H; have F0 := H.f3 0; have F2 := H.f3 2; have F4 := H.f3 4) | (refine p3_ H 5 4 rfl ?_; clear H F0 F2 F4; intro w1 H; have F2 := H.f3 2; have F4 := H.f3 4))
      refine start_ (n := 8) (S := (fun w' => w'.cell? ⟨g3, 2, none⟩ = some v ∧ w'.cell? ⟨g5, 0, none⟩ = some (.int .i64 y.f0) ∧ w'.cell? ⟨g5, 1, none⟩ = some (.string y.f1) ∧ w'.cell? ⟨g5, 2, none⟩ = some (.slice A2 y.f2.length c2))) (ds := [5, 7]) (bl 8 0) (by kernel_rfl) rfl rfl (⟨F2.2.2.1, F4.1.1, F4.2.1.1, F4.2.2.1⟩) (fun hHeld => ?_); refine with_tabW tab5 bits5 (fun HT_ HW_ => ?_)
      clear F2 F4 hx
      replace H := H.drew
      refine ph_ 0 18 (bl 8 1) HT_ ?_
      refine th_ 1 19 (bl 8 3) HT_ HW_ hHeld ?_
      refine th_ 2 20 (bl 8 7) HT_ HW_ hHeld ?_
      refine on_ 3 (some 21) (bl 8 15) HT_ (fun K hK => ?_)
      refine gO_ Try.func82 #[tv y A2 c2] ?_
      refine (ih y A2 c2 _ HT2.out (Kd.C_below HC2.out H.bel) HL2.out).mono ?_
      rintro e w2 ⟨v2, rfl, H2⟩
      replace H := H.call H2
      refine ⟨_, rfl, ?_⟩
      refine hK.out _ _ ((sb_ H2.bel hHeld)) (fun hHeld => ?_)
      clear hK K
      refine nm_ 21 ?_
      refine on_ 4 (some 22) (bl 8 31) HT_ (fun K hK => ?_)
      refine value_ (w1 := ?_) (v := ?_) (by rfl) rfl ?_ ?_
      rotate_left 2
      · go_simp
        constructor
        · rfl
        · rfl
      refine hK.out _ _ ((sb_ ba_ hHeld)) (fun hHeld => ?_)
      clear hK K
      refine nm_ 22 ?_
      refine last_ (i := 5) (N := some 23) (bl 8 63) rfl rfl (one_of HT_.out (by kernel_rfl)) (by decide) (fun K hK => ?_)
      refine ap_ H 3 5 (fun A1 n1 c1 w3 H => ?_) ?_
      rotate_left
      · exact Nat.lt_of_le_of_lt (by rw [List.length_take]; exact Nat.min_le_right _ _) (Nat.lt_of_le_of_lt HT.out.1 (by decide))
      refine hK.out _ _ ?_
      clear hK K
      refine nm_ 23 ?_
      refine ph_ 6 24 (bl 8 127) HT_ ?_
      refine last_ (i := 7) (N := none) (bl 8 255) rfl rfl (one_of HT_.out (by kernel_rfl)) (by decide) (fun K hK => ?_)
      have F2 := H.f3 2
      refine s1_ H 2 2 (fun w4 H => ?_)
      refine hK.out _ _ ?_
      clear hK K F2
      refine done_ (done_of HT_.out (by kernel_rfl)) ?_
      clear HT_ HW_ hHeld
      go_wp2
      go_roundg g1_
      case measure => omega
      case rel =>
        have H := H.pre 4
        rw [← HY.out] at H
        exact ⟨i + 1, _, by rw [up1 (by have := HT.out.1; have := HI2.out; omega)], ⟨HI2.out, by have := HI.out; omega⟩, H⟩
    · have e : i = t.f2.length := by have := HI.out; omega
      subst e
      rw [List.take_length] at H
      have q1 : ((t.f2.length : Int) < (t.f2.length : Int)) = False := eq_false (by omega)
      obtain ⟨A3, c3, rfl, -, -⟩ := H.tv 3
      have F1 := H.f3 1
      have F2 := H.f3 2
      go_wp2_with (refine p3_ H 2 1 rfl ?_; clear H F1 F2; intro w1 H; have F1 := H.f3 1)
      refine bodyPost_ret (results_cell_row rfl _ _ g2 29 _ (0, 0) _ rfl (H.blk 1 rfl) hu rfl (by kernel_rfl)) rfl ?_
      exact ⟨_, rfl, H.one 3⟩
def Tc5 : Bool × List (List Nat × List Nat) := (true, [([], []), ([0], [0]), ([], []), ([2], [2]), ([], []), ([3, 4], [3, 4]), ([5], [5]), ([6], [6]), ([7], [7]), ([1, 8, 7], [1, 8]), ([0, 1, 2, 3, 4, 5, 6, 7, 8, 9], []), ([10, 9, 9, 0, 1, 2, 3, 4, 5, 6, 7, 8, 9], [9, 10])])
def Bc5 : List Nat := [0, 1, 0, 4, 0, 28, 60, 124, 252, 511, 1023, 2047]
theorem tabc5 : rtab .any (opsOf Try.f81 5) = Tc5 := by kernel_rfl
theorem bitsc5 : waitsOk Tc5.2 Bc5 = true := by kernel_rfl
set_option maxHeartbeats 4000000 in
set_option maxRecDepth 100000 in
theorem copyCalls : ∀ (n : Nat) (t : Tr) (A : Option Addr) (c : Nat) (w : World), Tall n t → Kd.C k29 w A t.f2.length t.f2 → t.f2.length ≤ c →
    Calls Try.prog 81 #[tv t A c] w fun e w' => ∃ v, e = .returned (.agg #[.int .i64 t.f0, .string t.f1, v]) ∧ Sl w w' [tre v t.f2] := by
  intro n
  induction n with
  | zero => intro t A c w h; exact h.elim
  | succ n ih =>
  intro t A c w ht hC hc
  have HT := am_ ht
  have HC := am_ hC
  have H := Sl.start w
  have hu := Try.underlying29
  clear ht hC hc
  go_enter Try.func81, Try.ntmps81
  go_wp2_with (first | (refine nw_ H 1 (tb t A c) 29 rfl ?_; clear H; intro g1 w1 H) | (refine nw_ H 2 zt 29 rfl ?_; clear H; intro g2 w1 H; have F0 := H.f3 0) | (refine nw_ H 3 zt 29 rfl ?_; clear H F0; intro g3 w1 H; have F0 := H.f3 0; have F2 := H.f3 2) | (refine p3_ H 3 2 rfl ?_; clear H F0 F2; intro w1 H))
  go_loopg [4] t.f2.length (fun gg v14 w' => ∃ (i : Nat) (v : Value), v14 = .int .i64 (i : Int) ∧ Aside0 (i ≤ t.f2.length ∧ t.f2.length ≤ gg + i) ∧ Sl w w' [bx g1 (tb t A c) 29, bx g2 zt 29, bx g3 #[.int .i64 t.f0, .string t.f1, v] 29, tre v (t.f2.take i)])
  case atStart => exact ⟨0, _, rfl, ⟨Nat.zero_le _, by omega⟩, sub_nil H⟩
  case round =>
    clear H
    obtain ⟨i, v, rfl, HI, H⟩ := hrel
    have F0 := H.f3 0
    by_cases hi : i < t.f2.length
    · obtain ⟨g1_, rfl⟩ : ∃ q, gk = q + 1 := ⟨gk - 1, by have := HI.out; omega⟩
      obtain ⟨ad, A2, c2, y, rfl, ⟨-, hy, hm⟩, hx, hl2, hC2⟩ := kid_ HC.out i hi
      have HY := am_ hy
      have HT2 := am_ (HT.out.2 y hm)
      have HL2 := am_ hl2
      have HC2 := am_ hC2
      replace hx := And.imp H.old (And.imp H.old H.old) hx
      have p1 : ((0 : Int) ≤ (i : Int)) = True := eq_true (by omega)
      have q1 : ((i : Int) < (t.f2.length : Int)) = True := eq_true (by omega)
      have HI2 := am_ hi
      clear hy hm hl2 hC2 hi
      have F2 := H.f3 2
      go_wp2
      refine start_ (n := 12) (S := (fun w' => w'.cell? ⟨g3, 2, none⟩ = some v ∧ w'.cell? ⟨g1, 2, none⟩ = some (.slice (some ad) t.f2.length c) ∧ w'.cell? (ad.add (i * 3)) = some (.int .i64 y.f0) ∧ w'.cell? ⟨(ad.add (i * 3)).block, (ad.add (i * 3)).off + 1, none⟩ = some (.string y.f1) ∧ w'.cell? ⟨(ad.add (i * 3)).block, (ad.add (i * 3)).off + 2, none⟩ = some (.slice A2 y.f2.length c2))) (ds := [9, 11]) (bl 12 0) (by kernel_rfl) rfl rfl (⟨F2.2.2.1, F0.2.2.1, hx⟩) (fun hHeld => ?_); refine with_tabW tabc5 bitsc5 (fun HT_ HW_ => ?_)
      clear F2 F0 hx
      replace H := H.drew
      refine ph_ 0 17 (bl 12 1) HT_ ?_
      refine ph_ 2 19 (bl 12 5) HT_ ?_
      refine ph_ 4 21 (bl 12 21) HT_ ?_
      refine th_ 1 18 (bl 12 23) HT_ HW_ hHeld ?_
      refine th_ 3 20 (bl 12 31) HT_ HW_ hHeld ?_
      refine ph_ 5 22 (bl 12 63) HT_ ?_
      refine th_ 6 23 (bl 12 127) HT_ HW_ hHeld ?_
      refine on_ 7 (some 24) (bl 12 255) HT_ (fun K hK => ?_)
      refine gO_ Try.func81 #[tv y A2 c2] ?_
      refine (ih y A2 c2 _ HT2.out (Kd.C_below HC2.out H.bel) HL2.out).mono ?_
      rintro e w2 ⟨v2, rfl, H2⟩
      replace H := H.call H2
      refine ⟨_, rfl, ?_⟩
      refine hK.out _ _ ((sb_ H2.bel hHeld)) (fun hHeld => ?_)
      clear hK K
      refine nm_ 24 ?_
      refine on_ 8 (some 25) (bl 12 511) HT_ (fun K hK => ?_)
      refine value_ (w1 := ?_) (v := ?_) (by rfl) rfl ?_ ?_
      rotate_left 2
      · go_simp
        constructor
        · rfl
        · rfl
      refine hK.out _ _ ((sb_ ba_ hHeld)) (fun hHeld => ?_)
      clear hK K
      refine nm_ 25 ?_
      refine last_ (i := 9) (N := some 26) (bl 12 1023) rfl rfl (one_of HT_.out (by kernel_rfl)) (by decide) (fun K hK => ?_)
      refine ap_ H 3 4 (fun A1 n1 c1 w3 H => ?_) ?_
      rotate_left
      · exact Nat.lt_of_le_of_lt (by rw [List.length_take]; exact Nat.min_le_right _ _) (Nat.lt_of_le_of_lt HT.out.1 (by decide))
      refine hK.out _ _ ?_
      clear hK K
      refine nm_ 26 ?_
      refine ph_ 10 27 (bl 12 2047) HT_ ?_
      refine last_ (i := 11) (N := none) (bl 12 4095) rfl rfl (one_of HT_.out (by kernel_rfl)) (by decide) (fun K hK => ?_)
      have F2 := H.f3 2
      refine s1_ H 2 2 (fun w4 H => ?_)
      refine hK.out _ _ ?_
      clear hK K F2
      refine done_ (done_of HT_.out (by kernel_rfl)) ?_
      clear HT_ HW_ hHeld
      go_wp2
      go_roundg g1_
      case measure => omega
      case rel =>
        have H := H.pre 4
        rw [← HY.out] at H
        exact ⟨i + 1, _, by rw [up1 (by have := HT.out.1; have := HI2.out; omega)], ⟨HI2.out, by have := HI.out; omega⟩, H⟩
    · have e : i = t.f2.length := by have := HI.out; omega
      subst e
      rw [List.take_length] at H
      have q1 : ((t.f2.length : Int) < (t.f2.length : Int)) = False := eq_false (by omega)
      obtain ⟨A3, c3, rfl, -, -⟩ := H.tv 3
      have F1 := H.f3 1
      have F2 := H.f3 2
      go_wp2_with (refine p3_ H 2 1 rfl ?_; clear H F1 F2; intro w1 H; have F1 := H.f3 1)
      refine bodyPost_ret (results_cell_row rfl _ _ g2 29 _ (0, 0) _ rfl (H.blk 1 rfl) hu rfl (by kernel_rfl)) rfl ?_
      exact ⟨_, rfl, H.one 3⟩
end Go.Proofs.Ytldgkgdgcfllmaa
end
section
namespace Go.Proofs.Ytldgkgdgcfllmaa
open Go.RowKit Go.Shelf Go.Proofs.Ytldgkgdgcfllmaa.P Go.Proofs.Ytldgkgdgcfllmaa.Pl Go.Proofs.Ytldgkgdgcfllmaa.Rg Go.Proofs.YtldgkgdgcfllmaaW.PrintWords Go.Proofs.YtldgkgdgcfllmaaW.PrintLast Go.Proofs.YtldgkgdgcfllmaaW.PrintMore
set_option linter.unusedVariables false
set_option linter.unusedSimpArgs false
def Ts : Bool × List (List Nat × List Nat) := (true, [([], []), ([0], [0]), ([1], [1]), ([2], [2]), ([], []), ([3, 4], [3, 4]), ([], []), ([6, 5], [6]), ([5, 7], [5, 7]), ([8], [8]), ([9, 7, 0, 1, 2, 3, 4, 5, 6, 7, 8, 9], [9])])
def Bs : List Nat := [0, 1, 3, 7, 0, 31, 0, 127, 255, 511, 1023]
theorem bitsS : waitsOk Ts.2 Bs = true := by kernel_rfl
theorem tabSi : rtab .any (opsOf Try.f56 19) = Ts := by kernel_rfl
set_option maxHeartbeats 4000000 in
set_option maxRecDepth 100000 in
theorem deStar (n : Nat) (l k0 : ByteArray) (a q : Tr) (hT : Tall n ⟨8, k0, [a]⟩) (ih : CT 56 l a q) : CT 56 l ⟨8, k0, [a]⟩ ⟨5, ⟨#[]⟩, [q, ⟨8, k0, [a]⟩]⟩ := by
  intro A c w hC hc
  obtain ⟨ad, A2, c2, y, rfl, ⟨rfl, -, -⟩, hx, hl2, hC2⟩ := kid_ hC 0 (by simp)
  rw [Nat.zero_mul, Addr.add_zero'] at hx
  change w.cell? ad = some (.int .i64 a.f0) ∧ w.cell? ⟨ad.block, ad.off + 1, none⟩ = some (.string a.f1) ∧ w.cell? ⟨ad.block, ad.off + 2, none⟩ = some (.slice A2 a.f2.length c2) at hx
  have HX := am_ hx
  have HC := am_ hC
  have HC2 := am_ hC2
  have HL2 := am_ hl2
  have HL := am_ hc
  have H := Sl.start w
  have hu := Try.underlying29
  clear hx hC hc hC2 hl2
  show Calls Try.prog 56 #[.agg #[.int .i64 8, .string k0, .slice (some ad) 1 c], .string l] w _
  go_enter Try.func56, Try.ntmps56
  go_wp2_with (first | (refine nw_ H 2 #[.int .i64 8, .string k0, .slice (some ad) 1 c] 29 rfl ?_; intro g1 w1 H) | (refine nw_ H 4 zt 29 rfl ?_; intro g2 w1 H; have F0 := H.f3 0))
  have hx := HX.out
  replace hx := And.imp H.old (And.imp H.old H.old) hx
  refine start_ (n := 11) (S := (fun w' => w'.cell? ⟨g1, 0, none⟩ = some (.int .i64 8) ∧ w'.cell? ⟨g1, 1, none⟩ = some (.string k0) ∧ w'.cell? ⟨g1, 2, none⟩ = some (.slice (some ad) 1 c) ∧ w'.cell? ad = some (.int .i64 a.f0) ∧ w'.cell? ⟨ad.block, ad.off + 1, none⟩ = some (.string a.f1) ∧ w'.cell? ⟨ad.block, ad.off + 2, none⟩ = some (.slice A2 a.f2.length c2))) (ds := [8, 10]) (bl 11 0) (by kernel_rfl) rfl rfl (⟨F0.1.1, F0.2.1.1, F0.2.2.1, hx⟩) (fun hHeld => ?_); refine with_tabW tabSi bitsS (fun HT_ HW_ => ?_)
  clear F0 hx
  replace H := H.drew
  refine ph_ 0 48 (bl 11 1) HT_ ?_
  refine ph_ 4 52 (bl 11 17) HT_ ?_
  refine th_ 1 49 (bl 11 19) HT_ HW_ hHeld ?_
  refine ph_ 2 50 (bl 11 23) HT_ ?_
  refine th_ 3 51 (bl 11 31) HT_ HW_ hHeld ?_
  refine th_ 6 54 (bl 11 95) HT_ HW_ hHeld ?_
  refine on_ 5 (some 53) (bl 11 127) HT_ (fun K hK => ?_)
  refine gO_ Try.func56 #[tv a A2 c2, .string l] ?_
  refine (ih A2 c2 _ (Kd.C_below HC2.out H.bel) HL2.out).mono ?_
  rintro e w2 ⟨v2, rfl, H2⟩
  replace H := H.call H2
  refine ⟨_, rfl, ?_⟩
  refine hK.out _ _ ((sb_ H2.bel hHeld)) (fun hHeld => ?_)
  clear hK K
  refine nm_ 53 ?_
  refine on_ 7 (some 55) (bl 11 255) HT_ (fun K hK => ?_)
  refine gO_ Try.func82 #[.agg #[.int .i64 8, .string k0, .slice (some ad) 1 c]] ?_
  refine (cloneCalls n ⟨8, k0, [a]⟩ (some ad) c _ hT (Kd.C_below HC.out H.bel) HL.out).mono ?_
  rintro e w3 ⟨v3, rfl, H3⟩
  replace H := H.call H3
  refine ⟨_, rfl, ?_⟩
  refine hK.out _ _ ((sb_ H3.bel hHeld)) (fun hHeld => ?_)
  clear hK K
  refine nm_ 55 ?_
  obtain ⟨A3, c3, rfl, -, -⟩ := H.tv 2
  obtain ⟨A4, c4, (rfl : v3 = .slice A4 1 c4), -, -⟩ := H.tv 3
  refine last_ (i := 8) (N := some 56) (bl 11 511) rfl rfl (one_of HT_.out (by kernel_rfl)) (by decide) (fun K hK => ?_)
  refine value_ (w1 := ?_) (v := ?_) (by rfl) rfl ?_ ?_
  rotate_left 2
  · go_simp
    constructor
    · rfl
    · rfl
  refine hK.out _ _ ?_
  clear hK K
  refine nm_ 56 ?_
  replace H := H.lit2 (t1 := q) (t2 := ⟨8, k0, [a]⟩) 2 3 rfl rfl (by decide)
  refine ph_ 9 57 (bl 11 1023) HT_ ?_
  refine last_ (i := 10) (N := none) (bl 11 2047) rfl rfl (one_of HT_.out (by kernel_rfl)) (by decide) (fun K hK => ?_)
  have F1 := H.f3 1
  refine s3_ H 1 (fun w4 H => ?_)
  refine hK.out _ _ ?_
  clear hK K F1
  refine done_ (done_of HT_.out (by kernel_rfl)) ?_
  clear HT_ HW_ hHeld
  go_wp2
  refine bodyPost_ret (results_cell_row rfl _ _ g2 29 _ (0, 0) _ rfl (H.blk 1 rfl) hu rfl (by kernel_rfl)) rfl ?_
  exact ⟨_, rfl, H.one 2⟩
set_option maxHeartbeats 4000000 in
set_option maxRecDepth 100000 in
theorem deLeaf (l k0 : ByteArray) (k : Int) (q : Tr) (h : ((k = 1 ∨ k = 2) ∧ q = ⟨1, ⟨#[]⟩, []⟩) ∨ (k = 4 ∧ q = ⟨2, ⟨#[]⟩, []⟩) ∨ k = 3 ∧ q = ⟨if k0 = l then 2 else 1, ⟨#[]⟩, []⟩) : CT 56 l ⟨k, k0, []⟩ q := by
  intro A c w hC hc
  have H := Sl.start w
  have hu := Try.underlying29
  clear hC hc
  show Calls Try.prog 56 #[.agg #[.int .i64 k, .string k0, .slice A 0 c], .string l] w _
  rcases h with ⟨rfl | rfl, rfl⟩ | ⟨rfl, rfl⟩ | ⟨rfl, rfl⟩
  rotate_right
  · by_cases e : k0 = l
    · have e1 : (k0.toList == l.toList) = true := beq_iff_eq.mpr (by rw [e])
      rw [if_pos e]
      clear e
      go_enter Try.func56, Try.ntmps56
      go_wp2_with (first | (refine nw_ H 2 #[.int .i64 _, .string k0, .slice A 0 c] 29 rfl ?_; intro g1 w1 H) | (refine nw_ H 4 zt 29 rfl ?_; intro g2 w1 H; have F0 := H.f3 0; have F1 := H.f3 1) | (refine p3_ H 4 1 rfl ?_; clear F0 F1; intro w1 H))
      refine bodyPost_ret (results_cell_row rfl _ _ g2 29 _ (0, 0) _ rfl (H.blk 1 rfl) hu rfl (by kernel_rfl)) rfl ?_
      exact ⟨_, rfl, (sub_nil H).one 2⟩
    · have e1 : (k0.toList == l.toList) = false := beq_eq_false_iff_ne.mpr (fun h => e (toList_iff.mp h))
      rw [if_neg e]
      clear e
      go_enter Try.func56, Try.ntmps56
      go_wp2_with (first | (refine nw_ H 2 #[.int .i64 _, .string k0, .slice A 0 c] 29 rfl ?_; intro g1 w1 H) | (refine nw_ H 4 zt 29 rfl ?_; intro g2 w1 H; have F0 := H.f3 0; have F1 := H.f3 1) | (refine p3_ H 4 1 rfl ?_; clear F0 F1; intro w1 H))
      refine bodyPost_ret (results_cell_row rfl _ _ g2 29 _ (0, 0) _ rfl (H.blk 1 rfl) hu rfl (by kernel_rfl)) rfl ?_
      exact ⟨_, rfl, (sub_nil H).one 2⟩
  all_goals
    go_enter Try.func56, Try.ntmps56
    go_wp2_with (first | (refine nw_ H 2 #[.int .i64 _, .string k0, .slice A 0 c] 29 rfl ?_; intro g1 w1 H) | (refine nw_ H 4 zt 29 rfl ?_; intro g2 w1 H; have F0 := H.f3 0; have F1 := H.f3 1) | (refine p3_ H 4 1 rfl ?_; clear F0 F1; intro w1 H))
    refine bodyPost_ret (results_cell_row rfl _ _ g2 29 _ (0, 0) _ rfl (H.blk 1 rfl) hu rfl (by kernel_rfl)) rfl ?_
    exact ⟨_, rfl, (sub_nil H).one 2⟩
def Tm : Bool × List (List Nat × List Nat) := (true, [([], []), ([0], [0]), ([], []), ([], []), ([2, 3], [2, 3]), ([4], [4]), ([1, 5, 4], [1, 5]), ([0, 1, 2, 3, 4, 5, 6], []), ([7, 6, 6, 0, 1, 2, 3, 4, 5, 6], [6, 7])])
def Bm : List Nat := [0, 1, 0, 0, 12, 28, 63, 127, 255]
theorem bitsM : waitsOk Tm.2 Bm = true := by kernel_rfl
theorem tabMi : rtab .any (opsOf Try.f56 15) = Tm := by kernel_rfl
set_option maxHeartbeats 4000000 in
set_option maxRecDepth 100000 in
theorem deMany (l k0 : ByteArray) (k : Int) (hk : k = 6 ∨ k = 7 ∨ k = 9) (xs : List Tr) (f : Tr → Tr) (hl : xs.length ≤ 1000000) (ih : ∀ a ∈ xs, CT 56 l a (f a)) : CT 56 l ⟨k, k0, xs⟩ ⟨k, ⟨#[]⟩, xs.map f⟩ := by
  intro A c w hC hc
  have HC : Aside0 (Kd.C k29 w A xs.length xs) := ⟨hC⟩
  have HIH := am_ ih
  have HL := am_ hl
  have H := Sl.start w
  have hu := Try.underlying29
  clear hC hc ih hl
  show Calls Try.prog 56 #[.agg #[.int .i64 k, .string k0, .slice A xs.length c], .string l] w _
  rcases hk with rfl | rfl | rfl
  all_goals
    go_enter Try.func56, Try.ntmps56
    go_wp2_with (first | (refine nw_ H 2 #[.int .i64 _, .string k0, .slice A xs.length c] 29 rfl ?_; intro g1 w1 H) | (refine nw_ H 4 zt 29 rfl ?_; intro g2 w1 H; have F0 := H.f3 0) | (refine nw_ H 5 zt 29 rfl ?_; clear F0; intro g3 w1 H; have F0 := H.f3 0; have F2 := H.f3 2) | (refine p3_ H 5 2 rfl ?_; clear F0 F2; intro w1 H; have F0 := H.f3 0))
    go_loopg [32] xs.length (fun gg v14 w' => ∃ (i : Nat) (v : Value), v14 = .int .i64 (i : Int) ∧ Aside0 (i ≤ xs.length ∧ xs.length ≤ gg + i) ∧ Sl w w' [bx g1 #[.int .i64 _, .string k0, .slice A xs.length c] 29, bx g2 zt 29, bx g3 #[.int .i64 _, .string ⟨#[]⟩, v] 29, tre v ((xs.take i).map f)])
    case atStart => exact ⟨0, _, rfl, ⟨Nat.zero_le _, by omega⟩, sub_nil H⟩
    case round =>
      clear H F0
      obtain ⟨i, v, rfl, HI, H⟩ := hrel
      by_cases hi : i < xs.length
      · obtain ⟨g1_, rfl⟩ : ∃ q, gk = q + 1 := ⟨gk - 1, by have := HI.out; omega⟩
        obtain ⟨ad, A2, c2, y, rfl, ⟨-, hy, hm⟩, hx, hl2, hC2⟩ := kid_ HC.out i hi
        have HY := am_ hy
        have HM := am_ (HIH.out y hm)
        have HL2 := am_ hl2
        have HC2 := am_ hC2
        replace hx := And.imp H.old (And.imp H.old H.old) hx
        have p1 : ((0 : Int) ≤ (i : Int)) = True := eq_true (by omega)
        have q1 : ((i : Int) < (xs.length : Int)) = True := eq_true (by omega)
        have HI2 := am_ hi
        clear hy hm hl2 hC2 hi
        go_wp2_with (first | (refine nw_ H 7 zt 29 rfl ?_; intro g5 w1 H; have F4 := H.f3 4) | (refine p3_ H 7 4 rfl ?_; clear F4; intro w1 H; have F2 := H.f3 2; have F4 := H.f3 4))
        refine start_ (n := 9) (S := (fun w' => w'.cell? ⟨g3, 2, none⟩ = some v ∧ w'.cell? ⟨g5, 0, none⟩ = some (.int .i64 y.f0) ∧ w'.cell? ⟨g5, 1, none⟩ = some (.string y.f1) ∧ w'.cell? ⟨g5, 2, none⟩ = some (.slice A2 y.f2.length c2))) (ds := [6, 8]) (bl 9 0) (by kernel_rfl) rfl rfl (⟨F2.2.2.1, F4.1.1, F4.2.1.1, F4.2.2.1⟩) (fun hHeld => ?_); refine with_tabW tabMi bitsM (fun HT_ HW_ => ?_)
        clear F2 F4 hx
        replace H := H.drew
        refine ph_ 0 36 (bl 9 1) HT_ ?_
        refine ph_ 3 39 (bl 9 9) HT_ ?_
        refine th_ 1 37 (bl 9 11) HT_ HW_ hHeld ?_
        refine th_ 2 38 (bl 9 15) HT_ HW_ hHeld ?_
        refine on_ 4 (some 40) (bl 9 31) HT_ (fun K hK => ?_)
        refine gO_ Try.func56 #[tv y A2 c2, .string l] ?_
        refine (HM.out A2 c2 _ (Kd.C_below HC2.out H.bel) HL2.out).mono ?_
        rintro e w2 ⟨v2, rfl, H2⟩
        replace H := H.call H2
        refine ⟨_, rfl, ?_⟩
        refine hK.out _ _ ((sb_ H2.bel hHeld)) (fun hHeld => ?_)
        clear hK K
        refine nm_ 40 ?_
        refine on_ 5 (some 41) (bl 9 63) HT_ (fun K hK => ?_)
        refine value_ (w1 := ?_) (v := ?_) (by rfl) rfl ?_ ?_
        rotate_left 2
        · go_simp
          constructor
          · rfl
          · rfl
        refine hK.out _ _ ((sb_ ba_ hHeld)) (fun hHeld => ?_)
        clear hK K
        refine nm_ 41 ?_
        refine last_ (i := 6) (N := some 42) (bl 9 127) rfl rfl (one_of HT_.out (by kernel_rfl)) (by decide) (fun K hK => ?_)
        refine ap_ H 3 5 (fun A1 n1 c1 w3 H => ?_) ?_
        rotate_left
        · exact Nat.lt_of_le_of_lt (by rw [List.length_map, List.length_take]; exact Nat.min_le_right _ _) (Nat.lt_of_le_of_lt HL.out (by decide))
        refine hK.out _ _ ?_
        clear hK K
        refine nm_ 42 ?_
        refine ph_ 7 43 (bl 9 255) HT_ ?_
        refine last_ (i := 8) (N := none) (bl 9 511) rfl rfl (one_of HT_.out (by kernel_rfl)) (by decide) (fun K hK => ?_)
        have F2 := H.f3 2
        refine s1_ H 2 2 (fun w4 H => ?_)
        refine hK.out _ _ ?_
        clear hK K F2
        refine done_ (done_of HT_.out (by kernel_rfl)) ?_
        clear HT_ HW_ hHeld
        go_wp2
        go_roundg g1_
        case measure => omega
        case rel =>
          have H := H.pre 4
          exact ⟨i + 1, _, by rw [up1 (by have := HL.out; have := HI2.out; omega)], ⟨HI2.out, by have := HI.out; omega⟩, by rw [HY.out, List.map_append]; exact H⟩
      · have e : i = xs.length := by have := HI.out; omega
        subst e
        rw [List.take_length] at H
        have q1 : ((xs.length : Int) < (xs.length : Int)) = False := eq_false (by omega)
        obtain ⟨A3, c3, e3, -, -⟩ := H.tv 3
        rw [List.length_map] at e3
        subst e3
        have F1 := H.f3 1
        have F2 := H.f3 2
        go_wp2_with (refine p3_ H 4 1 rfl ?_; clear F1 F2; intro w1 H)
        refine bodyPost_ret (results_cell_row rfl _ _ g2 29 _ (0, 0) _ rfl (H.blk 1 rfl) hu rfl (by kernel_rfl)) rfl ?_
        exact ⟨_, rfl, H.one 3⟩
end Go.Proofs.Ytldgkgdgcfllmaa
end
