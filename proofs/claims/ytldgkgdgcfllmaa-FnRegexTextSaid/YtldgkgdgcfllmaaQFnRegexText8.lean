/- Texts of the proof of FnRegexText, put together. No condition. -/
import Derived.Test.YtldgkgdgcfllmaaQFnRegexText3
import Derived.Test.YtldgkgdgcfllmaaQFnRegexText5
import Derived.Test.YtldgkgdgcfllmaaQFnRegexText7
import Derived.Shelf.Abstract
import Derived.Lib.Walk
import Derived.Test.YtldgkgdgcfllmaaQFnRegexText4
section
namespace Go.Proofs.Ytldgkgdgcfllmaa.P
open Go.RowKit Go.Proofs.YtldgkgdgcfllmaaW.PrintWords Go.Proofs.YtldgkgdgcfllmaaW.PrintLast Go.Proofs.YtldgkgdgcfllmaaW.PrintMore
attribute [local go_sem] max2_int min2_int max_two min_two max_three min_three max_four min_four
set_option linter.unusedVariables false
set_option linter.unusedSimpArgs false
def impl_FormatRegex.f (k : Nat) (a0_0 : Int) (a0_1 : ByteArray) (l0_2 : List (S29)) : Option (ByteArray) := (impl_IsValidRegex.f k a0_0 a0_1 l0_2).bind fun af => (if af = true then ((impl_regexText.f k a0_0 a0_1 l0_2).bind fun ab => (some ab)) else (some (⟨#[]⟩ : ByteArray)))
theorem impl_FormatRegex.mono : ∀ a0 a1 a2 k, LeO (impl_FormatRegex.f k a0 a1 a2) (impl_FormatRegex.f (k + 1) a0 a1 a2) := by
  intro a0 a1 a2 k
  unfold impl_FormatRegex.f
  repeat' first
      | (with_reducible exact impl_IsValidRegex.mono _ _ _ _)
      | (with_reducible exact impl_regexText.mono _ _ _ _)
      | (with_reducible exact LeO.refl _)
      | (with_reducible exact LeO.none _)
      | (with_reducible refine LeO.ite ?_ ?_)
      | (with_reducible refine LeO.bind ?_ (fun _ => ?_))
      | exact impl_IsValidRegex.mono _ _ _ _
      | exact impl_regexText.mono _ _ _ _
      | exact LeO.none _
      | refine LeO.ite ?_ ?_
      | refine LeO.bind ?_ (fun _ => ?_)
set_option maxHeartbeats 8000000 in
set_option maxRecDepth 100000 in
theorem impl_FormatRegex.calls (k : Nat) (a0_0 : Int) (a0_1 : ByteArray) (A0_2 : Option Addr) (c0_2 : Nat) (l0_2 : List (S29)) (r : ByteArray) (w : World) (hr0_2 : Kd.C k29 w A0_2 l0_2.length l0_2) (hc0_2 : l0_2.length ≤ c0_2) (h : impl_FormatRegex.f k a0_0 a0_1 l0_2 = some r) :
    Calls Try.prog 20 #[.agg #[.int .i64 a0_0, .string a0_1, .slice A0_2 l0_2.length c0_2]] w fun e w' => e = .returned (.string r) ∧ Below w.heap.size w w' := by
  have hu29 := Try.underlying29
  have ag := am_ hr0_2
  have ah := am_ hc0_2
  clear hr0_2 hc0_2
  have HB := am_ (Below.refl w.heap.size w)
  have H : ((impl_IsValidRegex.f k a0_0 a0_1 l0_2).bind fun af => (if af = true then ((impl_regexText.f k a0_0 a0_1 l0_2).bind fun ab => (some ab)) else (some (⟨#[]⟩ : ByteArray)))) = some r := h
  clear h
  replace H := Option.bind_eq_some_iff.mp H
  obtain ⟨af, A20, H⟩ := H
  have A2 := am_ A20
  clear A20
  by_cases c3 : af = true
  · subst c3
    have H1 : ((impl_regexText.f k a0_0 a0_1 l0_2).bind fun ab => (some ab)) = some r := by rw [if_pos rfl] at H; exact H
    clear H
    have H := H1
    clear H1
    replace H := Option.bind_eq_some_iff.mp H
    obtain ⟨ab, A40, H⟩ := H
    replace H : (some ab) = some r := H
    have A4 := am_ A40
    clear A40
    obtain rfl := Option.some.inj H
    simp only [Option.some.injEq, Prod.mk.injEq] at H
    obtain ⟨rfl⟩ := H
    go_enter Try.func20, Try.ntmps20
    go_wp2_with (first | ((with_reducible refine gate_dst (N := 1) rfl ?_); refine box_event ?hg (N := 1) ?hd (cs := #[.int .i64 a0_0, .string a0_1, .slice A0_2 l0_2.length c0_2]) (t := 29) ?hr ?_; (case hd => rfl); (case hg => rfl); (case hr => first | (go_simp; done) | (go_simp; rfl)); intro ae hg w5 hbox hb; replace aa := am_ (hbox); replace ai := am_ ((by rw [hg]; exact (below_size (b0_ HB.out)) : w.heap.size ≤ ae)); replace ad := am_ ((by rw [hg]; exact (below_size (b0_ HB.out)) : w.heap.size ≤ ae)); replace HB := am_ (below_step (b0_ HB.out) hb); clear hb hbox hg; have ap := ck_ (v := (.int .i64 a0_0)) aa 0 rfl; have aq := ck_ (v := (.string a0_1)) aa 1 rfl; have ar := ck_ (v := (.slice A0_2 l0_2.length c0_2)) aa 2 rfl; have au := blk_frozen aa.out 0; have av := blk_frozen aa.out 1; have aw := blk_frozen aa.out 2) | ((with_reducible refine gate_callee (f := 18) rfl ?_); refine gL_ (some 4) Try.func18 #[.agg #[.int .i64 a0_0, .string a0_1, .slice A0_2 l0_2.length c0_2]] ?_; (with_reducible refine (impl_IsValidRegex.calls k a0_0 a0_1 _ _ l0_2 true _ ?side1 ?side2 A2.out).mono ?_); (case side1 => exact rc_ (Kd.C_below ag.out HB.out)); (case side2 => exact ah.out); rintro e w7 ⟨rfl, hb⟩; refine ⟨_, rfl, ?_⟩; have n0_ := am_ (blk_below (rb_ aa.out) hb); have n1_ := am_ (below_step (b1_ HB.out ad.out) hb); clear aa; clear HB; have aa := n0_; have HB := n1_; clear n0_ n1_; (try clear hb); (try clear hb2); (try clear hk); (try clear hi); have ax := ck_ (v := (.int .i64 a0_0)) aa 0 rfl; have ay := ck_ (v := (.string a0_1)) aa 1 rfl; have az := ck_ (v := (.slice A0_2 l0_2.length c0_2)) aa 2 rfl; have aA := blk_frozen aa.out 0; have aB := blk_frozen aa.out 1; have aC := blk_frozen aa.out 2) | ((with_reducible refine gate_callee (f := 46) rfl ?_); refine gL_ (some 7) Try.func46 #[.agg #[.int .i64 a0_0, .string a0_1, .slice A0_2 l0_2.length c0_2]] ?_; (with_reducible refine (impl_regexText.calls k a0_0 a0_1 _ _ l0_2 ab _ ?side1 ?side2 A4.out).mono ?_); (case side1 => exact rc_ (Kd.C_below ag.out HB.out)); (case side2 => exact ah.out); rintro e w9 ⟨rfl, hb⟩; refine ⟨_, rfl, ?_⟩; have n0_ := am_ (blk_below (rb_ aa.out) hb); have n1_ := am_ (below_step (b1_ HB.out ad.out) hb); clear aa; clear HB; have aa := n0_; have HB := n1_; clear n0_ n1_; (try clear hb); (try clear hb2); (try clear hk); (try clear hi)))
    go_ret
    exact ⟨by first | rfl | (simp [errW_none, errW_some] <;> rfl) | (simp [*, errW_none, errW_some] <;> rfl), by repeat (first | (with_reducible first | exact HB.out | apply below_alloc | apply pw_below_drewN | apply below_drew1 | refine below_set ?_ ad.out) | exact HB.out)⟩
  · replace c3 := Bool.eq_false_iff.mpr c3
    subst c3
    have H1 : (some (⟨#[]⟩ : ByteArray)) = some r := by rw [if_neg (show ¬ (false = true) by decide)] at H; exact H
    clear H
    have H := H1
    clear H1
    obtain rfl := Option.some.inj H
    simp only [Option.some.injEq, Prod.mk.injEq] at H
    obtain ⟨rfl⟩ := H
    go_enter Try.func20, Try.ntmps20
    go_wp2_with (first | ((with_reducible refine gate_dst (N := 1) rfl ?_); refine box_event ?hg (N := 1) ?hd (cs := #[.int .i64 a0_0, .string a0_1, .slice A0_2 l0_2.length c0_2]) (t := 29) ?hr ?_; (case hd => rfl); (case hg => rfl); (case hr => first | (go_simp; done) | (go_simp; rfl)); intro ae hg w10 hbox hb; replace aa := am_ (hbox); replace ai := am_ ((by rw [hg]; exact (below_size (b0_ HB.out)) : w.heap.size ≤ ae)); replace ad := am_ ((by rw [hg]; exact (below_size (b0_ HB.out)) : w.heap.size ≤ ae)); replace HB := am_ (below_step (b0_ HB.out) hb); clear hb hbox hg; have aj := ck_ (v := (.int .i64 a0_0)) aa 0 rfl; have ak := ck_ (v := (.string a0_1)) aa 1 rfl; have al := ck_ (v := (.slice A0_2 l0_2.length c0_2)) aa 2 rfl; have am := blk_frozen aa.out 0; have an := blk_frozen aa.out 1; have ao := blk_frozen aa.out 2) | ((with_reducible refine gate_callee (f := 18) rfl ?_); refine gL_ (some 4) Try.func18 #[.agg #[.int .i64 a0_0, .string a0_1, .slice A0_2 l0_2.length c0_2]] ?_; (with_reducible refine (impl_IsValidRegex.calls k a0_0 a0_1 _ _ l0_2 false _ ?side1 ?side2 A2.out).mono ?_); (case side1 => exact rc_ (Kd.C_below ag.out HB.out)); (case side2 => exact ah.out); rintro e w12 ⟨rfl, hb⟩; refine ⟨_, rfl, ?_⟩; have n0_ := am_ (blk_below (rb_ aa.out) hb); have n1_ := am_ (below_step (b1_ HB.out ad.out) hb); clear aa; clear HB; have aa := n0_; have HB := n1_; clear n0_ n1_; (try clear hb); (try clear hb2); (try clear hk); (try clear hi)))
    go_ret
    exact ⟨by first | rfl | (simp [errW_none, errW_some] <;> rfl) | (simp [*, errW_none, errW_some] <;> rfl), by repeat (first | (with_reducible first | exact HB.out | apply below_alloc | apply pw_below_drewN | apply below_drew1 | refine below_set ?_ ad.out) | exact HB.out)⟩
end Go.Proofs.Ytldgkgdgcfllmaa.P
end
section
namespace Go.Proofs.Ytldgkgdgcfllmaa
open Go.RowKit Go.Shelf Go.Proofs.Ytldgkgdgcfllmaa.P Go.Proofs.YtldgkgdgcfllmaaW.PrintWords Go.Proofs.YtldgkgdgcfllmaaW.PrintLast Go.Proofs.YtldgkgdgcfllmaaW.PrintMore
set_option linter.unusedVariables false
structure Pc where
  P : World → List Nat → Prop
  mv : ∀ {w w' : World} {fp : List Nat}, P w fp → (∀ k ∈ fp, w'.heap[k]? = w.heap[k]?) → P w' fp
  lt : ∀ {w : World} {fp : List Nat}, P w fp → ∀ k ∈ fp, k < w.heap.size
def SlF (w : World) : List Pc → List Nat → Prop
  | [], fp => fp = []
  | p :: ps, fp => ∃ f1 f2, fp = f1 ++ f2 ∧ p.P w f1 ∧ SlF w ps f2
structure Sl (w0 w : World) (ps : List Pc) : Prop where
  bel : Below w0.heap.size w0 w
  own : ∃ fp, SlF w ps fp ∧ fp.Nodup ∧ ∀ k ∈ fp, w0.heap.size ≤ k
section
variable {w0 w w' w1 : World} {ps qs : List Pc} {p q : Pc} {fp : List Nat} {i j : Nat}
theorem SlF.mv : ∀ {ps : List Pc} {fp : List Nat}, SlF w ps fp → (∀ k ∈ fp, w'.heap[k]? = w.heap[k]?) → SlF w' ps fp
  | [], _, h, _ => h
  | p :: ps, _, ⟨f1, f2, e, h1, h2⟩, hm => ⟨f1, f2, e, p.mv h1 (fun k hk => hm k (by rw [e]; exact List.mem_append_left _ hk)), SlF.mv h2 (fun k hk => hm k (by rw [e]; exact List.mem_append_right _ hk))⟩
theorem SlF.lt : ∀ {ps : List Pc} {fp : List Nat}, SlF w ps fp → ∀ k ∈ fp, k < w.heap.size
  | [], _, h, k, hk => by rw [h] at hk; cases hk
  | p :: ps, _, ⟨f1, f2, e, h1, h2⟩, k, hk => by
    rw [e] at hk
    rcases List.mem_append.1 hk with hk | hk
    · exact p.lt h1 k hk
    · exact SlF.lt h2 k hk
theorem SlF.app : ∀ {ps : List Pc} {f g : List Nat}, SlF w ps f → SlF w qs g → SlF w (ps ++ qs) (f ++ g)
  | [], _, _, h, h2 => by rw [h]; exact h2
  | p :: ps, _, g, ⟨f1, f2, e, h1, h2⟩, h3 => ⟨f1, f2 ++ g, by rw [e, List.append_assoc], h1, SlF.app h2 h3⟩
theorem SlF.take : ∀ {ps : List Pc} {f : List Nat} (n : Nat), SlF w ps f → ∃ g, SlF w (ps.take n) g ∧ List.Sublist g f
  | ps, f, 0, h => ⟨[], rfl, List.nil_sublist _⟩
  | [], _, n + 1, h => ⟨[], rfl, List.nil_sublist _⟩
  | p :: ps, _, n + 1, ⟨f1, f2, e, h1, h2⟩ => by
    obtain ⟨g, h3, h4⟩ := SlF.take n h2
    exact ⟨f1 ++ g, ⟨f1, g, rfl, h1, h3⟩, by rw [e]; exact List.Sublist.append_left h4 _⟩
theorem SlF.at_ : ∀ {ps : List Pc} {i : Nat} {fp : List Nat}, SlF w ps fp → ps[i]? = some p →
    ∃ f fr, p.P w f ∧ fp.Perm (f ++ fr) ∧ ∀ (w' : World) (q : Pc) (f' : List Nat), (∀ k ∈ fr, w'.heap[k]? = w.heap[k]?) → q.P w' f' → ∃ fp', SlF w' (ps.set i q) fp' ∧ fp'.Perm (f' ++ fr)
  | [], i, _, _, h => by cases i <;> cases h
  | r :: ps, 0, _, ⟨f1, f2, e, h1, h2⟩, h => by
    obtain rfl := Option.some.inj h
    exact ⟨f1, f2, h1, by rw [e], fun w' q f' hk hq => ⟨f' ++ f2, ⟨f', f2, rfl, hq, SlF.mv h2 hk⟩, List.Perm.refl _⟩⟩
  | r :: ps, i + 1, _, ⟨f1, f2, e, h1, h2⟩, h => by
    obtain ⟨f, fr, h3, h4, h5⟩ := SlF.at_ h2 (by simpa using h)
    refine ⟨f, f1 ++ fr, h3, ?_, fun w' q f' hk hq => ?_⟩
    · rw [e]
      exact (List.Perm.append_left f1 h4).trans (by rw [← List.append_assoc, ← List.append_assoc]; exact List.Perm.append_right fr List.perm_append_comm)
    · obtain ⟨g, h6, h7⟩ := h5 w' q f' (fun k hk' => hk k (List.mem_append_right _ hk')) hq
      refine ⟨f1 ++ g, ⟨f1, g, rfl, r.mv h1 (fun k hk' => hk k (List.mem_append_left _ hk')), h6⟩, ?_⟩
      exact (List.Perm.append_left f1 h7).trans (by rw [← List.append_assoc, ← List.append_assoc]; exact List.Perm.append_right fr List.perm_append_comm)
theorem Sl.start (w : World) : Sl w w [] := ⟨Below.refl _ _, [], rfl, List.nodup_nil, fun k hk => by cases hk⟩
theorem Sl.only (H : Sl w0 w ps) (hb : Below w.heap.size w w') : Sl w0 w' ps := by
  obtain ⟨fp, h1, h2, h3⟩ := H.own
  exact ⟨below_then H.bel H.bel.size hb, fp, SlF.mv h1 (fun k hk => hb.block k (SlF.lt h1 k hk)), h2, h3⟩
theorem Sl.drew (H : Sl w0 w ps) : Sl w0 w.drew ps := H.only (below_drew1 (Below.refl _ _))
theorem Sl.call (H : Sl w0 w ps) (K : Sl w w' qs) : Sl w0 w' (ps ++ qs) := by
  obtain ⟨fp, h1, h2, h3⟩ := H.own
  obtain ⟨gp, g1, g2, g3⟩ := K.own
  refine ⟨below_then H.bel H.bel.size K.bel, fp ++ gp, SlF.app (SlF.mv h1 (fun k hk => K.bel.block k (SlF.lt h1 k hk))) g1, List.nodup_append.2 ⟨h2, g2, fun a ha b hb e => ?_⟩, fun k hk => ?_⟩
  · have := SlF.lt h1 a ha
    have := g3 b hb
    omega
  · rcases List.mem_append.1 hk with hk | hk
    · exact h3 k hk
    · exact Nat.le_trans H.bel.size (g3 k hk)
theorem Sl.pre (H : Sl w0 w ps) (n : Nat) : Sl w0 w (ps.take n) := by
  obtain ⟨fp, h1, h2, h3⟩ := H.own
  obtain ⟨g, h4, h5⟩ := SlF.take n h1
  exact ⟨H.bel, g, h4, h2.sublist h5, fun k hk => h3 k (h5.subset hk)⟩
theorem Sl.opn (H : Sl w0 w ps) (i : Nat) (hi : ps[i]? = some p) : ∃ f, p.P w f ∧ f.Nodup ∧ (∀ k ∈ f, w0.heap.size ≤ k) ∧ ∀ (w' : World) (q : Pc) (f' : List Nat), Below w0.heap.size w0 w' → q.P w' f' → f'.Nodup → (∀ k ∈ f', k ∈ f ∨ w.heap.size ≤ k) → (∀ k, k < w.heap.size → k ∉ f → w'.heap[k]? = w.heap[k]?) → Sl w0 w' (ps.set i q) := by
  obtain ⟨fp, h1, h2, h3⟩ := H.own
  obtain ⟨f, fr, h4, h5, h6⟩ := SlF.at_ h1 hi
  have hn := (List.Perm.nodup_iff h5).1 h2
  obtain ⟨n1, n2, n3⟩ := List.nodup_append.1 hn
  have hlt : ∀ k ∈ fr, k < w.heap.size := fun k hk => SlF.lt h1 k (h5.mem_iff.2 (List.mem_append_right _ hk))
  refine ⟨f, h4, n1, fun k hk => h3 k (h5.mem_iff.2 (List.mem_append_left _ hk)), fun w' q f' hb hq hd hf hk => ?_⟩
  obtain ⟨gp, g1, g2⟩ := h6 w' q f' (fun k hkr => hk k (hlt k hkr) (fun hkf => n3 k hkf k hkr rfl)) hq
  refine ⟨hb, gp, g1, (List.Perm.nodup_iff g2).2 (List.nodup_append.2 ⟨hd, n2, fun a ha b hb' e => ?_⟩), fun k hk' => ?_⟩
  · subst e
    rcases hf a ha with hf | hf
    · exact n3 a hf a hb' rfl
    · exact absurd (hlt a hb') (by omega)
  · rcases List.mem_append.1 (g2.mem_iff.1 hk') with hk' | hk'
    · rcases hf k hk' with hf | hf
      · exact h3 k (h5.mem_iff.2 (List.mem_append_left _ hf))
      · exact Nat.le_trans H.bel.size hf
    · exact h3 k (h5.mem_iff.2 (List.mem_append_right _ hk'))
theorem Sl.upd (H : Sl w0 w ps) (i : Nat) (hi : ps[i]? = some p) (hb : Below w0.heap.size w0 w')
    (h : ∀ f, p.P w f → f.Nodup → (∀ k ∈ f, w0.heap.size ≤ k) → ∃ f', q.P w' f' ∧ f'.Nodup ∧ (∀ k ∈ f', k ∈ f ∨ w.heap.size ≤ k) ∧ ∀ k, k < w.heap.size → k ∉ f → w'.heap[k]? = w.heap[k]?) : Sl w0 w' (ps.set i q) := by
  obtain ⟨f, h1, h2, h3, h4⟩ := H.opn i hi
  obtain ⟨f', k1, k2, k3, k4⟩ := h f h1 h2 h3
  exact h4 w' q f' hb k1 k2 k3 k4
def emp : Pc := ⟨fun _ fp => fp = [], fun h _ => h, fun h k hk => by rw [h] at hk; cases hk⟩
def both (p q : Pc) : Pc := ⟨fun w fp => ∃ f1 f2, fp = f1 ++ f2 ∧ p.P w f1 ∧ q.P w f2,
  fun ⟨f1, f2, e, h1, h2⟩ hm => ⟨f1, f2, e, p.mv h1 (fun k hk => hm k (by rw [e]; exact List.mem_append_left _ hk)), q.mv h2 (fun k hk => hm k (by rw [e]; exact List.mem_append_right _ hk))⟩,
  fun ⟨f1, f2, e, h1, h2⟩ k hk => by
    rw [e] at hk
    rcases List.mem_append.1 hk with hk | hk
    · exact p.lt h1 k hk
    · exact q.lt h2 k hk⟩
theorem Sl.join (H : Sl w0 w ps) (i j : Nat) (hi : ps[i]? = some p) (hj : ps[j]? = some q) (hne : i ≠ j) : Sl w0 w ((ps.set i (both p q)).set j emp) := by
  obtain ⟨fp, h1, h2, h3⟩ := H.own
  obtain ⟨f, fr, h4, h5, h6⟩ := SlF.at_ h1 hj
  obtain ⟨gp, g1, g2⟩ := h6 w emp [] (fun _ _ => rfl) rfl
  obtain ⟨f', fr', k4, k5, k6⟩ := SlF.at_ (i := i) (p := p) g1 (by rw [List.getElem?_set_ne (Ne.symm hne)]; exact hi)
  obtain ⟨hp, l1, l2⟩ := k6 w (both p q) (f' ++ f) (fun _ _ => rfl) ⟨f', f, rfl, k4, h4⟩
  have hperm : hp.Perm fp := by
    have e1 : hp.Perm (f ++ (f' ++ fr')) := l2.trans (by rw [← List.append_assoc]; exact List.Perm.append_right _ List.perm_append_comm)
    refine e1.trans ((List.Perm.append_left f ?_).trans h5.symm)
    exact (k5.symm).trans (by simpa using g2)
  rw [List.set_comm _ _ (Ne.symm hne)] at l1
  exact ⟨H.bel, hp, l1, (List.Perm.nodup_iff hperm).2 h2, fun k hk => h3 k (hperm.mem_iff.1 hk)⟩
theorem Sl.get (H : Sl w0 w ps) (i : Nat) (hi : ps[i]? = some p) : ∃ f, p.P w f ∧ f.Nodup ∧ ∀ k ∈ f, w0.heap.size ≤ k := by
  obtain ⟨fp, h1, h2, h3⟩ := H.own
  obtain ⟨f, fr, h4, h5, _⟩ := SlF.at_ h1 hi
  exact ⟨f, h4, (List.nodup_append.1 ((List.Perm.nodup_iff h5).1 h2)).1, fun k hk => h3 k (h5.mem_iff.2 (List.mem_append_left _ hk))⟩
theorem Sl.drop (H : Sl w0 w ps) (i : Nat) (hi : ps[i]? = some p) : Sl w0 w (ps.set i emp) :=
  H.upd i hi H.bel (fun f hp hn _ => ⟨[], rfl, List.nodup_nil, (fun k hk => by cases hk), fun _ _ _ => rfl⟩)
theorem Sl.one (H : Sl w0 w ps) (i : Nat) (hi : ps[i]? = some p := by rfl) : Sl w0 w [p] := by
  obtain ⟨f, h1, h2, h3⟩ := H.get i hi
  exact ⟨H.bel, f ++ [], ⟨f, [], rfl, h1, rfl⟩, by simpa using h2, by simpa using h3⟩
theorem SlF.sel : ∀ (is : List Nat) {ps : List Pc} {fp : List Nat}, is.Nodup → SlF w ps fp → fp.Nodup → ∃ g, SlF w (is.map (fun i => ps.getD i emp)) g ∧ g.Nodup ∧ ∀ k ∈ g, k ∈ fp
  | [], _, _, _, _, _ => ⟨[], rfl, List.nodup_nil, fun k hk => by cases hk⟩
  | i :: is, ps, fp, hn, h, hd => by
    obtain ⟨h1, h2⟩ := List.nodup_cons.1 hn
    by_cases hi : i < ps.length
    · obtain ⟨f, fr, h3, h4, h5⟩ := SlF.at_ h (List.getElem?_eq_getElem hi)
      obtain ⟨fp', h6, h7⟩ := h5 w emp [] (fun _ _ => rfl) rfl
      obtain ⟨n1, n2, n3⟩ := List.nodup_append.1 ((List.Perm.nodup_iff h4).1 hd)
      obtain ⟨g, h8, h9, h10⟩ := SlF.sel is h2 h6 ((List.Perm.nodup_iff h7).2 (by simpa using n2))
      have hg : ∀ k ∈ g, k ∈ fr := fun k hk => by simpa using h7.mem_iff.1 (h10 k hk)
      refine ⟨f ++ g, ⟨f, g, rfl, ?_, ?_⟩, List.nodup_append.2 ⟨n1, h9, fun a ha b hb => n3 a ha b (hg b hb)⟩, fun k hk => h4.mem_iff.2 ?_⟩
      · show (ps.getD i emp).P w f
        rw [List.getD_eq_getElem?_getD, List.getElem?_eq_getElem hi]
        exact h3
      · have e : List.map (fun j => (ps.set i emp).getD j emp) is = List.map (fun j => ps.getD j emp) is := List.map_congr_left (fun j hj => by
          have hne : i ≠ j := fun e => h1 (by rw [e]; exact hj)
          rw [List.getD_eq_getElem?_getD, List.getD_eq_getElem?_getD, List.getElem?_set_ne hne])
        show SlF w (List.map (fun j => ps.getD j emp) is) g
        rw [← e]
        exact h8
      · rcases List.mem_append.1 hk with hk | hk
        · exact List.mem_append_left _ hk
        · exact List.mem_append_right _ (hg k hk)
    · obtain ⟨g, h8, h9, h10⟩ := SlF.sel is h2 h hd
      refine ⟨[] ++ g, ⟨[], g, rfl, ?_, h8⟩, h9, h10⟩
      show (ps.getD i emp).P w []
      rw [List.getD_eq_getElem?_getD, List.getElem?_eq_none (by omega)]
      rfl
theorem Sl.sel (H : Sl w0 w ps) (is : List Nat) (hn : is.Nodup := by decide) : Sl w0 w (is.map (fun i => ps.getD i emp)) := by
  obtain ⟨fp, h1, h2, h3⟩ := H.own
  obtain ⟨g, h4, h5, h6⟩ := SlF.sel is hn h1 h2
  exact ⟨H.bel, g, h4, h5, fun k hk => h3 k (h6 k hk)⟩
def bx (g : Nat) (cs : Array Value) (t : TypeId) : Pc := ⟨fun w fp => fp = [g] ∧ w.heap[g]? = some (.cells cs t (0, 0)), fun ⟨e, h⟩ hm => ⟨e, (hm g (by rw [e]; exact List.mem_singleton.2 rfl)).trans h⟩, fun ⟨e, h⟩ k hk => by
  rw [e] at hk
  rw [List.mem_singleton.1 hk]
  exact blk_lt h⟩
theorem Sl.blk (H : Sl w0 w ps) (i : Nat) {g : Nat} {cs : Array Value} {t : TypeId} (hi : ps[i]? = some (bx g cs t)) : w.heap[g]? = some (.cells cs t (0, 0)) := by
  obtain ⟨f, ⟨_, h⟩, _⟩ := H.get i hi
  exact h
theorem Sl.new (H : Sl w0 w ps) (cs : Array Value) (t : TypeId) : Sl w0 (w.alloc (.cells cs t (0, 0))) (ps ++ [bx w.heap.size cs t]) :=
  H.call ⟨below_alloc (Below.refl _ _) _, [w.heap.size], ⟨[w.heap.size], [], by simp, ⟨rfl, blk_new _ _⟩, rfl⟩, by simp, by simp⟩
theorem Sl.put (H : Sl w0 w ps) (i : Nat) {g : Nat} {cs : Array Value} {t : TypeId} (hi : ps[i]? = some (bx g cs t)) (j : Nat) (u : Value) : Sl w0 (w.setCell ⟨g, j, none⟩ u) (ps.set i (bx g (cs.setIfInBounds j u) t)) := by
  obtain ⟨f, ⟨e, h⟩, _, hg⟩ := H.get i hi
  refine H.upd i hi (below_set H.bel (hg g (by rw [e]; exact List.mem_singleton.2 rfl))) (fun f hp hn _ => ⟨[g], ⟨rfl, blk_set h j u⟩, by simp, fun k hk => Or.inl (by rw [hp.1]; exact hk), fun k _ hk => Below.heap_setCell w ⟨g, j, none⟩ u k (fun e => hk (by rw [hp.1, e]; exact List.mem_singleton.2 rfl))⟩)
theorem Sl.f1 (H : Sl w0 w ps) (i : Nat) {g : Nat} {x : Value} {t : TypeId} (hi : ps[i]? = some (bx g #[x] t) := by rfl) : w.cell? ⟨g, 0, none⟩ = some x ∧ w.frozen? ⟨g, 0, none⟩ = false := by
  have h := H.blk i hi
  exact ⟨blk_cell h 0, blk_frozen h 0⟩
theorem Sl.f2 (H : Sl w0 w ps) (i : Nat) {g : Nat} {x y : Value} {t : TypeId} (hi : ps[i]? = some (bx g #[x, y] t) := by rfl) : (w.cell? ⟨g, 0, none⟩ = some x ∧ w.frozen? ⟨g, 0, none⟩ = false) ∧ w.cell? ⟨g, 1, none⟩ = some y ∧ w.frozen? ⟨g, 1, none⟩ = false := by
  have h := H.blk i hi
  exact ⟨⟨blk_cell h 0, blk_frozen h 0⟩, blk_cell h 1, blk_frozen h 1⟩
theorem Sl.f3 (H : Sl w0 w ps) (i : Nat) {g : Nat} {x y z : Value} {t : TypeId} (hi : ps[i]? = some (bx g #[x, y, z] t) := by rfl) : (w.cell? ⟨g, 0, none⟩ = some x ∧ w.frozen? ⟨g, 0, none⟩ = false) ∧ (w.cell? ⟨g, 1, none⟩ = some y ∧ w.frozen? ⟨g, 1, none⟩ = false) ∧ w.cell? ⟨g, 2, none⟩ = some z ∧ w.frozen? ⟨g, 2, none⟩ = false := by
  have h := H.blk i hi
  exact ⟨⟨blk_cell h 0, blk_frozen h 0⟩, ⟨blk_cell h 1, blk_frozen h 1⟩, blk_cell h 2, blk_frozen h 2⟩
theorem ba_ {w : World} {o : Obj} : Below w.heap.size w (w.alloc o) := below_alloc (Below.refl _ _) o
end
section
variable {P : Program} {ops : Array Oper} {rest : List Oper} {o : Oper} {a : Act} {Q : Exit → Act → World → Prop} {Kc : Act → World → Prop} {w0 W : World} {ps : List Pc}
theorem nw_ (H : Sl w0 W ps) (N : Tmp) (cs : Array Value) (t : TypeId) (hd : o.dst = some N)
    (h : ∀ g w1, Sl w0 w1 (ps ++ [bx g cs t]) → wpList P ops Q rest (a.put o.dst (.pointer (some ⟨g, 0, none⟩))) w1) (hgd : o.guard = none := by rfl)
    (hrun : (execOp a.eval o).run P W = .ok (.value (.pointer (some ⟨W.heap.size, 0, none⟩))) (W.alloc (.cells cs t (0, 0))) := by first | (go_simp; done) | (go_simp; rfl)) : wpList P ops Q (o :: rest) a W :=
  Kd.event_run hgd hrun (h _ _ (H.new cs t))
theorem Sl.put3 (H : Sl w0 W ps) (i : Nat) {g : Nat} {x y z : Value} {t : TypeId} (x' y' z' : Value) (hi : ps[i]? = some (bx g #[x, y, z] t) := by rfl) : Sl w0 (((W.setCell ⟨g, 0, none⟩ x').setCell ⟨g, 1, none⟩ y').setCell ⟨g, 2, none⟩ z') (ps.set i (bx g #[x', y', z'] t)) := by
  have hl := (List.getElem?_eq_some_iff.1 hi).1
  have h1 := H.put i hi 0 x'
  have h2 := h1.put i (by rw [List.getElem?_set_self hl]) 1 y'
  have h3 := h2.put i (by rw [List.getElem?_set_self (by rw [List.length_set]; exact hl)]) 2 z'
  rw [List.set_set, List.set_set] at h3
  exact h3
theorem p3_ (H : Sl w0 W ps) (p : Tmp) (i : Nat) {g : Nat} {x y z x' y' z' : Value} {t t' : TypeId} {q : Operand} (ho : o.op = .store t' (.tmp p) q)
    (h : ∀ w1, Sl w0 w1 (ps.set i (bx g #[x', y', z'] t)) → wpList P ops Q rest a w1) (hi : ps[i]? = some (bx g #[x, y, z] t) := by rfl)
    (hrun : (execOp a.eval o).run P W = .ok .skip (((W.setCell ⟨g, 0, none⟩ x').setCell ⟨g, 1, none⟩ y').setCell ⟨g, 2, none⟩ z') := by first | (go_simp; done) | (go_simp; rfl)) (hgd : o.guard = none := by rfl) (hN : o.dst = none := by rfl) : wpList P ops Q (o :: rest) a W := by
  refine wpList_plain hgd fun K hK => ?_
  unfold Oper.wp
  rw [hrun]
  show K (a.put o.dst undef) _
  rw [hN]
  exact hK _ _ (h _ (H.put3 i x' y' z' hi))
theorem s3_ (H : Sl w0 W ps) (i : Nat) {g : Nat} {x y z x' y' z' : Value} {t : TypeId} (h : ∀ w1, Sl w0 w1 (ps.set i (bx g #[x', y', z'] t)) → Kc a w1) (hi : ps[i]? = some (bx g #[x, y, z] t) := by rfl)
    (hrun : (execOp a.eval o).run P W = .ok .skip (((W.setCell ⟨g, 0, none⟩ x').setCell ⟨g, 1, none⟩ y').setCell ⟨g, 2, none⟩ z') := by first | (go_simp; done) | (go_simp; rfl)) (hw : Region.wanted o (yielded ops a.tmps) = true := by rfl) (hN : o.dst = none := by rfl) : if Region.wanted o (yielded ops a.tmps) = true then Oper.wp P o a W Kc Q else Kc (a.put none undef) W :=
  skip_ hw hN hrun (h _ (H.put3 i x' y' z' hi))
theorem p1_ (H : Sl w0 W ps) (p : Tmp) (i j : Nat) {g : Nat} {cs : Array Value} {x' : Value} {t t' : TypeId} {q : Operand} (ho : o.op = .store t' (.tmp p) q)
    (h : ∀ w1, Sl w0 w1 (ps.set i (bx g (cs.setIfInBounds j x') t)) → wpList P ops Q rest a w1) (hi : ps[i]? = some (bx g cs t) := by rfl)
    (hrun : (execOp a.eval o).run P W = .ok .skip (W.setCell ⟨g, j, none⟩ x') := by first | (go_simp; done) | (go_simp; rfl)) (hgd : o.guard = none := by rfl) (hN : o.dst = none := by rfl) : wpList P ops Q (o :: rest) a W := by
  refine wpList_plain hgd fun K hK => ?_
  unfold Oper.wp
  rw [hrun]
  show K (a.put o.dst undef) _
  rw [hN]
  exact hK _ _ (h _ (H.put i hi j x'))
end
end Go.Proofs.Ytldgkgdgcfllmaa
end
section
namespace Go.Proofs.Ytldgkgdgcfllmaa.Rg
open Go.RowKit Go.Proofs.Ytldgkgdgcfllmaa.P Go.Proofs.Ytldgkgdgcfllmaa.Pl Go.Proofs.YtldgkgdgcfllmaaW.PrintWords Go.Proofs.YtldgkgdgcfllmaaW.PrintLast Go.Proofs.YtldgkgdgcfllmaaW.PrintMore
set_option linter.unusedVariables false
set_option linter.unusedSimpArgs false
abbrev Tr := S29
inductive Rx where
  | none | empty | letter (c : ByteArray) | any
  | cat (x y : Rx) | or (x y : Rx) | and (x y : Rx) | star (x : Rx) | not (x : Rx)
inductive Ax : Tr → Rx → Prop
  | none (l : ByteArray) : Ax ⟨1, l, []⟩ .none
  | empty (l : ByteArray) : Ax ⟨2, l, []⟩ .empty
  | letter (l : ByteArray) : Ax ⟨3, l, []⟩ (.letter l)
  | any (l : ByteArray) : Ax ⟨4, l, []⟩ .any
  | cat (l : ByteArray) {a b : Tr} {x y : Rx} : Ax a x → Ax b y → Ax ⟨5, l, [a, b]⟩ (.cat x y)
  | or (l : ByteArray) {a b : Tr} {x y : Rx} : Ax a x → Ax b y → Ax ⟨6, l, [a, b]⟩ (.or x y)
  | and (l : ByteArray) {a b : Tr} {x y : Rx} : Ax a x → Ax b y → Ax ⟨7, l, [a, b]⟩ (.and x y)
  | star (l : ByteArray) {a : Tr} {x : Rx} : Ax a x → Ax ⟨8, l, [a]⟩ (.star x)
  | not (l : ByteArray) {a : Tr} {x : Rx} : Ax a x → Ax ⟨9, l, [a]⟩ (.not x)
def sz : Rx → Nat
  | .cat x y => 1 + sz x + sz y
  | .or x y => 1 + sz x + sz y
  | .and x y => 1 + sz x + sz y
  | .star x => 1 + sz x
  | .not x => 1 + sz x
  | _ => 1
def sub (l : List Int) (i j : Nat) : List Int := (l.take j).drop i
theorem sub_len {l : List Int} {i j : Nat} (h : j ≤ l.length) : (sub l i j).length = j - i := by
  unfold sub
  rw [List.length_drop, List.length_take]
  omega
theorem sub_nil {l : List Int} {i j : Nat} (h : j ≤ l.length) (hi : i ≤ j) : sub l i j = [] ↔ i = j := by
  rw [← List.length_eq_zero_iff, sub_len h]
  omega
end Go.Proofs.Ytldgkgdgcfllmaa.Rg
end
section
namespace Go.Proofs.Ytldgkgdgcfllmaa
open Go.RowKit Go.Shelf Go.Proofs.Ytldgkgdgcfllmaa.P Go.Proofs.Ytldgkgdgcfllmaa.Rg Go.Proofs.YtldgkgdgcfllmaaW.PrintWords Go.Proofs.YtldgkgdgcfllmaaW.PrintLast Go.Proofs.YtldgkgdgcfllmaaW.PrintMore
set_option linter.unusedVariables false
mutual
inductive Own (w : World) : Value → List Tr → List Nat → Prop
  | mk {v : Value} {ts : List Tr} {fs : List Nat} {cs : List Value} : OwnL w cs ts fs → w.ownsRow 0 29 3 v ts.length cs → Own w v ts (v.ownBlock.toList ++ fs)
inductive OwnL (w : World) : List Value → List Tr → List Nat → Prop
  | nil : OwnL w [] [] []
  | cons {t : Tr} {v : Value} {f1 : List Nat} {cs : List Value} {ts : List Tr} {f2 : List Nat} : Own w v t.f2 f1 → OwnL w cs ts f2 → OwnL w (.int .i64 t.f0 :: .string t.f1 :: v :: cs) (t :: ts) (f1 ++ f2)
end
section
variable {w w' : World}
mutual
theorem Own.mv : ∀ {v : Value} {ts : List Tr} {fp : List Nat}, Own w v ts fp → (∀ k ∈ fp, w'.heap[k]? = w.heap[k]?) → Own w' v ts fp
  | _, _, _, .mk h ho, hm => .mk (OwnL.mv h (fun k hk => hm k (List.mem_append_right _ hk))) (own_move ho (fun k hk => hm k (List.mem_append_left _ (by rw [hk]; exact List.mem_singleton.2 rfl))))
theorem OwnL.mv : ∀ {cs : List Value} {ts : List Tr} {fp : List Nat}, OwnL w cs ts fp → (∀ k ∈ fp, w'.heap[k]? = w.heap[k]?) → OwnL w' cs ts fp
  | _, _, _, .nil, _ => .nil
  | _, _, _, .cons h1 h2, hm => .cons (Own.mv h1 (fun k hk => hm k (List.mem_append_left _ hk))) (OwnL.mv h2 (fun k hk => hm k (List.mem_append_right _ hk)))
end
mutual
theorem Own.lt : ∀ {v : Value} {ts : List Tr} {fp : List Nat}, Own w v ts fp → ∀ k ∈ fp, k < w.heap.size
  | _, _, _, .mk h ho, k, hk => by
    rcases List.mem_append.1 hk with hk | hk
    · exact own_lt ho k (by simpa using hk)
    · exact OwnL.lt h k hk
theorem OwnL.lt : ∀ {cs : List Value} {ts : List Tr} {fp : List Nat}, OwnL w cs ts fp → ∀ k ∈ fp, k < w.heap.size
  | _, _, _, .nil, k, hk => by cases hk
  | _, _, _, .cons h1 h2, k, hk => by
    rcases List.mem_append.1 hk with hk | hk
    · exact Own.lt h1 k hk
    · exact OwnL.lt h2 k hk
end
theorem OwnL.len : ∀ {cs : List Value} {ts : List Tr} {fp : List Nat}, OwnL w cs ts fp → cs.length = ts.length * 3
  | _, _, _, .nil => rfl
  | _, _, _, .cons _ h => by have := OwnL.len h; simp only [List.length_cons]; omega
theorem OwnL.one : ∀ {cs : List Value} {ts : List Tr} {fp : List Nat}, OwnL w cs ts fp → ∀ u ∈ cs, u.oneCell' = true
  | _, _, _, .nil, u, hu => by cases hu
  | _, _, _, .cons (.mk _ ho) h, u, hu => by
    simp only [List.mem_cons] at hu
    rcases hu with rfl | rfl | rfl | hu
    · rfl
    · rfl
    · rcases ho.2 with ⟨rfl, _⟩ | ⟨g, cap, cur, rfl, _⟩ <;> rfl
    · exact OwnL.one h u hu
theorem OwnL.snoc : ∀ {cs : List Value} {ts : List Tr} {fp : List Nat} {t : Tr} {v : Value} {f : List Nat}, OwnL w cs ts fp → Own w v t.f2 f → OwnL w (cs ++ [.int .i64 t.f0, .string t.f1, v]) (ts ++ [t]) (fp ++ f)
  | _, _, _, _, _, _, .nil, h => by have := OwnL.cons h OwnL.nil; simpa using this
  | _, _, _, _, _, _, .cons h1 h2, h => by
    have := OwnL.cons h1 (OwnL.snoc h2 h)
    rw [← List.append_assoc] at this
    exact this
mutual
theorem Own.reads : ∀ {v : Value} {ts : List Tr} {fp : List Nat}, Own w v ts fp → ∃ A c, v = .slice A ts.length c ∧ ts.length ≤ c ∧ Kd.C k29 w A ts.length ts
  | _, _, _, .mk h ho => by
    obtain ⟨A, c, e, hl, hr⟩ := OwnRow.reads ⟨_, ho, OwnL.reps h⟩
    exact ⟨A, c, e, hl, hr⟩
theorem OwnL.reps : ∀ {cs : List Value} {ts : List Tr} {fp : List Nat}, OwnL w cs ts fp → Reps (k29.K w) 3 ts cs
  | _, _, _, .nil => Reps.none _ _
  | _, _, _, .cons (t := t) h1 h2 => by
    obtain ⟨A, c, rfl, hl, hc⟩ := Own.reads h1
    have hk := k29_mk w t hl hc
    have h3 := OwnL.reps h2
    refine ⟨by have := h3.1; simp only [List.length_cons]; omega, fun j p hp => ?_⟩
    cases j with
    | zero =>
      obtain rfl := Option.some.inj hp
      exact hk
    | succ j =>
      have := h3.2 j p (by simpa using hp)
      rw [show (j + 1) * 3 = j * 3 + 1 + 1 + 1 by omega]
      exact this
end
end
def tre (v : Value) (ts : List Tr) : Pc := ⟨fun w fp => Own w v ts fp, fun h hm => Own.mv h hm, fun h => Own.lt h⟩
theorem Sl.tv {w0 w : World} {ps : List Pc} {v : Value} {ts : List Tr} (H : Sl w0 w ps) (i : Nat) (hi : ps[i]? = some (tre v ts) := by rfl) : ∃ A c, v = .slice A ts.length c ∧ ts.length ≤ c ∧ Kd.C k29 w A ts.length ts := by
  obtain ⟨f, h, _⟩ := H.get i hi
  exact Own.reads h
end Go.Proofs.Ytldgkgdgcfllmaa
end
section
namespace Go.Proofs.Ytldgkgdgcfllmaa
open Go.RowKit Go.Shelf Go.Proofs.Ytldgkgdgcfllmaa.P Go.Proofs.Ytldgkgdgcfllmaa.Rg Go.Proofs.YtldgkgdgcfllmaaW.PrintWords Go.Proofs.YtldgkgdgcfllmaaW.PrintLast Go.Proofs.YtldgkgdgcfllmaaW.PrintMore
set_option linter.unusedVariables false
section
variable {w0 W w1 : World} {ps : List Pc} {i j : Nat} {v u u1 u2 : Value} {ts : List Tr} {t t1 t2 : Tr}
theorem sub_nil (H : Sl w0 W ps) : Sl w0 W (ps ++ [tre (.slice none 0 0) []]) :=
  H.call ⟨Below.refl _ _, [], ⟨[], [], rfl, Own.mk OwnL.nil ⟨rfl, .inl ⟨rfl, rfl⟩⟩, rfl⟩, List.nodup_nil, fun k hk => by cases hk⟩
theorem Sl.lit {p : Pc} {cs : List Value} (H : Sl w0 W ps) (i : Nat) (hi : ps[i]? = some p) (hp : ∀ f, p.P W f → OwnL W cs ts f) (hl : ts.length ≤ 1000) : Sl w0 (W.alloc (.cells cs.toArray 29)) (ps.set i (tre (.slice (some ⟨W.heap.size, 0, none⟩) ts.length ts.length) ts)) := by
  have hb : Below W.heap.size W (W.alloc (.cells cs.toArray 29)) := below_alloc (Below.refl _ _) _
  refine H.upd i hi (below_then H.bel H.bel.size hb) (fun f hf hn hg => ?_)
  have ho := hp f hf
  have hlt := OwnL.lt ho
  refine ⟨_, Own.mk (OwnL.mv ho (fun k hk => hb.block k (hlt k hk))) (by
    have h2 := World.ownsRow_lit (base := 0) (e := 29) (size := 3) W cs.toArray ts.length (Nat.zero_le _) (by simp [maxLen]; omega) (by simpa using OwnL.len ho)
    simpa using h2), ?_, fun k hk => ?_, fun k hk _ => hb.block k hk⟩
  · refine List.nodup_append.2 ⟨by simp [Value.ownBlock], hn, fun a ha b hb' e => ?_⟩
    have := hlt b hb'
    simp [Value.ownBlock] at ha
    omega
  · rcases List.mem_append.1 hk with hk | hk
    · simp [Value.ownBlock] at hk
      exact Or.inr (by omega)
    · exact Or.inl hk
theorem Sl.lit1 (H : Sl w0 W ps) (i : Nat) (hi : ps[i]? = some (tre u t.f2)) : Sl w0 (W.alloc (.cells #[.int .i64 t.f0, .string t.f1, u] 29)) (ps.set i (tre (.slice (some ⟨W.heap.size, 0, none⟩) 1 1) [t])) :=
  H.lit (ts := [t]) (cs := [.int .i64 t.f0, .string t.f1, u]) i hi (fun f hf => by have := OwnL.cons (t := t) hf OwnL.nil; rwa [List.append_nil] at this) (by simp)
theorem Sl.lit2 (H : Sl w0 W ps) (i j : Nat) (hi : ps[i]? = some (tre u1 t1.f2)) (hj : ps[j]? = some (tre u2 t2.f2)) (hne : i ≠ j) :
    Sl w0 (W.alloc (.cells #[.int .i64 t1.f0, .string t1.f1, u1, .int .i64 t2.f0, .string t2.f1, u2] 29)) ((ps.set j emp).set i (tre (.slice (some ⟨W.heap.size, 0, none⟩) 2 2) [t1, t2])) := by
  have h1 := H.join i j hi hj hne
  have h2 := h1.lit (ts := [t1, t2]) (cs := [.int .i64 t1.f0, .string t1.f1, u1, .int .i64 t2.f0, .string t2.f1, u2]) i (p := both (tre u1 t1.f2) (tre u2 t2.f2))
    (by rw [List.getElem?_set_ne (Ne.symm hne), List.getElem?_set_self (List.getElem?_eq_some_iff.1 hi).1])
    (fun f ⟨f1, f2, e, g1, g2⟩ => by rw [e]; have := OwnL.cons g1 (OwnL.cons g2 OwnL.nil); rwa [List.append_nil] at this) (by simp)
  rw [List.set_comm _ _ hne, List.set_set] at h2
  exact h2
end
section
variable {ops : Array Oper} {rest : List Oper} {o : Oper} {a : Act} {Q : Exit → Act → World → Prop} {Kc : Act → World → Prop} {w0 W : World} {ps : List Pc} {v u : Value} {ts : List Tr} {t : Tr} {s x : Operand}
theorem bb_ {t1 t2 : Tr} {u1 u2 : Value} (H : Sl w0 W ps) (i j : Nat) (h : ∀ g w1, Sl w0 w1 ((ps.set j emp).set i (tre (.slice (some ⟨g, 0, none⟩) 2 2) [t1, t2])) → Below W.heap.size W w1 → Kc (a.put o.dst (.slice (some ⟨g, 0, none⟩) 2 2)) w1)
    (hi : ps[i]? = some (tre u1 t1.f2) := by rfl) (hj : ps[j]? = some (tre u2 t2.f2) := by rfl) (hne : i ≠ j := by decide) (hw : Region.wanted o (yielded ops a.tmps) = true := by rfl)
    (hrun : (execOp a.eval o).run Try.prog W = .ok (.value (.slice (some ⟨W.heap.size, 0, none⟩) 2 2)) (W.alloc (.cells #[.int .i64 t1.f0, .string t1.f1, u1, .int .i64 t2.f0, .string t2.f1, u2] 29)) := by first | (go_simp; done) | (go_simp; rfl)) :
    if Region.wanted o (yielded ops a.tmps) = true then Oper.wp Try.prog o a W Kc Q else Kc (a.put o.dst undef) W :=
  event_step hw hrun (h _ _ (H.lit2 i j hi hj hne) ba_)
end
end Go.Proofs.Ytldgkgdgcfllmaa
end
section
namespace Go.Proofs.Ytldgkgdgcfllmaa
open Go.RowKit Go.Shelf Go.Proofs.Ytldgkgdgcfllmaa.P Go.Proofs.Ytldgkgdgcfllmaa.Pl Go.Proofs.Ytldgkgdgcfllmaa.Rg Go.Proofs.YtldgkgdgcfllmaaW.PrintWords Go.Proofs.YtldgkgdgcfllmaaW.PrintLast Go.Proofs.YtldgkgdgcfllmaaW.PrintMore
set_option linter.unusedVariables false
set_option linter.unusedSimpArgs false
abbrev tv (t : Tr) (A : Option Addr) (c : Nat) : Value := .agg #[.int .i64 t.f0, .string t.f1, .slice A t.f2.length c]
abbrev tb (t : Tr) (A : Option Addr) (c : Nat) : Array Value := #[.int .i64 t.f0, .string t.f1, .slice A t.f2.length c]
abbrev zt : Array Value := #[.int .i64 0, .string ⟨#[]⟩, .slice none 0 0]
end Go.Proofs.Ytldgkgdgcfllmaa
end
section
namespace Go.Proofs.Ytldgkgdgcfllmaa
open Go.RowKit Go.Shelf Go.Proofs.Ytldgkgdgcfllmaa.P Go.Proofs.Ytldgkgdgcfllmaa.Rg Go.Proofs.YtldgkgdgcfllmaaW.PrintWords Go.Proofs.YtldgkgdgcfllmaaW.PrintLast Go.Proofs.YtldgkgdgcfllmaaW.PrintMore
set_option linter.unusedVariables false
section
variable {ops : Array Oper} {rest : List Oper} {o : Oper} {a : Act} {Q : Exit → Act → World → Prop} {w0 W : World} {ps : List Pc}
theorem wl1_ {t : Tr} {u : Value} (H : Sl w0 W ps) (N : Tmp) (i : Nat) (hd : o.dst = some N) (h : ∀ g w1, Sl w0 w1 (ps.set i (tre (.slice (some ⟨g, 0, none⟩) 1 1) [t])) → wpList Try.prog ops Q rest (a.put o.dst (.slice (some ⟨g, 0, none⟩) 1 1)) w1)
    (hi : ps[i]? = some (tre u t.f2) := by rfl) (hrun : (execOp a.eval o).run Try.prog W = .ok (.value (.slice (some ⟨W.heap.size, 0, none⟩) 1 1)) (W.alloc (.cells #[.int .i64 t.f0, .string t.f1, u] 29)) := by first | (go_simp; done) | (go_simp; rfl)) (hgd : o.guard = none := by rfl) : wpList Try.prog ops Q (o :: rest) a W :=
  Kd.event_run hgd hrun (h _ _ (H.lit1 i hi))
theorem wl2_ {t1 t2 : Tr} {u1 u2 : Value} (H : Sl w0 W ps) (N : Tmp) (i j : Nat) (hd : o.dst = some N) (h : ∀ g w1, Sl w0 w1 ((ps.set j emp).set i (tre (.slice (some ⟨g, 0, none⟩) 2 2) [t1, t2])) → wpList Try.prog ops Q rest (a.put o.dst (.slice (some ⟨g, 0, none⟩) 2 2)) w1)
    (hi : ps[i]? = some (tre u1 t1.f2) := by rfl) (hj : ps[j]? = some (tre u2 t2.f2) := by rfl) (hne : i ≠ j := by decide) (hrun : (execOp a.eval o).run Try.prog W = .ok (.value (.slice (some ⟨W.heap.size, 0, none⟩) 2 2)) (W.alloc (.cells #[.int .i64 t1.f0, .string t1.f1, u1, .int .i64 t2.f0, .string t2.f1, u2] 29)) := by first | (go_simp; done) | (go_simp; rfl)) (hgd : o.guard = none := by rfl) : wpList Try.prog ops Q (o :: rest) a W :=
  Kd.event_run hgd hrun (h _ _ (H.lit2 i j hi hj hne))
end
end Go.Proofs.Ytldgkgdgcfllmaa
end
section
namespace Go.Proofs.Ytldgkgdgcfllmaa
open Go.RowKit Go.Shelf Go.Proofs.Ytldgkgdgcfllmaa.P Go.Proofs.Ytldgkgdgcfllmaa.Rg Go.Proofs.YtldgkgdgcfllmaaW.PrintWords Go.Proofs.YtldgkgdgcfllmaaW.PrintLast Go.Proofs.YtldgkgdgcfllmaaW.PrintMore
set_option linter.unusedVariables false
theorem take_set' {α : Type} (l : List α) (n i : Nat) (x : α) : (l.set i x).take n = (l.take n).set i x := by
  apply List.ext_getElem?
  intro j
  simp only [List.getElem?_take, List.getElem?_set]
  by_cases hj : j < n
  · by_cases e : i = j
    · subst e
      simp only [if_pos hj, if_true, List.length_take]
      by_cases hl : i < l.length
      · rw [if_pos hl, if_pos (by omega)]
      · rw [if_neg hl, if_neg (by omega)]
    · simp only [if_pos hj, if_neg e]
  · by_cases e : i = j
    · subst e
      simp only [if_neg hj, if_true, List.length_take]
      rw [if_neg (by omega)]
    · simp only [if_neg hj, if_neg e]
section
variable {w : World}
theorem OwnL.at_ : ∀ {cs : List Value} {ts : List Tr} {fp : List Nat} (_ : OwnL w cs ts fp) (i : Nat) (hi : i < ts.length), ∃ u fu fr, cs[i * 3]? = some (.int .i64 (ts[i]'hi).f0) ∧ cs[i * 3 + 1]? = some (.string (ts[i]'hi).f1) ∧ cs[i * 3 + 2]? = some u ∧ Own w u (ts[i]'hi).f2 fu ∧ fp.Perm (fu ++ fr) ∧
    ∀ (w' : World) (t' : Tr) (u' : Value) (fu' : List Nat), (∀ k ∈ fr, w'.heap[k]? = w.heap[k]?) → Own w' u' t'.f2 fu' → ∃ fp', OwnL w' (((cs.set (i * 3) (.int .i64 t'.f0)).set (i * 3 + 1) (.string t'.f1)).set (i * 3 + 2) u') (ts.set i t') fp' ∧ fp'.Perm (fu' ++ fr)
  | _, _, _, .nil, i, hi => absurd hi (by simp)
  | _, _, _, .cons (t := t) (v := v) (f1 := f1) (f2 := f2) h1 h2, 0, hi => ⟨v, f1, f2, rfl, rfl, rfl, h1, List.Perm.refl _, fun w' t' u' fu' hk hu => ⟨_, OwnL.cons hu (OwnL.mv h2 hk), List.Perm.refl _⟩⟩
  | _, _, _, .cons (t := t) (v := v) (f1 := f1) (cs := cs) (ts := ts) (f2 := f2) h1 h2, i + 1, hi => by
    obtain ⟨u, fu, fr, c0, c1, c2, h3, h4, h5⟩ := OwnL.at_ h2 i (by simpa using hi)
    rw [show (i + 1) * 3 = i * 3 + 1 + 1 + 1 by omega]
    refine ⟨u, fu, f1 ++ fr, c0, c1, c2, h3, ?_, fun w' t' u' fu' hk hu => ?_⟩
    · exact (List.Perm.append_left f1 h4).trans (by rw [← List.append_assoc, ← List.append_assoc]; exact List.Perm.append_right fr List.perm_append_comm)
    · obtain ⟨gp, h6, h7⟩ := h5 w' t' u' fu' (fun k hk' => hk k (List.mem_append_right _ hk')) hu
      refine ⟨f1 ++ gp, OwnL.cons (Own.mv h1 (fun k hk' => hk k (List.mem_append_left _ hk'))) h6, ?_⟩
      exact (List.Perm.append_left f1 h7).trans (by rw [← List.append_assoc, ← List.append_assoc]; exact List.Perm.append_right fr List.perm_append_comm)
theorem Own.at_ {v : Value} {ts : List Tr} {fp : List Nat} (h : Own w v ts fp) (i : Nat) (hi : i < ts.length) : ∃ g c arr u fu fr, v = .slice (some ⟨g, 0, none⟩) ts.length c ∧ w.heap[g]? = some (.cells arr 29 (0, 0)) ∧ (arr[i * 3]? = some (.int .i64 (ts[i]'hi).f0) ∧ arr[i * 3 + 1]? = some (.string (ts[i]'hi).f1) ∧ arr[i * 3 + 2]? = some u) ∧ Own w u (ts[i]'hi).f2 fu ∧ fp.Perm (g :: (fu ++ fr)) ∧
    ∀ (w' : World) (t' : Tr) (u' : Value) (fu' : List Nat), w'.heap[g]? = some (.cells (((arr.setIfInBounds (i * 3) (.int .i64 t'.f0)).setIfInBounds (i * 3 + 1) (.string t'.f1)).setIfInBounds (i * 3 + 2) u') 29 (0, 0)) → (∀ k ∈ fr, w'.heap[k]? = w.heap[k]?) → Own w' u' t'.f2 fu' → ∃ fp', Own w' v (ts.set i t') fp' ∧ fp'.Perm (g :: (fu' ++ fr)) := by
  cases h with
  | @mk _ _ fs cs hL ho =>
    obtain ⟨u, fu, fr, c0, c1, c2, h3, h4, h5⟩ := OwnL.at_ hL i hi
    obtain ⟨hlen, ho2⟩ := ho
    rcases ho2 with ⟨_, e⟩ | ⟨g, cap, cur, rfl, hb, hg, hn, hm, hs, ht⟩
    · omega
    have get : ∀ j u, cs[i * 3 + j]? = some u → j < 3 → cur[i * 3 + j]? = some u := fun j u hu hj => by
      rw [← ht, List.getElem?_take] at hu
      rw [if_pos (by omega)] at hu
      simpa using hu
    refine ⟨g, cap, cur, u, fu, fr, rfl, hg, ⟨get 0 _ c0 (by omega), get 1 _ c1 (by omega), get 2 _ c2 (by omega)⟩, h3, ?_, fun w' t' u' fu' hg' hk hu => ?_⟩
    · show (g :: fs).Perm _
      exact List.Perm.cons g h4
    · obtain ⟨gp, h6, h7⟩ := h5 w' t' u' fu' hk hu
      have hl : (ts.set i t').length = ts.length := List.length_set
      refine ⟨g :: gp, ?_, List.Perm.cons g h7⟩
      have hO : Own w' (.slice (some ⟨g, 0, none⟩) ts.length cap) (ts.set i t') _ := Own.mk h6 (by
        rw [hl]
        refine ⟨by simp only [List.length_set]; exact hlen, .inr ⟨g, cap, _, rfl, hb, hg', hn, hm, by simp only [Array.size_setIfInBounds]; exact hs, ?_⟩⟩
        simp only [Array.toList_setIfInBounds, take_set', ht])
      exact hO
end
section
variable {w0 w w' w2 : World} {fp : List Nat} {ps : List Pc} {i : Nat} {p q : Pc}
end
section
variable {P : Program} {ops : Array Oper} {rest : List Oper} {o : Oper} {a : Act} {Q : Exit → Act → World → Prop} {W : World}
end
section
variable {ops : Array Oper} {rest : List Oper} {o : Oper} {a : Act} {Q : Exit → Act → World → Prop} {w0 W : World} {ps : List Pc}
theorem Sl.e3 {ts : List Tr} {g n c : Nat} (H : Sl w0 W ps) (i k : Nat) (hk : k < ts.length) (hi : ps[i]? = some (tre (.slice (some ⟨g, 0, none⟩) n c) ts) := by rfl) : ∃ x y z : Value, (W.cell? ⟨g, k * 3, none⟩ = some x ∧ W.frozen? ⟨g, k * 3, none⟩ = false) ∧ (W.cell? ⟨g, k * 3 + 1, none⟩ = some y ∧ W.frozen? ⟨g, k * 3 + 1, none⟩ = false) ∧ W.cell? ⟨g, k * 3 + 2, none⟩ = some z ∧ W.frozen? ⟨g, k * 3 + 2, none⟩ = false := by
  obtain ⟨f, hO, _⟩ := H.get i hi
  obtain ⟨g', c', arr, u, fu, fr, e, hg, ⟨h0, h1, h2⟩, _⟩ := Own.at_ hO k hk
  injection e with e1 _ _
  injection e1 with e1
  injection e1 with e1 _ _
  subst e1
  exact ⟨_, _, _, ⟨(blk_cell hg _).trans h0, blk_frozen hg _⟩, ⟨(blk_cell hg _).trans h1, blk_frozen hg _⟩, (blk_cell hg _).trans h2, blk_frozen hg _⟩
end
end Go.Proofs.Ytldgkgdgcfllmaa
end
section
namespace Go.Proofs.Ytldgkgdgcfllmaa.Pl
open Go.RowKit Go.Proofs.Ytldgkgdgcfllmaa.P Go.Proofs.YtldgkgdgcfllmaaW.PrintWords Go.Proofs.YtldgkgdgcfllmaaW.PrintLast Go.Proofs.YtldgkgdgcfllmaaW.PrintMore
set_option linter.unusedVariables false
set_option linter.unusedSimpArgs false
def letIdx (b : Int) : Int := if b = 97 then 0 else if b = 98 then 1 else if b = 99 then 2 else -1
theorem spec_letter (b : Int) : Ev (fun k => spec_LetterIndex.f k b) (letIdx b) := by
  simp only [spec_LetterIndex.f]
  have e0 : bt (⟨#[97, 98, 99]⟩ : ByteArray) 0 = 97 := rfl
  have e1 : bt (⟨#[97, 98, 99]⟩ : ByteArray) 1 = 98 := rfl
  have e2 : bt (⟨#[97, 98, 99]⟩ : ByteArray) 2 = 99 := rfl
  have w0 : wrap64 ((0 : Int) + 1) = 1 := by unfold wrap64; omega
  have w1 : wrap64 ((1 : Int) + 1) = 2 := by unfold wrap64; omega
  have w2 : wrap64 ((2 : Int) + 1) = 3 := by unfold wrap64; omega
  refine next ?_
  simp only [spec_LetterIndex.l0, if_pos (show (0 : Int) < 3 by omega), if_pos (show (0 : Int) ≤ 0 by omega), e0, w0, letIdx]
  by_cases h : b = 97
  · simp only [h, if_true]
    exact Ev.now _
  · simp only [if_neg h, if_neg (fun e => h (Eq.symm e))]
    refine next ?_
    simp only [spec_LetterIndex.l0, if_pos (show (1 : Int) < 3 by omega), if_pos (show (0 : Int) ≤ 1 by omega), e1, w1]
    by_cases h : b = 98
    · simp only [h, if_true]
      exact Ev.now _
    · simp only [if_neg h, if_neg (fun e => h (Eq.symm e))]
      refine next ?_
      simp only [spec_LetterIndex.l0, if_pos (show (2 : Int) < 3 by omega), if_pos (show (0 : Int) ≤ 2 by omega), e2, w2]
      by_cases h : b = 99
      · simp only [h, if_true]
        exact Ev.now _
      · simp only [if_neg h, if_neg (fun e => h (Eq.symm e))]
        refine next ?_
        simp only [spec_LetterIndex.l0, if_neg (show ¬ (3 : Int) < 3 by omega)]
        exact Ev.now _
theorem u8_eq {b : Int} (h0 : 0 ≤ b) (h1 : b ≤ 255) (c : Nat) (hc : c < 256) : (b.toNat.toUInt8 = UInt8.ofNat c) ↔ b = c := by
  constructor
  · intro h
    have := congrArg UInt8.toNat h
    simp at this
    omega
  · rintro rfl
    simp
theorem impl_letter {b : Int} (h0 : 0 ≤ b) (h1 : b ≤ 255) : impl_LetterIndex.f b = some (letIdx b) := by
  simp only [impl_LetterIndex.f, strings_IndexByte.f, Option.bind_some, letIdx]
  have e97 := u8_eq h0 h1 97 (by omega)
  have e98 := u8_eq h0 h1 98 (by omega)
  have e99 := u8_eq h0 h1 99 (by omega)
  congr 1
  by_cases h : b = 97
  · rw [h]; rfl
  · by_cases h2 : b = 98
    · rw [h2]; rfl
    · by_cases h3 : b = 99
      · rw [h3]; rfl
      · have n97 : ¬ b.toNat.toUInt8 = 97 := fun e => h (e97.mp e)
        have n98 : ¬ b.toNat.toUInt8 = 98 := fun e => h2 (e98.mp e)
        have n99 : ¬ b.toNat.toUInt8 = 99 := fun e => h3 (e99.mp e)
        rw [if_neg h, if_neg h2, if_neg h3]
        have q1 : ¬ (97 : UInt8) = b.toNat.toUInt8 := fun e => n97 e.symm
        have q2 : ¬ (98 : UInt8) = b.toNat.toUInt8 := fun e => n98 e.symm
        have q3 : ¬ (99 : UInt8) = b.toNat.toUInt8 := fun e => n99 e.symm
        simp only [Lib.indexByte, beq_iff_eq, n97, n98, n99, q1, q2, q3, if_false]
        rfl
def lets (l : List Int) : Bool := l.all fun b => decide (0 ≤ letIdx b)
def word (s : ByteArray) : Bool := lets (bytesOf s) && decide (s.size ≤ 30)
theorem spec_word_l0 (s : ByteArray) (hs : s.size ≤ 140737488351232) : ∀ d i : Nat, i + d = s.size → Ev (fun k => spec_IsWord.l0 k s i) (lets ((bytesOf s).drop i) && decide ((s.size : Int) ≤ 30)) := by
  intro d
  induction d with
  | zero =>
    intro i h
    refine next ?_
    simp only [spec_IsWord.l0, if_neg (show ¬ (i : Int) < (s.size : Int) by omega), drop_end s i (by omega)]
    exact ev_some (by simp [lets])
  | succ d ih =>
    intro i h
    refine next ?_
    simp only [spec_IsWord.l0, if_pos (show (i : Int) < (s.size : Int) by omega), if_pos (show (0 : Int) ≤ i by omega)]
    refine Ev.bind (spec_letter _) ?_
    rw [drop_cons s i (by omega)]
    by_cases hl : letIdx (bt s i) < 0
    · simp only [if_pos hl]
      exact ev_some (by simp [lets, show ¬ 0 ≤ letIdx (bt s i) by omega])
    · simp only [if_neg hl, up1 (show i < 9223372036854775807 by omega)]
      exact ev_eq (ih (i + 1) (by omega)) (by simp [lets, show 0 ≤ letIdx (bt s i) by omega])
theorem spec_word (s : ByteArray) (hs : s.size ≤ 140737488351232) : Ev (fun k => spec_IsWord.f k s) (word s) :=
  ev_eq (spec_word_l0 s hs s.size 0 (by omega)) (by
    have e : decide ((s.size : Int) ≤ 30) = decide (s.size ≤ 30) := decide_eq_decide.mpr (by omega)
    simp only [word, e, List.drop_zero])
theorem impl_lets_l0 (s : ByteArray) (hs : s.size ≤ 140737488351232) : ∀ d i : Nat, i + d = s.size → Ev (fun k => impl_isLetters.l0 k s i) (lets ((bytesOf s).drop i)) := by
  intro d
  induction d with
  | zero =>
    intro i h
    refine next ?_
    simp only [impl_isLetters.l0, if_neg (show ¬ (i : Int) < (s.size : Int) by omega), drop_end s i (by omega)]
    exact ev_some (by simp [lets])
  | succ d ih =>
    intro i h
    refine next ?_
    simp only [impl_isLetters.l0, if_pos (show (i : Int) < (s.size : Int) by omega), if_pos (show (0 : Int) ≤ i by omega), impl_letter (bt_range s i).1 (bt_range s i).2, Option.bind_some]
    rw [drop_cons s i (by omega)]
    by_cases hl : letIdx (bt s i) < 0
    · simp only [if_pos hl]
      exact ev_some (by simp [lets, show ¬ 0 ≤ letIdx (bt s i) by omega])
    · simp only [if_neg hl, up1 (show i < 9223372036854775807 by omega)]
      exact ev_eq (ih (i + 1) (by omega)) (by simp [lets, show 0 ≤ letIdx (bt s i) by omega])
theorem impl_word (s : ByteArray) (hs : s.size ≤ 140737488351232) : Ev (fun k => impl_IsWord.f k s) (word s) := by
  simp only [impl_IsWord.f]
  by_cases h : s.size ≤ 30
  · simp only [if_pos (show (s.size : Int) ≤ 30 by omega)]
    refine Ev.bind (impl_lets_l0 s hs s.size 0 (by omega)) ?_
    exact ev_some (by simp [word, h])
  · simp only [if_neg (show ¬ (s.size : Int) ≤ 30 by omega)]
    exact ev_some (by simp [word, h])
end Go.Proofs.Ytldgkgdgcfllmaa.Pl
end
section
namespace Go.Proofs.Ytldgkgdgcfllmaa.Pl
open Go.RowKit Go.Proofs.Ytldgkgdgcfllmaa Go.Proofs.Ytldgkgdgcfllmaa.P Go.Proofs.Ytldgkgdgcfllmaa.Rk Go.Proofs.YtldgkgdgcfllmaaW.PrintWords Go.Proofs.YtldgkgdgcfllmaaW.PrintLast Go.Proofs.YtldgkgdgcfllmaaW.PrintMore
set_option linter.unusedVariables false
set_option linter.unusedSimpArgs false
theorem empty_list : (⟨#[]⟩ : ByteArray).toList = ([] : List UInt8) := by rw [ByteArray.toList_eq]
def argsN (a : Int) : Int := if 1 ≤ a ∧ a ≤ 4 then 0 else if a = 8 ∨ a = 9 then 1 else if 5 ≤ a ∧ a ≤ 7 then 2 else -1
def shp (x : TI) : Bool := decide ((x.f2.length : Int) = argsN x.f0) && (if x.f0 = 3 then decide (x.f1.size = 1) && word x.f1 else decide (x.f1 = (⟨#[]⟩ : ByteArray)))
mutual
def nd : TI → Nat
  | ⟨_, _, l⟩ => 1 + nds l
def nds : List TI → Nat
  | [] => 0
  | x :: l => nd x + nds l
end
mutual
def dp : TI → Nat
  | ⟨_, _, l⟩ => dps l + 1
def dps : List TI → Nat
  | [] => 0
  | x :: l => max (dp x) (dps l)
end
mutual
def al : TI → Bool
  | ⟨a, s, l⟩ => als l && shp ⟨a, s, l⟩
def als : List TI → Bool
  | [] => true
  | x :: l => al x && als l
end
theorem nd_eq (x : TI) : nd x = 1 + nds x.f2 := by obtain ⟨a, s, l⟩ := x; rw [nd]
theorem dp_eq (x : TI) : dp x = dps x.f2 + 1 := by obtain ⟨a, s, l⟩ := x; rw [dp]
theorem al_eq (x : TI) : al x = (als x.f2 && shp x) := by obtain ⟨a, s, l⟩ := x; rw [al]
theorem nds_drop (l : List TI) (i : Nat) (h : i < l.length) : nds (l.drop i) = nd l[i] + nds (l.drop (i + 1)) := by rw [List.drop_eq_getElem_cons h, nds]
theorem dps_drop (l : List TI) (i : Nat) (h : i < l.length) : dps (l.drop i) = max (dp l[i]) (dps (l.drop (i + 1))) := by rw [List.drop_eq_getElem_cons h, dps]
theorem als_drop (l : List TI) (i : Nat) (h : i < l.length) : als (l.drop i) = (al l[i] && als (l.drop (i + 1))) := by rw [List.drop_eq_getElem_cons h, als]
theorem nd_pos (x : TI) : 1 ≤ nd x := by rw [nd_eq]; omega
theorem dp_pos (x : TI) : 1 ≤ dp x := by rw [dp_eq]; omega
theorem nd_mem {l : List TI} {x : TI} (h : x ∈ l) : nd x ≤ nds l := by
  induction l with
  | nil => cases h
  | cons a l ih =>
    rw [nds]
    rcases List.mem_cons.mp h with q | q
    · subst q; omega
    · have := ih q; omega
mutual
theorem dp_nd : ∀ x : TI, dp x ≤ nd x
  | ⟨a, s, l⟩ => by rw [dp, nd]; have := dps_nds l; omega
theorem dps_nds : ∀ l : List TI, dps l ≤ nds l
  | [] => Nat.le_refl _
  | x :: l => by rw [dps, nds]; have := dp_nd x; have := dps_nds l; omega
end
theorem argsN_spec (a : Int) : Ev (fun k => spec_l3Args.f k a) (if 5 ≤ a ∧ a ≤ 7 then 2 else if a = 8 ∨ a = 9 then 1 else 0) := by
  simp only [spec_l3Args.f]
  by_cases h5 : a = 5
  · subst h5; refine next ?_; exact ev_some rfl
  · by_cases h6 : a = 6
    · subst h6; refine next ?_; exact ev_some rfl
    · by_cases h7 : a = 7
      · subst h7; refine next ?_; exact ev_some rfl
      · simp only [if_neg h5, if_neg h6, show (a == 7) = false from by simpa using h7]
        refine next ?_
        simp only [spec_l3Args.j0, Bool.false_eq_true, if_false]
        by_cases h8 : a = 8
        · subst h8; exact ev_some rfl
        · by_cases h9 : a = 9
          · subst h9; exact ev_some rfl
          · simp only [if_neg h8, if_neg h9]
            exact ev_some (by rw [if_neg (by omega), if_neg (by omega)])
theorem argsN_impl (a : Int) : Ev (fun k => impl_argsOf.f k a) (argsN a) := by
  simp only [impl_argsOf.f]
  have rest : (¬ (a == 4) = true ∧ ¬ (1 ≤ a ∧ a ≤ 4)) → Ev (fun k => impl_argsOf.j0 k a (a == 4)) (argsN a) := fun ⟨hb, hn⟩ => by
    refine next ?_
    simp only [impl_argsOf.j0, if_neg hb]
    by_cases h8 : a = 8
    · subst h8; refine next ?_; exact ev_some rfl
    · simp only [if_neg h8]
      refine next ?_
      by_cases h9 : a = 9
      · subst h9; exact ev_some rfl
      · simp only [impl_argsOf.j1, show (a == 9) = false from by simpa using h9, Bool.false_eq_true, if_false]
        unfold argsN
        by_cases h5 : a = 5
        · subst h5; exact ev_some rfl
        · by_cases h6 : a = 6
          · subst h6; exact ev_some rfl
          · by_cases h7 : a = 7
            · subst h7; exact ev_some rfl
            · simp only [if_neg h5, if_neg h6, if_neg h7]
              exact ev_some (by rw [if_neg hn, if_neg (by omega), if_neg (by omega)])
  by_cases h1 : a = 1
  · subst h1; refine next ?_; exact ev_some rfl
  · by_cases h2 : a = 2
    · subst h2; refine next ?_; exact ev_some rfl
    · by_cases h3 : a = 3
      · subst h3; refine next ?_; exact ev_some rfl
      · simp only [if_neg h1, if_neg h2, if_neg h3]
        by_cases h4 : a = 4
        · subst h4; refine next ?_; exact ev_some rfl
        · exact rest ⟨by simpa using h4, by omega⟩
def aft (cur : Int) (n : Nat) : Int := if 0 ≤ cur ∧ (n : Int) ≤ cur then cur - n else -1
theorem left_loop (a : Int) (s : ByteArray) {l : List TI} (hl : l.length ≤ 1048576) (ih : ∀ y ∈ l, ∀ left : Int, 0 ≤ left → left ≤ 16 → Ev (fun k => spec_l3Left.f k y.f0 y.f1 y.f2 left) (aft left (nd y))) :
    ∀ (d i : Nat) (cur : Int), i + d = l.length → -1 ≤ cur → cur ≤ 16 → Ev (fun k => spec_l3Left.l0 k cur (i : Int) a s l) (aft cur (nds (l.drop i))) := by
  intro d
  induction d with
  | zero =>
    intro i cur h h1 h2
    refine next ?_
    simp only [spec_l3Left.l0, if_neg (show ¬ (i : Int) < (l.length : Int) by omega)]
    rw [List.drop_eq_nil_of_le (by omega)]
    exact ev_some (by unfold aft; rw [nds]; split <;> omega)
  | succ d ihd =>
    intro i cur h h1 h2
    have hi : i < l.length := by omega
    refine next ?_
    rw [nds_drop l i hi]
    have hp := nd_pos l[i]
    by_cases hc : cur ≥ 0
    · simp only [spec_l3Left.l0, if_pos (show (i : Int) < (l.length : Int) by omega), if_pos hc, if_pos (show (0 : Int) ≤ (i : Int) by omega), rdTI l i hi]
      refine Ev.bind (ih _ (List.getElem_mem hi) cur hc h2) ?_
      simp only [up1 (show i < 9223372036854775807 by omega)]
      refine ev_eq (ihd (i + 1) _ (by omega) (by unfold aft; split <;> omega) (by unfold aft; split <;> omega)) ?_
      unfold aft
      repeat' split
      all_goals omega
    · simp only [spec_l3Left.l0, if_pos (show (i : Int) < (l.length : Int) by omega), if_neg hc]
      exact ev_some (by unfold aft; rw [if_neg (by omega)]; omega)
theorem left_tree : ∀ x : TI, Thin x → ∀ left : Int, 0 ≤ left → left ≤ 16 → Ev (fun k => spec_l3Left.f k x.f0 x.f1 x.f2 left) (aft left (nd x)) := by
  refine TI.ind fun x ih hx left h0 h1 => ?_
  obtain ⟨_, hl, _, hc⟩ := hx
  refine next ?_
  simp only [spec_l3Left.f, w64 (show -9223372036854775808 ≤ left - 1 by omega) (by omega)]
  refine ev_eq (left_loop x.f0 x.f1 hl (fun y hy => ih y hy (hc y hy)) x.f2.length 0 (left - 1) (by omega) (by omega) (by omega)) ?_
  rw [List.drop_zero, nd_eq]
  unfold aft
  repeat' split
  all_goals omega
theorem depth_loop (a : Int) (s : ByteArray) {l : List TI} (hl : l.length ≤ 1048576) (hn : nds l ≤ 2000000) (ih : ∀ y ∈ l, Ev (fun k => spec_l3Depth.f k y.f0 y.f1 y.f2) (dp y : Int)) :
    ∀ (d i cur : Nat), i + d = l.length → cur ≤ 2000000 → Ev (fun k => spec_l3Depth.l0 k (cur : Int) (i : Int) a s l) ((max cur (dps (l.drop i)) + 1 : Nat) : Int) := by
  intro d
  induction d with
  | zero =>
    intro i cur h h1
    refine next ?_
    simp only [spec_l3Depth.l0, if_neg (show ¬ (i : Int) < (l.length : Int) by omega)]
    rw [List.drop_eq_nil_of_le (by omega), dps, w64 (by omega) (by omega)]
    exact ev_some (by omega)
  | succ d ihd =>
    intro i cur h h1
    have hi : i < l.length := by omega
    refine next ?_
    rw [dps_drop l i hi]
    simp only [spec_l3Depth.l0, if_pos (show (i : Int) < (l.length : Int) by omega), if_pos (show (0 : Int) ≤ (i : Int) by omega), rdTI l i hi]
    refine Ev.bind (ih _ (List.getElem_mem hi)) ?_
    have hd : dp l[i] ≤ 2000000 := by have := dp_nd l[i]; have := nd_mem (List.getElem_mem hi); omega
    have hm : spec_l1Max.f (cur : Int) (dp l[i] : Int) = some ((max cur (dp l[i]) : Nat) : Int) := by
      unfold spec_l1Max.f
      split
      · congr 1; omega
      · congr 1; omega
    simp only [hm, Option.bind_some, up1 (show i < 9223372036854775807 by omega)]
    refine ev_eq (ihd (i + 1) _ (by omega) (by omega)) ?_
    rw [Nat.max_assoc]
theorem depth_tree : ∀ x : TI, Thin x → nd x ≤ 2000000 → Ev (fun k => spec_l3Depth.f k x.f0 x.f1 x.f2) (dp x : Int) := by
  refine TI.ind fun x ih hx hn => ?_
  obtain ⟨_, hl, _, hc⟩ := hx
  rw [nd_eq] at hn
  refine next ?_
  simp only [spec_l3Depth.f]
  refine ev_eq (depth_loop x.f0 x.f1 hl (by omega) (fun y hy => ih y hy (hc y hy) (by have := nd_mem hy; omega)) x.f2.length 0 0 (by omega) (by omega)) ?_
  rw [List.drop_zero, dp_eq]
  omega
theorem all_loop (x : TI) (hs : x.f1.size ≤ 1048576) (hl : x.f2.length ≤ 1048576) (ih : ∀ y ∈ x.f2, Ev (fun k => spec_l3All.f k y.f0 y.f1 y.f2) (al y)) :
    ∀ (d i : Nat), i + d = x.f2.length → Ev (fun k => spec_l3All.l0 k (i : Int) x.f0 x.f1 x.f2) (als (x.f2.drop i) && shp x) := by
  intro d
  induction d with
  | zero =>
    intro i h
    refine next ?_
    simp only [spec_l3All.l0, if_neg (show ¬ (i : Int) < (x.f2.length : Int) by omega)]
    rw [List.drop_eq_nil_of_le (by omega), als, Bool.true_and]
    unfold shp
    by_cases h3 : x.f0 = 3
    · simp only [if_pos h3]
      have ea : argsN x.f0 = 0 := by rw [h3]; rfl
      rw [ea]
      by_cases h1 : (x.f1.size : Int) = 1
      · simp only [if_pos h1]
        refine Ev.bind (spec_word x.f1 (by omega)) ?_
        have h1' : x.f1.size = 1 := by omega
        cases word x.f1 with
        | false => simp only [Bool.false_eq_true, if_false]; exact ev_some (by simp)
        | true =>
          simp only [if_true]
          refine ev_some ?_
          rw [decide_eq_true h1', Bool.and_true, Bool.and_true]
          rfl
      · simp only [if_neg h1]
        exact ev_some (by rw [decide_eq_false (show ¬ x.f1.size = 1 by omega)]; simp)
    · simp only [if_neg h3, spec_l1In.f]
      by_cases h1 : 1 ≤ x.f0 ∧ x.f0 ≤ 9
      · have ein : Ev (fun k => spec_l1In.f x.f0 1 9) true := by
          simp only [spec_l1In.f]
          first
            | (rw [if_pos h1.1]; exact ev_some (by simp; omega))
            | (simp only [if_pos (show x.f0 ≥ 1 from h1.1)]; exact ev_some (by simp; omega))
        refine Ev.bind ein ?_
        simp only [if_true]
        by_cases he : x.f1.toList = ([] : List UInt8)
        · simp only [if_pos he]
          refine Ev.bind (argsN_spec x.f0) ?_
          refine ev_some ?_
          have he' : x.f1 = (⟨#[]⟩ : ByteArray) := toList_iff.mp (he.trans empty_list.symm)
          rw [decide_eq_true he', Bool.and_true]
          have : argsN x.f0 = (if 5 ≤ x.f0 ∧ x.f0 ≤ 7 then 2 else if x.f0 = 8 ∨ x.f0 = 9 then 1 else 0) := by
            unfold argsN
            repeat' split
            all_goals omega
          rw [this]
          rfl
        · simp only [if_neg he]
          refine ev_some ?_
          rw [decide_eq_false (show ¬ x.f1 = (⟨#[]⟩ : ByteArray) from fun e => he (by rw [e]; exact empty_list)), Bool.and_false]
      · have ein : Ev (fun k => spec_l1In.f x.f0 1 9) false := by
          simp only [spec_l1In.f]
          by_cases hb : x.f0 ≥ 1
          · simp only [if_pos hb]; exact ev_some (by simp; omega)
          · simp only [if_neg hb]; exact ev_some rfl
        refine Ev.bind ein ?_
        simp only [Bool.false_eq_true, if_false]
        refine ev_some ?_
        have : argsN x.f0 = -1 := by
          unfold argsN
          rw [if_neg (by omega), if_neg (by omega), if_neg (by omega)]
        rw [this, decide_eq_false (by omega)]
        rfl
  | succ d ihd =>
    intro i h
    have hi : i < x.f2.length := by omega
    refine next ?_
    rw [als_drop x.f2 i hi]
    simp only [spec_l3All.l0, if_pos (show (i : Int) < (x.f2.length : Int) by omega), if_pos (show (0 : Int) ≤ (i : Int) by omega), rdTI x.f2 i hi]
    refine Ev.bind (ih _ (List.getElem_mem hi)) ?_
    cases al x.f2[i] with
    | false => simp only [Bool.false_eq_true, if_false]; exact ev_some (by simp)
    | true =>
      simp only [if_true, up1 (show i < 9223372036854775807 by omega), Bool.true_and]
      exact ihd (i + 1) (by omega)
theorem all_tree : ∀ x : TI, Thin x → Ev (fun k => spec_l3All.f k x.f0 x.f1 x.f2) (al x) := by
  refine TI.ind fun x ih hx => ?_
  obtain ⟨_, hl, hs, hc⟩ := hx
  refine next ?_
  simp only [spec_l3All.f]
  refine ev_eq (all_loop x hs hl (fun y hy => ih y hy (hc y hy)) x.f2.length 0 (by omega)) ?_
  rw [List.drop_zero, al_eq]
def validR (x : TI) : Bool := decide (nd x ≤ 16) && decide (dp x ≤ 6) && al x
theorem spec_validR (x : TI) (hx : Thin x) (hn : nd x ≤ 2000000) : Ev (fun k => spec_IsValidRegex.f k x.f0 x.f1 x.f2) (validR x) := by
  simp only [spec_IsValidRegex.f]
  refine Ev.bind (left_tree x hx 16 (by omega) (by omega)) ?_
  unfold validR aft
  by_cases h1 : nd x ≤ 16
  · simp only [if_pos (show (0 : Int) ≤ 16 ∧ (nd x : Int) ≤ 16 by omega), if_pos (show (16 : Int) - (nd x : Int) ≥ 0 by omega)]
    refine Ev.bind (depth_tree x hx hn) ?_
    rw [decide_eq_true h1, Bool.true_and]
    by_cases h2 : dp x ≤ 6
    · simp only [if_pos (show (dp x : Int) ≤ 6 by omega)]
      refine Ev.bind (all_tree x hx) ?_
      exact ev_some (by rw [decide_eq_true h2, Bool.true_and])
    · simp only [if_neg (show ¬ (dp x : Int) ≤ 6 by omega)]
      exact ev_some (by rw [decide_eq_false h2, Bool.false_and])
  · simp only [if_neg (show ¬ ((0 : Int) ≤ 16 ∧ (nd x : Int) ≤ 16) by omega), if_neg (show ¬ (-1 : Int) ≥ 0 by omega)]
    exact ev_some (by rw [decide_eq_false h1]; rfl)
def nv (d : Int) (x : TI) : Int := if al x = true ∧ (dp x : Int) ≤ d then (if nd x ≤ 17 then (nd x : Int) else 17) else 17
def nvs (d : Int) : List TI → Int
  | [] => 0
  | x :: l => nv d x + nvs d l
theorem nv_bound (d : Int) (x : TI) : 1 ≤ nv d x ∧ nv d x ≤ 17 := by
  have := nd_pos x
  unfold nv
  repeat' split
  all_goals omega
theorem nvs_bound (d : Int) (l : List TI) : (l.length : Int) ≤ nvs d l ∧ nvs d l ≤ 17 * l.length := by
  induction l with
  | nil => exact ⟨Int.le_refl _, Int.le_refl _⟩
  | cons x l ih =>
    have := nv_bound d x
    rw [nvs, List.length_cons]
    omega
theorem nvs_good (d : Int) (hd : 0 ≤ d) (l : List TI) : (als l = true ∧ (dps l : Int) ≤ d → ∀ s : Int, 1 ≤ s → mn (s + nvs d l) 17 = mn (s + nds l) 17) ∧ (¬ (als l = true ∧ (dps l : Int) ≤ d) → 17 ≤ nvs d l) := by
  induction l with
  | nil => exact ⟨fun _ s _ => rfl, fun h => absurd ⟨rfl, by rw [dps]; exact hd⟩ h⟩
  | cons x l ih =>
    have hb := nv_bound d x
    have hbs := nvs_bound d l
    have hp := nd_pos x
    have hx : nv d x = if al x = true ∧ (dp x : Int) ≤ d then (if nd x ≤ 17 then (nd x : Int) else 17) else 17 := rfl
    rw [nvs, nds, als, dps]
    constructor
    · rintro ⟨h1, h2⟩ s hs
      rw [Bool.and_eq_true] at h1
      have i1 := ih.1 ⟨h1.2, by omega⟩ (s + nv d x) (by omega)
      rw [if_pos ⟨h1.1, by omega⟩] at hx
      rw [← Int.add_assoc, i1]
      unfold mn
      rw [hx]
      repeat' split
      all_goals omega
    · intro h
      by_cases hg : al x = true ∧ (dp x : Int) ≤ d
      · have := ih.2 (fun hc => h ⟨by rw [hg.1, hc.1]; rfl, by omega⟩)
        omega
      · rw [if_neg hg] at hx
        omega
theorem nvs_sum (d : Int) (hd : 0 ≤ d) (l : List TI) : mn (1 + nvs d l) 17 = if als l = true ∧ (dps l : Int) ≤ d then (if 1 + nds l ≤ 17 then ((1 + nds l : Nat) : Int) else 17) else 17 := by
  obtain ⟨h1, h2⟩ := nvs_good d hd l
  by_cases hg : als l = true ∧ (dps l : Int) ≤ d
  · rw [if_pos hg, h1 hg 1 (by omega)]
    unfold mn
    repeat' split
    all_goals omega
  · rw [if_neg hg]
    have := h2 hg
    unfold mn
    split <;> omega
theorem nodes_loop (d : Int) (hd : 1 ≤ d) (hd6 : d ≤ 6) {l : List TI} (hl : l.length ≤ 2) (ih : ∀ y ∈ l, Ev (fun k => impl_nodesOf.f k y.f0 y.f1 y.f2 (d - 1)) (nv (d - 1) y)) :
    ∀ (e i : Nat) (s : Int), i + e = l.length → 0 ≤ s → s ≤ 1 + 17 * (i : Int) → Ev (fun k => impl_nodesOf.l0 k d s l (l.length : Int) (i : Int)) (mn (s + nvs (d - 1) (l.drop i)) 17) := by
  intro e
  induction e with
  | zero =>
    intro i s h h0 h1
    refine next ?_
    simp only [impl_nodesOf.l0, if_neg (show ¬ (i : Int) < (l.length : Int) by omega)]
    rw [List.drop_eq_nil_of_le (by omega), nvs, Int.add_zero]
    exact Ev.now _
  | succ e ihe =>
    intro i s h h0 h1
    have hi : i < l.length := by omega
    refine next ?_
    have hb := nv_bound (d - 1) l[i]
    simp only [impl_nodesOf.l0, if_pos (show (i : Int) < (l.length : Int) by omega), if_pos (show (0 : Int) ≤ (i : Int) by omega), rdTI l i hi, w64 (show -9223372036854775808 ≤ d - 1 by omega) (by omega)]
    refine Ev.bind (ih _ (List.getElem_mem hi)) ?_
    simp only [up1 (show i < 9223372036854775807 by omega), w64 (show -9223372036854775808 ≤ s + nv (d - 1) l[i] by omega) (by omega)]
    refine ev_eq (ihe (i + 1) _ (by omega) (by omega) (by omega)) ?_
    rw [List.drop_eq_getElem_cons hi, nvs, Int.add_assoc]
theorem nodes_tree : ∀ x : TI, Thin x → ∀ d : Int, 0 ≤ d → d ≤ 6 → Ev (fun k => impl_nodesOf.f k x.f0 x.f1 x.f2 d) (nv d x) := by
  refine TI.ind fun x ih hx d h0 h1 => ?_
  obtain ⟨_, hl, hs, hc⟩ := hx
  have hdp := dp_pos x
  refine next ?_
  by_cases hd0 : d = 0
  · subst hd0
    simp only [impl_nodesOf.f, if_true]
    refine next ?_
    simp only [impl_nodesOf.j0, if_true]
    exact ev_some (by unfold nv; rw [if_neg (by omega)])
  · simp only [impl_nodesOf.f, if_neg hd0]
    refine Ev.bind (argsN_impl x.f0) ?_
    refine next ?_
    have hbad : shp x = false → (17 : Int) = nv d x := fun hb => by
      unfold nv
      rw [if_neg]
      rintro ⟨ha, _⟩
      rw [al_eq, hb, Bool.and_false] at ha
      cases ha
    by_cases hlen : (x.f2.length : Int) = argsN x.f0
    · have hl2 : x.f2.length ≤ 2 := by
        have : argsN x.f0 ≤ 2 := by unfold argsN; repeat' split <;> omega
        omega
      have hj1 : shp x = true → Ev (fun k => impl_nodesOf.j1 k d x.f0 x.f1 x.f2) (nv d x) := fun hsh => by
        refine next ?_
        simp only [impl_nodesOf.j1]
        refine ev_eq (nodes_loop d (by omega) h1 hl2 (fun y hy => ih y hy (hc y hy) (d - 1) (by omega) (by omega)) x.f2.length 0 1 (by omega) (by omega) (by omega)) ?_
        rw [List.drop_zero, nvs_sum (d - 1) (by omega)]
        unfold nv
        rw [al_eq, hsh, Bool.and_true, nd_eq]
        have : (dps x.f2 : Int) ≤ d - 1 ↔ (dp x : Int) ≤ d := by rw [dp_eq]; omega
        simp only [this]
      simp only [impl_nodesOf.j0, show ((x.f2.length : Int) != argsN x.f0) = false from by rw [bne_eq_false_iff_eq]; exact hlen, Bool.false_eq_true, if_false]
      by_cases h3 : x.f0 = 3
      · simp only [if_pos h3]
        by_cases hz : (x.f1.size : Int) = 1
        · simp only [if_pos hz]
          refine Ev.bind (impl_word x.f1 (by omega)) ?_
          cases hw : word x.f1 with
          | false =>
            simp only [Bool.false_eq_true, if_false]
            exact ev_some (hbad (by unfold shp; rw [if_pos h3, hw]; simp))
          | true =>
            simp only [if_true]
            exact hj1 (by unfold shp; rw [if_pos h3, hw, decide_eq_true hlen, decide_eq_true (show x.f1.size = 1 by omega)]; rfl)
        · simp only [if_neg hz]
          exact ev_some (hbad (by unfold shp; rw [if_pos h3, decide_eq_false (show ¬ x.f1.size = 1 by omega)]; simp))
      · simp only [if_neg h3]
        by_cases he : x.f1.toList = ([] : List UInt8)
        · simp only [if_pos he]
          exact hj1 (by unfold shp; rw [if_neg h3, decide_eq_true hlen, decide_eq_true (show x.f1 = (⟨#[]⟩ : ByteArray) from toList_iff.mp (he.trans empty_list.symm))]; rfl)
        · simp only [if_neg he]
          exact ev_some (hbad (by unfold shp; rw [if_neg h3, decide_eq_false (show ¬ x.f1 = (⟨#[]⟩ : ByteArray) from fun e => he (by rw [e]; exact empty_list))]; simp))
    · simp only [impl_nodesOf.j0, show ((x.f2.length : Int) != argsN x.f0) = true from by rw [bne_iff_ne]; exact hlen, if_true]
      exact ev_some (hbad (by unfold shp; rw [decide_eq_false hlen]; rfl))
theorem impl_validR (x : TI) (hx : Thin x) : Ev (fun k => impl_IsValidRegex.f k x.f0 x.f1 x.f2) (validR x) := by
  simp only [impl_IsValidRegex.f]
  refine Ev.bind (nodes_tree x hx 6 (by omega) (by omega)) ?_
  refine ev_some ?_
  unfold validR nv
  have e6 : ((dp x : Int) ≤ 6) ↔ dp x ≤ 6 := by omega
  by_cases ha : al x = true
  · by_cases hd : dp x ≤ 6
    · rw [if_pos ⟨ha, by omega⟩, ha, decide_eq_true hd, Bool.and_true, Bool.and_true]
      by_cases hn : nd x ≤ 16
      · rw [decide_eq_true hn]
        simp only [decide_eq_true_eq]
        split <;> omega
      · rw [decide_eq_false hn]
        simp only [decide_eq_false_iff_not]
        split <;> omega
    · rw [if_neg (by omega), decide_eq_false hd, Bool.and_false, Bool.false_and]
      rfl
  · simp only [Bool.not_eq_true] at ha
    rw [if_neg (by rw [ha]; simp), ha, Bool.and_false]
    rfl
end Go.Proofs.Ytldgkgdgcfllmaa.Pl
end
section
namespace Go.Proofs.Ytldgkgdgcfllmaa.Rg
open Go.RowKit Go.Proofs.Ytldgkgdgcfllmaa.P Go.Proofs.Ytldgkgdgcfllmaa.Pl Go.Proofs.YtldgkgdgcfllmaaW.PrintWords Go.Proofs.YtldgkgdgcfllmaaW.PrintLast Go.Proofs.YtldgkgdgcfllmaaW.PrintMore
set_option linter.unusedVariables false
set_option linter.unusedSimpArgs false
def leafRx (k : Int) (l : ByteArray) : Option Rx := if k = 1 then some .none else if k = 2 then some .empty else if k = 3 then some (.letter l) else if k = 4 then some .any else none
def oneRx (k : Int) (x : Rx) : Option Rx := if k = 8 then some (.star x) else if k = 9 then some (.not x) else none
def twoRx (k : Int) (x y : Rx) : Option Rx := if k = 5 then some (.cat x y) else if k = 6 then some (.or x y) else if k = 7 then some (.and x y) else none
def toRx : Nat → Tr → Option Rx
  | 0, _ => none
  | n + 1, r => match r.f2 with
    | [] => leafRx r.f0 r.f1
    | [a] => (toRx n a).bind (oneRx r.f0)
    | [a, b] => (toRx n a).bind fun x => (toRx n b).bind (twoRx r.f0 x)
    | _ => none
theorem ax_toRx {r : Tr} {x : Rx} (h : Ax r x) : ∀ n, sz x < n → toRx n r = some x := by
  induction h with
  | none l | empty l | letter l | any l =>
    intro n hn
    cases n with
    | zero => omega
    | succ n => simp [toRx, leafRx]
  | star l ha ih | not l ha ih =>
    intro n hn
    simp only [sz] at hn
    cases n with
    | zero => omega
    | succ n => simp [toRx, ih n (by omega), oneRx]
  | cat l ha hb iha ihb | or l ha hb iha ihb | and l ha hb iha ihb =>
    intro n hn
    simp only [sz] at hn
    cases n with
    | zero => omega
    | succ n => simp [toRx, iha n (by omega), ihb n (by omega), twoRx]
end Go.Proofs.Ytldgkgdgcfllmaa.Rg
end
section
namespace Go.Proofs.Ytldgkgdgcfllmaa.Rg
open Go.RowKit Go.Shelf Go.Proofs.Ytldgkgdgcfllmaa.P Go.Proofs.Ytldgkgdgcfllmaa.Pl Go.Proofs.YtldgkgdgcfllmaaW.PrintWords Go.Proofs.YtldgkgdgcfllmaaW.PrintLast Go.Proofs.YtldgkgdgcfllmaaW.PrintMore
set_option linter.unusedVariables false
set_option linter.unusedSimpArgs false
section
variable {w0 W W1 W' W2 : World} {gm g : Nat} {s : ByteArray} {N : Nat} {E : Nat → Bool} {t t' : List Int} {b : Bool} {e : Ending}
end
end Go.Proofs.Ytldgkgdgcfllmaa.Rg
end
section
namespace Go.Proofs.Ytldgkgdgcfllmaa.Rg
open Go.RowKit Go.Shelf Go.Proofs.Ytldgkgdgcfllmaa.P Go.Proofs.Ytldgkgdgcfllmaa.Pl Go.Proofs.YtldgkgdgcfllmaaW.PrintWords Go.Proofs.YtldgkgdgcfllmaaW.PrintLast Go.Proofs.YtldgkgdgcfllmaaW.PrintMore
set_option linter.unusedVariables false
set_option linter.unusedSimpArgs false
def upd (V : Nat → Nat → Nat → Int) (n i j : Nat) (x : Int) : Nat → Nat → Nat → Int := fun n' i' j' => if n' = n ∧ i' = i ∧ j' = j then x else V n' i' j'
section
variable {w0 w1 W W' : World} {T N : Nat} {b : Nat → Nat → Nat} {V : Nat → Nat → Nat → Int}
end
section
variable {E : Nat → Nat → Nat → Bool} {V V' V2 : Nat → Nat → Nat → Int} {n p : Nat}
end
end Go.Proofs.Ytldgkgdgcfllmaa.Rg
end
section
namespace Go.Proofs.Ytldgkgdgcfllmaa.Rg
open Go.RowKit Go.Shelf Go.Proofs.Ytldgkgdgcfllmaa.P Go.Proofs.Ytldgkgdgcfllmaa.Pl Go.Proofs.YtldgkgdgcfllmaaW.PrintWords Go.Proofs.YtldgkgdgcfllmaaW.PrintLast Go.Proofs.YtldgkgdgcfllmaaW.PrintMore
set_option linter.unusedVariables false
set_option linter.unusedSimpArgs false
section
variable {w0 w1 W W' W2 : World} {T N n p : Nat} {b : Nat → Nat → Nat} {E : Nat → Nat → Nat → Bool} {V V' : Nat → Nat → Nat → Int} {r : Bool} {e : Ending}
end
end Go.Proofs.Ytldgkgdgcfllmaa.Rg
end
section
namespace Go.Proofs.Ytldgkgdgcfllmaa.P
open Go.RowKit Go.Proofs.YtldgkgdgcfllmaaW.PrintWords Go.Proofs.YtldgkgdgcfllmaaW.PrintLast Go.Proofs.YtldgkgdgcfllmaaW.PrintMore
attribute [local go_sem] max2_int min2_int max_two min_two max_three min_three max_four min_four
set_option linter.unusedVariables false
set_option linter.unusedSimpArgs false
end Go.Proofs.Ytldgkgdgcfllmaa.P
end
