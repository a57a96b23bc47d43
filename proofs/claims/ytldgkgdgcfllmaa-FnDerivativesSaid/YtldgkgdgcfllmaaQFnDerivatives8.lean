/- Texts of the proof of FnDerivatives, put together. No condition. -/
import Derived.Shelf.Abstract
import Derived.Lib.Walk
import Derived.Test.YtldgkgdgcfllmaaQFnDerivatives7
import Derived.Test.YtldgkgdgcfllmaaQFnDerivatives3
import Derived.Laws.MakeOwn
import Derived.Test.YtldgkgdgcfllmaaQFnDerivatives5
import Derived.Test.YtldgkgdgcfllmaaQFnDerivatives4
section
namespace Go.Proofs.Ytldgkgdgcfllmaa.Rg
open Go.RowKit Go.Shelf Go.Proofs.Ytldgkgdgcfllmaa.P Go.Proofs.Ytldgkgdgcfllmaa.Pl Go.Proofs.YtldgkgdgcfllmaaW.PrintWords Go.Proofs.YtldgkgdgcfllmaaW.PrintLast Go.Proofs.YtldgkgdgcfllmaaW.PrintMore
set_option linter.unusedVariables false
set_option linter.unusedSimpArgs false
structure FN (w0 wr : World) (gz : Nat) (vb : Option Nat) (s : ByteArray) (va vm : Value) (g1 n c1 : Nat) (cur : Value) (L : List Value) (w' : World) : Prop where
  own : w'.ownsRow w0.heap.size 29 3 (.slice (some ⟨g1, 0, none⟩) n c1) n L
  box : w'.heap[gz]? = some (.cells #[.string s, cur, va, vm] 83 (0, 0))
  same : ∀ k, k < wr.heap.size → some k ≠ vb → k ≠ gz → w'.heap[k]? = wr.heap[k]?
  bel : Below w0.heap.size w0 w'
  at1 : vb = some g1 ∨ wr.heap.size ≤ g1
  gg : w0.heap.size ≤ gz
  sz : wr.heap.size ≤ w'.heap.size
section
variable {w0 wr w' : World} {gz : Nat} {vb : Option Nat} {s : ByteArray} {va vm cur : Value} {g1 n c1 : Nat} {L : List Value}
theorem FN.blk (h : FN w0 wr gz vb s va vm g1 n c1 cur L w') : ∃ c, w'.heap[g1]? = some (.cells c 29 (0, 0)) := own_typed h.own g1 (by simp [Value.ownBlock])
theorem FN.ne (h : FN w0 wr gz vb s va vm g1 n c1 cur L w') : g1 ≠ gz := by
  obtain ⟨c, hc⟩ := h.blk
  exact blk_ne hc h.box (by decide)
theorem FN.st (h : FN w0 wr gz vb s va vm g1 n c1 cur L w') (j : Nat) (u : Value) : FN w0 wr gz vb s va vm g1 n c1 cur (L.set j u) (w'.setCell ⟨g1, j, none⟩ u) := by
  have h1 := World.ownsRow.stored h.own j u
  refine ⟨h1.1, blk_far h.box (Ne.symm h.ne) u, fun k hk hn hz => (h1.2.block k (Nat.lt_of_lt_of_le hk h.sz) (fun e => ?_)).trans (h.same k hk hn hz), below_set h.bel (own_base h.own g1 (by simp [Value.ownBlock])), h.at1, h.gg, Nat.le_trans h.sz h1.2.size⟩
  cases e
  rcases h.at1 with a | a
  · exact hn a.symm
  · omega
theorem FN.bx (h : FN w0 wr gz vb s va vm g1 n c1 cur L w') (u : Value) : FN w0 wr gz vb s va vm g1 n c1 u L (w'.setCell ⟨gz, 1, none⟩ u) := by
  refine ⟨own_move h.own (fun k hk => ?_), blk_put h.box 1 u rfl, fun k hk hn hz => (Below.heap_setCell w' ⟨gz, 1, none⟩ u k hz).trans (h.same k hk hn hz), below_set h.bel h.gg, h.at1, h.gg, by simpa [World.setCell] using h.sz⟩
  have e : k = g1 := by simpa [Value.ownBlock] using hk.symm
  subst e
  exact Below.heap_setCell w' ⟨gz, 1, none⟩ u k h.ne
theorem FN.cell (h : FN w0 wr gz vb s va vm g1 n c1 cur L w') {j : Nat} {u : Value} (hj : L[j]? = some u) : w'.cell? ⟨g1, j, none⟩ = some u ∧ w'.frozen? ⟨g1, j, none⟩ = false := by
  have hl := (List.getElem?_eq_some_iff.mp hj).1
  exact ⟨by rw [World.ownsRow.cellAt h.own j (by rw [← h.own.1]; exact hl)]; exact hj, World.ownsRow.frozenAt h.own j⟩
end
theorem set3 (L : List Value) {m : Nat} (hm : L.length = m) (z0 z1 z2 a b c : Value) : (((L ++ [z0, z1, z2]).set m a).set (m + 1) b).set (m + 2) c = L ++ [a, b, c] := by
  subst hm
  rw [List.set_append_right _ _ (Nat.le_refl _), Nat.sub_self]
  rw [List.set_append_right _ _ (by omega), show L.length + 1 - L.length = 1 by omega]
  rw [List.set_append_right _ _ (by omega), show L.length + 2 - L.length = 2 by omega]
  rfl
theorem at3 (L : List Value) {m : Nat} (hm : L.length = m) (z0 z1 z2 : Value) : (L ++ [z0, z1, z2])[m]? = some z0 ∧ (L ++ [z0, z1, z2])[m + 1]? = some z1 ∧ (L ++ [z0, z1, z2])[m + 2]? = some z2 := by
  subst hm
  refine ⟨?_, ?_, ?_⟩ <;> rw [List.getElem?_append_right (by omega)]
  · rw [Nat.sub_self]; rfl
  · rw [show L.length + 1 - L.length = 1 by omega]; rfl
  · rw [show L.length + 2 - L.length = 2 by omega]; rfl
structure Qs (w0 W0 W : World) (ok0 ok1 : Nat → Prop) (gz : Nat) (s : ByteArray) (N : Nat) (X : List Rx) (C : List (List Int)) (T : Nat) (b : Nat → Nat → Nat) (vn va vm : Value) (NC AC MC : List Value) (t7 c7 : Nat) (g : Nat → Nat) (TC : List Value) (v5 : Value) (a1 : List Int) : Prop where
  bd : Bd w0 W gz s N X C T b vn va vm NC AC MC ok1
  row : W.ownsRow w0.heap.size 3 1 v5 a1.length (nums .i64 a1)
  tab : W.ownsRow w0.heap.size 96 1 (.slice (some ⟨t7, 0, none⟩) N c7) N TC
  tno : ¬ ok1 t7 ∧ W0.heap.size ≤ t7
  tc : ∀ i, i < N → TC[i]? = some (.slice (some ⟨g i, 0, none⟩) N N)
  rows : ∀ i, i < N → W.heap[g i]? = some (.cells (encf N (fun _ => 0)) 3 (0, 0)) ∧ ¬ ok1 (g i) ∧ some (g i) ≠ v5.ownBlock ∧ W0.heap.size ≤ g i ∧ w0.heap.size ≤ g i
  inj : ∀ i j, i < N → j < N → g i = g j → i = j
  fr : ∀ k, k < W0.heap.size → ¬ ok0 k → W.heap[k]? = W0.heap[k]?
  sub : ∀ k, ok1 k → ok0 k ∨ W0.heap.size ≤ k
  rge : ∀ k, v5.ownBlock = some k → W0.heap.size ≤ k
  sz : W0.heap.size ≤ W.heap.size
section
variable {w0 W0 W W' : World} {ok0 ok1 : Nat → Prop} {gz gb : Nat} {bx : Array Value} {s : ByteArray} {N T : Nat} {X : List Rx} {C : List (List Int)} {b : Nat → Nat → Nat} {vn va vm v1 v5 : Value} {NC AC MC TC : List Value} {t7 c7 : Nat} {g : Nat → Nat} {a1 : List Int}
theorem Qs.node (h : P2 w0 W0 W ok0 ok1 gz gb bx s N X C v5 a1 (.slice (some ⟨t7, 0, none⟩) N c7) N g TC) (hb : Bd w0 W gz s N X C T b vn va vm NC AC MC ok1) {x : Rx} {f0 : Int} {f1 : ByteArray} {u2 : Value} (h0 : f0 = kindOf x) (hx : ∀ c, x = .letter c → f1 = c) {g1 c1 : Nat}
    (hf : FN w0 W gz vn.ownBlock s va vm g1 (X.length + 1) c1 (.slice (some ⟨g1, 0, none⟩) (X.length + 1) c1) (NC ++ [.int .i64 f0, .string f1, u2]) W') :
    Qs w0 W0 W' ok0 (fun k => (ok1 k ∧ k < W.heap.size) ∨ k = g1) gz s N (X ++ [x]) C T b (.slice (some ⟨g1, 0, none⟩) (X.length + 1) c1) va vm (NC ++ [.int .i64 f0, .string f1, u2]) AC MC t7 c7 g TC v5 a1 ∧ ∀ k, v5.ownBlock = some k → ¬ ((ok1 k ∧ k < W.heap.size) ∨ k = g1) := by
  subst h0
  have hbs := hb.step (W' := W) (fun k _ _ => rfl) hb.bel
  have hbn := hbs.node hx hf.same hf.own hf.box hf.bel
  have hg1 : ∀ k, k < W.heap.size → some k ≠ vn.ownBlock → k ≠ g1 := fun k hk hn e => by
    subst e
    rcases hf.at1 with a | a
    · exact hn a.symm
    · omega
  have hgz1 := hb.og.1
  have ty : ∀ {k : Nat} {t : TypeId} {c : Array Value}, W.heap[k]? = some (.cells c t (0, 0)) → 29 ≠ t → 83 ≠ t → W'.heap[k]? = some (.cells c t (0, 0)) ∧ k ≠ g1 := fun hk n1 n2 =>
    ⟨(hf.same _ (blk_lt hk) (own_type hb.nod hk n1) (fun e => by subst e; exact blk_ne hb.box hk n2 rfl)).trans hk, hg1 _ (blk_lt hk) (own_type hb.nod hk n1)⟩
  have tr : ∀ {e size n : Nat} {v : Value} {xs : List Value}, W.ownsRow w0.heap.size e size v n xs → 29 ≠ e → 83 ≠ e → W'.ownsRow w0.heap.size e size v n xs ∧ ∀ k, v.ownBlock = some k → k ≠ g1 := fun hr n1 n2 =>
    ⟨own_move hr (fun k hk => by obtain ⟨c, hc⟩ := own_typed hr k hk; exact (ty hc n1 n2).1.trans hc.symm), fun k hk => by obtain ⟨c, hc⟩ := own_typed hr k hk; exact (ty hc n1 n2).2⟩
  have hrow := tr h.p1.row (by decide) (by decide)
  have htab := tr h.tab (by decide) (by decide)
  refine ⟨⟨hbn.mono (fun k hk => hk.imp id (fun e => by simpa [Value.ownBlock] using e)), hrow.1, htab.1, ⟨?_, (h.tno t7 (by simp [Value.ownBlock])).2.2.2⟩, h.tc, fun i hi => ?_, h.inj, fun k hk hn => ?_, fun k hk => ?_, h.p1.rge, Nat.le_trans h.p1.sz hf.sz⟩, fun k hk => ?_⟩
  · rintro (a | a)
    · exact (h.tno t7 (by simp [Value.ownBlock])).1 a.1
    · exact htab.2 t7 (by simp [Value.ownBlock]) a
  · obtain ⟨c1, c2, c3, c4, c5, c6⟩ := h.rows i hi
    have := ty c1 (by decide) (by decide)
    refine ⟨this.1, ?_, c3, c5, c6⟩
    rintro (a | a)
    · exact c2 a.1
    · exact this.2 a
  · have nk : ¬ ok1 k := fun a => by
      rcases h.p1.sub k a with q | q
      · exact hn q
      · omega
    exact (hf.same k (Nat.lt_of_lt_of_le hk h.p1.sz) (fun e => nk (hb.on k e.symm)) (fun e => nk (by rw [e]; exact hb.og.1))).trans (h.p1.fr k hk hn)
  · rcases hk with a | a
    · exact h.p1.sub k a.1
    · subst a
      rcases hf.at1 with q | q
      · exact h.p1.sub k (hb.on k q)
      · exact Or.inr (Nat.le_trans h.p1.sz q)
  · rintro (a | a)
    · exact (h.p1.rno k hk).1 a.1
    · exact hrow.2 k hk a
theorem Qs.args (h : Qs w0 W0 W ok0 ok1 gz s N X C T b vn va vm NC AC MC t7 c7 g TC v5 a1) (hrn : ∀ k, v5.ownBlock = some k → ¬ ok1 k) {W1 : World}
    (ho : W1.ownsRow w0.heap.size 96 1 v1 (C.length + 1) (AC ++ [v5])) (hb : Below w0.heap.size w0 W1) (hg : W.grownBy W1 va.ownBlock) (hat : v1.ownBlock = va.ownBlock ∨ ∃ k, v1.ownBlock = some k ∧ W.heap.size ≤ k) :
    Qs w0 W0 (W1.setCell ⟨gz, 2, none⟩ v1) ok0 (fun k => (ok1 k ∧ k < W.heap.size) ∨ some k = v1.ownBlock ∨ some k = v5.ownBlock) gz s N X (C ++ [a1]) T b vn v1 vm NC (AC ++ [v5]) MC t7 c7 g TC (.slice none 0 0) [] := by
  have hbs := h.bd.step (W' := W) (fun k _ _ => rfl) h.bd.bel
  have hsame : ∀ k, k < W.heap.size → some k ≠ va.ownBlock → k ≠ gz → (W1.setCell ⟨gz, 2, none⟩ v1).heap[k]? = W.heap[k]? := fun k hk hn hz => (Below.heap_setCell W1 ⟨gz, 2, none⟩ v1 k hz).trans (hg.block k hk hn)
  have hbox1 := blk_grown h.bd.box hg (own_type h.bd.arg h.bd.box (by decide))
  have hbox := blk_put hbox1 2 v1 (cs' := #[.string s, vn, v1, vm]) rfl
  have ho2 : (W1.setCell ⟨gz, 2, none⟩ v1).ownsRow w0.heap.size 96 1 v1 (C.length + 1) (AC ++ [v5]) := own_move ho (fun k hk => Below.heap_setCell W1 ⟨gz, 2, none⟩ v1 k (by
    obtain ⟨c, hc⟩ := own_typed ho k hk
    exact blk_ne hc hbox1 (by decide)))
  have hbb := below_set (j := 2) (v := v1) hb h.bd.og.2
  have hbn := hbs.args hsame hat ho2 h.row (fun k hk a => hrn k hk a.1) hbox hbb
  have nv : ∀ {k : Nat}, k < W.heap.size → some k ≠ va.ownBlock → some k ≠ v1.ownBlock := fun hk hn e => by
    rcases hat with a | ⟨k2, a, a2⟩
    · rw [a] at e; exact hn e
    · rw [a] at e; cases e; omega
  have kb : ∀ {k : Nat} {t : TypeId} {c : Array Value}, W.heap[k]? = some (.cells c t (0, 0)) → some k ≠ va.ownBlock → 83 ≠ t → (W1.setCell ⟨gz, 2, none⟩ v1).heap[k]? = some (.cells c t (0, 0)) := fun hk n1 n2 =>
    (hsame _ (blk_lt hk) n1 (fun e => by subst e; exact blk_ne h.bd.box hk n2 rfl)).trans hk
  have t7b : (Value.slice (some ⟨t7, 0, none⟩) N c7).ownBlock = some t7 := by simp [Value.ownBlock]
  have t7n : some t7 ≠ va.ownBlock := fun e => h.tno.1 (h.bd.oa t7 e.symm)
  obtain ⟨ct, hct⟩ := own_typed h.tab t7 t7b
  refine ⟨hbn, own_nil _ _ _ _, own_move h.tab (fun k hk => ?_), ⟨?_, h.tno.2⟩, h.tc, fun i hi => ?_, h.inj, fun k hk hn => ?_, fun k hk => ?_, fun k hk => by simp [Value.ownBlock] at hk, by simpa [World.setCell] using Nat.le_trans h.sz hg.size⟩
  · have e : k = t7 := by rw [t7b] at hk; exact (Option.some.inj hk).symm
    subst e
    exact (kb hct t7n (by decide)).trans hct.symm
  · rintro (a | a | a)
    · exact h.tno.1 a.1
    · exact nv (blk_lt hct) t7n a
    · exact own_type h.row hct (by decide) a
  · obtain ⟨c1, c2, c3, c5, c6⟩ := h.rows i hi
    have hn := own_type h.bd.arg c1 (by decide)
    refine ⟨kb c1 hn (by decide), ?_, by simp [Value.ownBlock], c5, c6⟩
    rintro (a | a | a)
    · exact c2 a.1
    · exact nv (blk_lt c1) hn a
    · exact c3 a
  · have nk : ¬ ok1 k := fun a => by
      rcases h.sub k a with q | q
      · exact hn q
      · omega
    exact (hsame k (Nat.lt_of_lt_of_le hk h.sz) (fun e => nk (h.bd.oa k e.symm)) (fun e => nk (by rw [e]; exact h.bd.og.1))).trans (h.fr k hk hn)
  · rcases hk with a | a | a
    · exact h.sub k a.1
    · rcases hat with q | ⟨k2, q, q2⟩
      · rw [q] at a; exact h.sub k (h.bd.oa k a.symm)
      · rw [q] at a; cases a; exact Or.inr (Nat.le_trans h.sz q2)
    · exact Or.inr (h.rge k a.symm)
theorem Qs.memo (h : Qs w0 W0 W ok0 ok1 gz s N X C T b vn va vm NC AC MC t7 c7 g TC v5 a1) {W1 : World}
    (ho : W1.ownsRow w0.heap.size 80 1 v1 (T + 1) (MC ++ [.slice (some ⟨t7, 0, none⟩) N c7])) (hb : Below w0.heap.size w0 W1) (hg : W.grownBy W1 vm.ownBlock) (hat : v1.ownBlock = vm.ownBlock ∨ ∃ k, v1.ownBlock = some k ∧ W.heap.size ≤ k) :
    Bdx w0 (W1.setCell ⟨gz, 3, none⟩ v1) gz s N X C (T + 1) (fun k => ok0 k ∨ W0.heap.size ≤ k) ∧ (∀ k, k < W0.heap.size → ¬ ok0 k → (W1.setCell ⟨gz, 3, none⟩ v1).heap[k]? = W0.heap[k]?) ∧ W0.heap.size ≤ (W1.setCell ⟨gz, 3, none⟩ v1).heap.size ∧ (W1.setCell ⟨gz, 3, none⟩ v1).cell? ⟨gz, 1, none⟩ = some vn := by
  have hsame : ∀ k, k < W.heap.size → some k ≠ vm.ownBlock → k ≠ gz → (W1.setCell ⟨gz, 3, none⟩ v1).heap[k]? = W.heap[k]? := fun k hk hn hz => (Below.heap_setCell W1 ⟨gz, 3, none⟩ v1 k hz).trans (hg.block k hk hn)
  have hbox1 := blk_grown h.bd.box hg (own_type h.bd.mem h.bd.box (by decide))
  have hbox := blk_put hbox1 3 v1 (cs' := #[.string s, vn, va, v1]) rfl
  have ho2 : (W1.setCell ⟨gz, 3, none⟩ v1).ownsRow w0.heap.size 80 1 v1 (T + 1) (MC ++ [.slice (some ⟨t7, 0, none⟩) N c7]) := own_move ho (fun k hk => Below.heap_setCell W1 ⟨gz, 3, none⟩ v1 k (by
    obtain ⟨c, hc⟩ := own_typed ho k hk
    exact blk_ne hc hbox1 (by decide)))
  have hbb := below_set (j := 3) (v := v1) hb h.bd.og.2
  have hbn := h.bd.memo hsame ho2 h.tab h.tno.1 h.tc (fun i hi => by
    obtain ⟨c1, c2, c3, c5, c6⟩ := h.rows i hi
    exact ⟨c1, c2, c6⟩) h.inj hbox hbb
  refine ⟨⟨_, _, _, _, _, _, _, hbn.mono (fun k hk => ?_)⟩, fun k hk hn => ?_, by simpa [World.setCell] using Nat.le_trans h.sz hg.size, (blk_cell hbox 1).trans rfl⟩
  · rcases hk with a | a | a | ⟨i, hi, a⟩
    · exact h.sub k a
    · rcases hat with q | ⟨k2, q, q2⟩
      · rw [q] at a; exact h.sub k (h.bd.om k a.symm)
      · rw [q] at a; cases a; exact Or.inr (Nat.le_trans h.sz q2)
    · rw [a]; exact Or.inr h.tno.2
    · rw [a]; exact Or.inr (h.rows i hi).2.2.2.1
  · have nk : ¬ ok1 k := fun a => by
      rcases h.sub k a with q | q
      · exact hn q
      · omega
    exact (hsame k (Nat.lt_of_lt_of_le hk h.sz) (fun e => nk (h.bd.om k e.symm)) (fun e => nk (by rw [e]; exact h.bd.og.1))).trans (h.fr k hk hn)
end
end Go.Proofs.Ytldgkgdgcfllmaa.Rg
end
section
namespace Go.Proofs.Ytldgkgdgcfllmaa.Rg
open Go.RowKit Go.Shelf Go.Proofs.Ytldgkgdgcfllmaa.P Go.Proofs.Ytldgkgdgcfllmaa.Pl Go.Proofs.YtldgkgdgcfllmaaW.PrintWords Go.Proofs.YtldgkgdgcfllmaaW.PrintLast Go.Proofs.YtldgkgdgcfllmaaW.PrintMore
set_option linter.unusedVariables false
set_option linter.unusedSimpArgs false
theorem infI : (Try.prog.info? 3).map (fun i => (i.zero, i.size, i.bytes)) = some (some (.int .i64 0), 1, 8) := by kernel_rfl
theorem infR : (Try.prog.info? 96).map (fun i => (i.zero, i.size, i.bytes)) = some (some (.slice none 0 0), 1, 24) := by kernel_rfl
theorem infT : (Try.prog.info? 80).map (fun i => (i.zero, i.size, i.bytes)) = some (some (.slice none 0 0), 1, 24) := by kernel_rfl
theorem undR : Try.prog.underlying 96 = some (.slice 3) := by kernel_rfl
theorem undT : Try.prog.underlying 80 = some (.slice 96) := by kernel_rfl
theorem undM : Try.prog.underlying 81 = some (.slice 80) := by kernel_rfl
theorem made64 (n : Nat) : madeCells (Value.int .i64 0).cells (n * 1) = encf n (fun _ => 0) := by
  unfold madeCells encf
  rw [Nat.mul_one]
  apply Array.toList_inj.mp
  simp only [Array.toList_map, Array.toList_range]
  refine List.ext_getElem (by simp) (fun i h1 h2 => ?_)
  simp [Value.cells, Nat.mod_one]
theorem make64 (W : World) (n : Nat) (hn : n ≤ 100000000) : (Instr.makeSlice 96 (.int .i64 (n : Int)) (.int .i64 (n : Int))).run Try.prog W = .ok (.slice (some ⟨W.heap.size, 0, none⟩) n n) (W.alloc (.cells (encf n (fun _ => 0)) 3)) := by
  obtain ⟨i, hi, hz⟩ := Option.map_eq_some_iff.1 infI
  simp only [Prod.mk.injEq] at hz
  obtain ⟨h0, h1, h2⟩ := hz
  have := run_make (P := Try.prog) W 96 3 i (.int .i64 0) undR hi h0 .i64 .i64 (n : Int) (n : Int) (by omega) (Int.le_refl _) (by rw [h2]; omega) (by omega)
  rw [h1, Int.toNat_natCast, made64] at this
  exact this
theorem Bdx.str {w0 W : World} {gz : Nat} {s : ByteArray} {N T : Nat} {X : List Rx} {C : List (List Int)} {ok : Nat → Prop} (h : Bdx w0 W gz s N X C T ok) : W.cell? ⟨gz, 0, none⟩ = some (.string s) := by
  obtain ⟨b, vn, va, vm, NC, AC, MC, h⟩ := h
  exact (blk_cell h.box 0).trans rfl
theorem pcl_len (ys : List Rx) : ∀ b, (pcl ys b).length = szl ys := by
  induction ys with
  | nil => intro b; rfl
  | cons y t ih => intro b; simp only [pcl, szl, List.length_append, pcs_len, ih]
theorem szl_len (ys : List Rx) : ys.length ≤ szl ys := by
  induction ys with
  | nil => simp [szl]
  | cons y t ih => have := sz_pos y; simp only [List.length_cons, szl]; omega
theorem nml_len (ys : List Rx) : ∀ b, (nml ys b).length = ys.length := by
  induction ys with
  | nil => intro b; rfl
  | cons y t ih => intro b; simp only [nml, List.length_cons, ih]
theorem szl_take {ys : List Rx} {k : Nat} {y : Rx} (h : ys[k]? = some y) : szl (ys.take k) + sz y ≤ szl ys := by
  induction ys generalizing k with
  | nil => simp at h
  | cons z t ih =>
    cases k with
    | zero => cases h; simp only [List.take_zero, szl]; omega
    | succ k => have := ih (k := k) (by simpa using h); simp only [List.take_succ_cons, szl]; omega
theorem take_snoc {ys : List Rx} {k : Nat} {y : Rx} (h : ys[k]? = some y) : ys.take (k + 1) = ys.take k ++ [y] := by
  rw [List.take_add_one, h]; rfl
section
variable {P : Program} {md : Region.Mode} {ops : Array Oper} {Q : Exit → Act → World → Prop} {S : World → Prop} {ds : List Nat}
theorem two_last_ {i j : Nat} {Ni Nj : Option Tmp} {oi oj : Oper} {fuel : Nat} {l : Array Bool} {a : Act} {w : World} (li lj : Array Bool) (hi : ops[i]? = some oi) (hj : ops[j]? = some oj) (hNi : oi.dst = Ni) (hNj : oj.dst = Nj)
    (hc : (Region.ready md ops l == [i, j] && l.setIfInBounds i true == li && l.setIfInBounds j true == lj) = true) (hdi : i ∈ ds) (hdj : j ∈ ds)
    (h1 : ∀ K : Act → World → Prop, Shut (∀ a' w', wpAnyLast P md ops Q S ds fuel li a' w' → K a' w') → if Region.wanted oi (yielded ops a.tmps) = true then Oper.wp P oi a w K Q else K (a.put Ni undef) w)
    (h2 : ∀ K : Act → World → Prop, Shut (∀ a' w', wpAnyLast P md ops Q S ds fuel lj a' w' → K a' w') → if Region.wanted oj (yielded ops a.tmps) = true then Oper.wp P oj a w K Q else K (a.put Nj undef) w) :
    wpAnyLast P md ops Q S ds (fuel + 1) l a w := by
  subst hNi
  subst hNj
  simp only [Bool.and_eq_true, beq_iff_eq] at hc
  obtain ⟨⟨h3, h4⟩, h5⟩ := hc
  subst h4
  subst h5
  exact wpAnyLast_ready h3 (by simp) (AllReadyL.cons_last hi hdi (fun K hK => h1 K hK) (AllReadyL.cons_last hj hdj (fun K hK => h2 K hK) AllReadyL.nil))
end
def Tsa11 : Bool × List (List Nat × List Nat) := (true, [([], []), ([0], [0]), ([1], [1]), ([2], [2]), ([], []), ([3], [3]), ([], []), ([3, 6, 0, 1, 2, 3, 4, 5, 6], [3, 6]), ([7, 5, 0, 1, 2, 3, 4, 5, 6, 7], [5, 7]), ([8, 4, 7, 0, 1, 2, 3, 4, 5, 6, 7], [4, 8]), ([0, 0, 1, 2, 3, 4, 5, 6, 7], [0]), ([10, 0, 1, 2, 3, 4, 5, 6, 7], [10]), ([11, 7, 7, 0, 1, 2, 3, 4, 5, 6, 7], [7, 11])])
def Bsa11 : List Nat := [0, 1, 3, 7, 0, 15, 0, 127, 255, 511, 255, 1279, 3327]
theorem tabsa11 : rtab .any (opsOf Try.f76 11) = Tsa11 := by kernel_rfl
theorem bitssa11 : waitsOk Tsa11.2 Bsa11 = true := by kernel_rfl
set_option maxHeartbeats 8000000 in
set_option maxRecDepth 100000 in
theorem addCalls (w0 : World) (gz : Nat) (s : ByteArray) (N : Nat) (hNs : N = s.size + 1) (hs : s.size ≤ 900) : ∀ (q : Nat) (x : Rx) (r : Tr) (A : Option Addr) (c : Nat) (W : World) (X : List Rx) (C : List (List Int)) (ok : Nat → Prop), sz x < q → Ax r x → Kd.C k29 w0 A r.f2.length r.f2 → X.length + sz x ≤ 1000 → C.length = X.length → Bdx w0 W gz s N X C X.length ok →
    Calls Try.prog 76 #[.pointer (some ⟨gz, 0, none⟩), .agg #[.int .i64 r.f0, .string r.f1, .slice A r.f2.length c]] W (PostA w0 W gz s N X C ok x) := by
  intro q
  induction q with
  | zero => intro x r A c W X C ok h; omega
  | succ q ih =>
    intro x r A c W X C ok hq hax hC hT hCX hbd
    obtain ⟨hf0, hf1, hf2, hkid⟩ := hax.kids
    have hszk := sz_kids x
    have HIH := am_ ih
    have HQ : Aside0 (szl (sons x) < q) := ⟨by omega⟩
    have HSZ : Aside0 (X.length + szl (sons x) + 1 ≤ 1000) := ⟨by omega⟩
    have HF0 := am_ hf0
    have HF1 := am_ hf1
    have HF2 := am_ hf2
    have HKID := am_ hkid
    have HC := am_ hC
    have HCX := am_ hCX
    have hbel := hbd.bel
    have HP1 : Aside0 (P1 w0 W ((W.alloc (Obj.cells #[.int .i64 r.f0, .string r.f1, .slice A r.f2.length c] 29)).alloc (Obj.cells #[] 3)) ok (fun k => ok k ∧ k < W.heap.size) gz W.heap.size #[.int .i64 r.f0, .string r.f1, .slice A r.f2.length c] s N (X ++ pnl ((sons x).take 0)) (C ++ pcl ((sons x).take 0) X.length) (.slice (some ⟨W.heap.size + 1, 0, none⟩) 0 0) (nml ((sons x).take 0) X.length)) := ⟨by
      have hb2 := below_alloc (below_alloc (Below.refl W.heap.size W) (Obj.cells #[.int .i64 r.f0, .string r.f1, .slice A r.f2.length c] 29)) (Obj.cells #[] 3)
      have hsz1 : (W.alloc (Obj.cells #[.int .i64 r.f0, .string r.f1, .slice A r.f2.length c] 29)).heap.size = W.heap.size + 1 := by simp
      have hrow := World.ownsRow_lit (base := w0.heap.size) (e := 3) (size := 1) (W.alloc (Obj.cells #[.int .i64 r.f0, .string r.f1, .slice A r.f2.length c] 29)) #[] 0 (by rw [hsz1]; have := hbel.size; omega) (by simp [maxLen]) (by simp)
      rw [hsz1] at hrow
      refine ⟨?_, hrow, fun k hk => ?_, blk_alloc (blk_new W _) _, fun a => by omega, fun k hk _ => hb2.block k hk, fun k hk => Or.inl hk.1, fun k hk => ?_, hb2.size, Nat.le_refl _⟩
      · have := hbd.step (fun k _ hlt => hb2.block k hlt) (below_then hbel hbel.size hb2)
        simpa [pnl, pcl] using this
      · have e : k = W.heap.size + 1 := by simpa [Value.ownBlock] using hk.symm
        exact ⟨fun a => by omega, by omega⟩
      · have e : k = W.heap.size + 1 := by simpa [Value.ownBlock] using hk.symm
        omega⟩
    have HNS := am_ hNs
    have HSS := am_ hs
    clear hq hax hC hT hCX hbd hf0 hf1 hf2 hkid hszk ih hNs hs
    have hl2 : decide ((0 : Int) < 1) = true := by decide
    go_enter Try.func76, Try.ntmps76
    go_wp2
    generalize hws : (W.alloc (Obj.cells #[.int .i64 r.f0, .string r.f1, .slice A r.f2.length c] 29)).alloc (Obj.cells #[] 3) = ws at HP1 ⊢
    clear hws
    go_loopg [5, 6] ((sons x).length + 1) (fun gg v5 v6 w' => ∃ (k : Nat) (kz : Int) (ok1 : Nat → Prop), v6 = .int .i64 kz ∧ Aside0 (kz = (k : Int)) ∧ Aside0 (k ≤ (sons x).length) ∧ Aside0 ((sons x).length + 1 ≤ gg + k) ∧ Aside0 (P1 w0 W w' ok ok1 gz W.heap.size #[.int .i64 r.f0, .string r.f1, .slice A r.f2.length c] s N (X ++ pnl ((sons x).take k)) (C ++ pcl ((sons x).take k) X.length) v5 (nml ((sons x).take k) X.length)))
    case atStart => exact ⟨0, 0, _, rfl, ⟨rfl⟩, ⟨by omega⟩, ⟨by omega⟩, HP1⟩
    case round =>
      clear HP1
      obtain ⟨k, kz, ok1, rfl, ⟨rfl⟩, HK, HG, HP1⟩ := hrel
      cases gk with
      | zero => exact absurd HG.out (by have := HK.out; omega)
      | succ g1 =>
      obtain ⟨A5, c5, e5⟩ := own_slice HP1.out.row
      subst e5
      have b2 := (blk_cell HP1.out.box 2).trans rfl
      by_cases hk : k < (sons x).length
      · obtain ⟨y, hy⟩ : ∃ y, (sons x)[k]? = some y := ⟨_, List.getElem?_eq_getElem hk⟩
        have hst := szl_take hy
        have hsn := take_snoc hy
        have hay := HKID.out k y hy
        have hlen : k < r.f2.length := by rw [HF2.out]; exact hk
        obtain ⟨ad, A2, c2, rfl, h0, h1, h2, h3, h4⟩ := at_T29 HC.out (k : Int) (by omega) (by omega)
        rw [Int.toNat_natCast] at h0 h1 h2
        have hbw := HP1.out.bd.bel
        have k0 := pw_cell_below hbw h0
        have k1 := pw_cell_below hbw h1
        have k2 := pw_cell_below hbw h2
        have lX : (X ++ pnl ((sons x).take k)).length = X.length + szl ((sons x).take k) := by rw [List.length_append, pnl_len]
        have lC : (C ++ pcl ((sons x).take k) X.length).length = (X ++ pnl ((sons x).take k)).length := by rw [List.length_append, pcl_len, lX, HCX.out]
        have hcall := HIH.out y (rd_T29 r.f2 (k : Int)) A2 c2 wr (X ++ pnl ((sons x).take k)) (C ++ pcl ((sons x).take k) X.length) ok1 (by have := HQ.out; omega) hay h4 (by have := HSZ.out; omega) lC HP1.out.bd
        have HCALL := am_ hcall
        have p1 : ((0 : Int) ≤ (k : Int)) = True := eq_true (by omega)
        have q1 : ((k : Int) < (r.f2.length : Int)) = True := eq_true (by omega)
        have d1 : decide ((k : Int) < (r.f2.length : Int)) = true := decide_eq_true (by omega)
        have hw : wrap64 ((k : Int) + 1) = ((k + 1 : Nat) : Int) := up1 (by have := HSZ.out; have := szl_len (sons x); omega)
        have HW := am_ hw
        have HY := am_ hy
        have HSN := am_ hsn
        have HLX := am_ lX
        have HA1 : Aside0 ((nml ((sons x).take k) X.length).length ≤ 1000) := ⟨by rw [nml_len, List.length_take]; have := HSZ.out; have := szl_len (sons x); have := Nat.min_le_right k (sons x).length; omega⟩
        have HKK := am_ hk
        generalize rd_T29 r.f2 (k : Int) = rk at k0 k1 k2 HCALL
        have hu := Try.underlying29
        clear hst hsn hay hlen h0 h1 h2 h3 h4 hbw lX lC hcall hw hy hk
        go_wp2_with (first | (go_at_call 76; (with_reducible refine HCALL.out.mono ?_); rintro e w2 hp; obtain ⟨rfl, hp1⟩ := HP1.out.child hp; have HP2 := am_ hp1; clear hp hp1) | ((with_reducible refine gate_builtin (b := .append) (xs := #[.tmp 17, .tmp 25]) rfl ?_); at_builtin; refine print_append_cells (w0 := w0) w0.heap.size rfl (.tmp 17) (.tmp 25) 96 3 (.int .i64 0) 1 8 rfl undR infI rfl (by decide) (by omega) (.slice A5 (nml ((sons x).take k) X.length).length c5) _ _ _ rfl rfl ?bY ?b1 HP2.out.row HP2.out.bd.bel ?bS ?bL ?_; (case bY => rfl); (case b1 => simp [Value.oneCell']); (case bS => exact HP2.out.bd.bel.size); (case bL => have := HA1.out; omega); intro v1 w3 ho hb hg hat; have HP3 := am_ (HP2.out.append ho hb hg hat); clear ho hb hg hat))
        go_roundg g1
        case measure => omega
        case rel => exact ⟨k + 1, wrap64 ((k : Int) + 1), _, rfl, HW, HKK, ⟨by have := HG.out; omega⟩, ⟨by rw [HSN.out, pnl_snoc, pcl_snoc, nml_snoc, ← List.append_assoc, ← List.append_assoc]; have h := HP3.out; rw [HLX.out, pnl_len] at h; exact h⟩⟩
      · have hke : k = (sons x).length := by have := HK.out; omega
        have d1 : decide ((k : Int) < (r.f2.length : Int)) = false := decide_eq_false (by rw [HF2.out]; omega)
        have d2 : ((k : Int) < (r.f2.length : Int)) = False := eq_false (by rw [HF2.out]; omega)
        have d3 : (k < r.f2.length) = False := eq_false (by rw [HF2.out]; omega)
        have htk : (sons x).take k = sons x := by rw [hke, List.take_length]
        have hp1 := HP1.out
        rw [htk] at hp1
        rw [htk]
        have HPA := am_ hp1
        clear hk hke htk hp1 HP1 HG HK
        generalize ha1 : nml (sons x) X.length = a1 at HPA ⊢
        have HA1E := am_ ha1
        clear ha1
        have HA5 := am_ HPA.out.row.1
        have HP2 : Aside0 (P2 w0 W (wr.alloc (Obj.cells #[] 96)) ok (fun k => ok1 k ∧ k < wr.heap.size) gz W.heap.size #[.int .i64 r.f0, .string r.f1, .slice A r.f2.length c] s N (X ++ pnl (sons x)) (C ++ pcl (sons x) X.length) (.slice A5 a1.length c5) a1 (.slice (some ⟨wr.heap.size, 0, none⟩) 0 0) 0 (fun _ => 0) []) := ⟨by
          have hb2 := below_alloc (Below.refl wr.heap.size wr) (Obj.cells #[] 96)
          have hbw := HPA.out.bd.bel
          have lb := blk_lt HPA.out.box
          have hrow := World.ownsRow_lit (base := w0.heap.size) (e := 96) (size := 1) wr #[] 0 hbw.size (by simp [maxLen]) (by simp)
          refine ⟨HPA.out.below hb2, hrow, fun i hi => by omega, fun i hi => by omega, fun i j hi => by omega, fun k hk => ?_⟩
          have e : k = wr.heap.size := by simpa [Value.ownBlock] using hk.symm
          subst e
          exact ⟨fun a => by omega, by omega, fun e => by have := own_lt HPA.out.row _ e.symm; omega, HPA.out.sz⟩⟩
        clear HPA
        go_wp2
        generalize hws : wr.alloc (Obj.cells #[] 96) = ws at HP2 ⊢
        clear hws
        go_loopg [7, 8] (N + 1) (fun gg v7 v8 w' => ∃ (k : Nat) (kz : Int) (ok2 : Nat → Prop) (g : Nat → Nat) (TC : List Value), v8 = .int .i64 kz ∧ Aside0 (kz = (k : Int)) ∧ Aside0 (k ≤ N) ∧ Aside0 (N + 1 ≤ gg + k) ∧ Aside0 (P2 w0 W w' ok ok2 gz W.heap.size #[.int .i64 r.f0, .string r.f1, .slice A r.f2.length c] s N (X ++ pnl (sons x)) (C ++ pcl (sons x) X.length) (.slice A5 a1.length c5) a1 v7 k g TC))
        case atStart => exact ⟨0, 0, _, _, _, rfl, ⟨rfl⟩, ⟨by omega⟩, ⟨by omega⟩, HP2⟩
        case round =>
          clear HP2
          obtain ⟨k2, kz2, ok2, g, TC, rfl, ⟨rfl⟩, HK2, HG2, HP2⟩ := hrel
          cases gk with
          | zero => exact absurd HG2.out (by have := HK2.out; omega)
          | succ g2 =>
          obtain ⟨A7, c7, e7⟩ := own_slice HP2.out.tab
          subst e7
          have x0 := HP2.out.p1.bd.str
          by_cases hk2 : k2 < N
          · have d1 : decide ((k2 : Int) ≤ (s.size : Int)) = true := decide_eq_true (by have := HNS.out; omega)
            have d2 : ((k2 : Int) ≤ (s.size : Int)) = True := eq_true (by have := HNS.out; omega)
            have d3 : (k2 ≤ s.size) = True := eq_true (by have := HNS.out; omega)
            have hw1 : wrap64 ((s.size : Int) + 1) = (N : Int) := by rw [up1 (by have := HSS.out; omega), ← HNS.out]
            have hmk := make64 wr N (by have := HSS.out; have := HNS.out; omega)
            have HW : Aside0 (wrap64 ((k2 : Int) + 1) = ((k2 + 1 : Nat) : Int)) := ⟨up1 (by have := HSS.out; have := HNS.out; omega)⟩
            have HKN := am_ hk2
            have HP3 : Aside0 (P2 w0 W (wr.alloc (.cells (encf N (fun _ => 0)) 3)) ok (fun k => ok2 k ∧ k < wr.heap.size) gz W.heap.size #[.int .i64 r.f0, .string r.f1, .slice A r.f2.length c] s N (X ++ pnl (sons x)) (C ++ pcl (sons x) X.length) (.slice A5 a1.length c5) a1 (.slice A7 k2 c7) k2 g TC) := ⟨HP2.out.below (below_alloc (Below.refl _ _) _)⟩
            have HRW : Aside0 ((wr.alloc (.cells (encf N (fun _ => 0)) 3)).heap[wr.heap.size]? = some (.cells (encf N (fun _ => 0)) 3 (0, 0))) := ⟨blk_new _ _⟩
            have HRN : Aside0 (¬ (ok2 wr.heap.size ∧ wr.heap.size < wr.heap.size) ∧ some wr.heap.size ≠ (Value.slice A5 a1.length c5).ownBlock ∧ wr.heap.size ≠ W.heap.size ∧ W.heap.size ≤ wr.heap.size ∧ w0.heap.size ≤ wr.heap.size) := ⟨⟨fun a => by omega, fun e => by have := own_lt HP2.out.p1.row _ e.symm; omega, by have := blk_lt HP2.out.p1.box; omega, HP2.out.p1.sz, HP2.out.p1.bd.bel.size⟩⟩
            have HSA : Aside0 ((wr.alloc (.cells (encf N (fun _ => 0)) 3)).heap.size = wr.heap.size + 1) := ⟨by simp⟩
            have HRG : Aside0 (∀ i, i < k2 → g i ≠ wr.heap.size) := ⟨fun i hi => by have := blk_lt (HP2.out.rows i hi).1; omega⟩
            clear hk2
            go_wp2_with ((with_reducible refine gate_builtin (b := .append) (xs := #[.tmp 37, .tmp 45]) rfl ?_); at_builtin; refine print_append_cells (w0 := w0) w0.heap.size rfl (.tmp 37) (.tmp 45) 80 96 (.slice none 0 0) 1 24 rfl undT infR rfl (by decide) (by omega) (.slice A7 k2 c7) _ _ _ rfl ?hx ?bY ?b1 HP3.out.tab HP3.out.p1.bd.bel ?bS ?bL ?_; (case hx => rw [HSA.out]; rfl); (case bY => rfl); (case b1 => simp [Value.oneCell']); (case bS => exact HP3.out.p1.bd.bel.size); (case bL => have := HKN.out; have := HSS.out; have := HNS.out; omega); intro v1 w3 ho hb hg hat; have HP4 := am_ (HP3.out.append HRW.out HRN.out HRG.out ho hb hg hat); clear ho hb hg hat)
            go_roundg g2
            case measure => omega
            case rel => exact ⟨k2 + 1, wrap64 ((k2 : Int) + 1), _, _, _, rfl, HW, HKN, ⟨by have := HG2.out; omega⟩, HP4⟩
          · have d1 : decide ((k2 : Int) ≤ (s.size : Int)) = false := decide_eq_false (by have := HNS.out; omega)
            have d2 : ((k2 : Int) ≤ (s.size : Int)) = False := eq_false (by have := HNS.out; omega)
            have d3 : (k2 ≤ s.size) = False := eq_false (by have := HNS.out; omega)
            have hke : k2 = N := by have := HK2.out; omega
            subst k2
            obtain ⟨t7, ct7, _, h7, _, _⟩ := own_some HP2.out.tab (by have := HNS.out; omega)
            injection h7 with h7 _ h7c
            subst h7
            subst h7c
            obtain ⟨b, vn, va, vm, NC, AC, MC, hbd⟩ := HP2.out.p1.bd
            have HBD := am_ hbd
            obtain ⟨An, cn, en⟩ := own_slice hbd.nod
            subst en
            obtain ⟨X1, hX1⟩ : ∃ X1, X1 = X ++ pnl (sons x) := ⟨_, rfl⟩
            obtain ⟨C1, hC1⟩ : ∃ C1, C1 = C ++ pcl (sons x) X.length := ⟨_, rfl⟩
            rw [← hX1, ← hC1] at HP2
            rw [← hX1] at HBD
            rw [← hC1] at HBD
            rw [← hX1] at hbd
            have z1 := (blk_cell hbd.box 1).trans rfl
            have y0 := (blk_cell HP2.out.p1.box 0).trans rfl
            have y1 := (blk_cell HP2.out.p1.box 1).trans rfl
            have y2 := (blk_cell HP2.out.p1.box 2).trans rfl
            clear hk2 HK2 HG2
            have HZ1 := am_ z1
            have HY0 := am_ y0
            have HY1 := am_ y1
            have HY2 := am_ y2
            have HX1 := am_ hX1
            have HC1 := am_ hC1
            have HLEN : Aside0 (X1.length + 1 ≤ 1000) := ⟨by rw [hX1, List.length_append, pnl_len]; have := HSZ.out; omega⟩
            have p7 : ((0 : Int) ≤ (X1.length : Int)) = True := eq_true (by omega)
            have q7 : ((X1.length : Int) < ((X1.length + 1 : Nat) : Int)) = True := eq_true (by omega)
            have q8 : ((X1.length : Int) < (X1.length : Int) + 1) = True := eq_true (by omega)
            clear hX1 hC1 hbd
            have hu := Try.underlying29
            go_wp2
            refine start_ (n := 13) (S := (fun w' => w'.cell? ⟨gz, 1, none⟩ = some (.slice An X1.length cn) ∧ w'.cell? ⟨W.heap.size, 0, none⟩ = some (.int .i64 r.f0) ∧ w'.cell? ⟨W.heap.size, 1, none⟩ = some (.string r.f1) ∧ w'.cell? ⟨W.heap.size, 2, none⟩ = some (.slice A r.f2.length c))) (ds := [9, 12]) (bl 13 0) (by kernel_rfl) rfl rfl (⟨z1, y0, y1, y2⟩) (fun hHeld => ?_); refine with_tabW tabsa11 bitssa11 (fun HT_ HW_ => ?_)
            clear z1 y0 y1 y2 x0
            have hbd' := HBD.out.below (below_drew1 (Below.refl wr.heap.size wr))
            refine ph_ 0 47 (bl 13 1) HT_ ?_
            refine ph_ 1 48 (bl 13 3) HT_ ?_
            refine ph_ 2 49 (bl 13 7) HT_ ?_
            refine th_ 3 50 (bl 13 15) HT_ HW_ hHeld ?_
            refine ph_ 5 52 (bl 13 47) HT_ ?_
            refine th_ 4 51 (bl 13 63) HT_ HW_ hHeld ?_
            have hba := below_alloc (Below.refl wr.drew.heap.size wr.drew) (Obj.cells #[.int .i64 0, .string ⟨#[]⟩, .slice none 0 0] 29)
            refine on_ 6 (some 53) (bl 13 127) HT_ (fun K hK => ?_)
            refine value_ (w1 := ?_) (v := ?_) (by rfl) rfl ?_ ?_
            rotate_left 2
            · go_simp
              constructor
              · rfl
              · rfl
            refine hK.out _ _ (⟨pw_cell_below hba hHeld.1, pw_cell_below hba hHeld.2.1, pw_cell_below hba hHeld.2.2.1, pw_cell_below hba hHeld.2.2.2⟩) (fun hHeld => ?_)
            clear hK K
            refine nm_ 53 ?_
            refine on_ 7 (some 54) (bl 13 255) HT_ (fun K hK => ?_)
            refine step_append_cells (w0 := w0) (W := wr.drew) w0.heap.size ?bw (.tmp 50) (.tmp 53) 27 29 (.agg #[(.int .i64 0), (.string ⟨#[]⟩), (.slice none 0 0)]) 3 48 rfl Try.underlying27 info29 rfl (by decide) (by omega) (.slice An X1.length cn) X1.length NC [.int .i64 0, .string ⟨#[]⟩, .slice none 0 0] ?hs ?hx ?bY ?b1 ?bO ?bB ?bS ?bL ?_
            (case bw => rfl)
            (case hs => rfl)
            (case hx => rfl)
            (case bY => rfl)
            (case b1 => simp [Value.oneCell'])
            (case bO => exact HBD.out.nod)
            (case bB => exact below_drew1 HBD.out.bel)
            (case bS => exact HBD.out.bel.size)
            (case bL => have := HLEN.out; omega)
            intro v1 w1 ho hb hg hat
            obtain ⟨g1, cg1, _, eg1, _, _⟩ := own_some ho (Nat.succ_pos _)
            subst eg1
            have HFN : Aside0 (FN w0 wr gz (Value.slice An X1.length cn).ownBlock s va vm g1 (X1.length + 1) cg1 (.slice An X1.length cn) (NC ++ [.int .i64 0, .string ⟨#[]⟩, .slice none 0 0]) w1) := ⟨⟨ho, blk_grown (w := wr.drew) HBD.out.box hg (own_type HBD.out.nod HBD.out.box (by decide)), fun k hk hn hz => hg.block k hk hn, hb, by
              rcases hat with a | ⟨k, a, a2⟩
              · exact Or.inl (by rw [← a]; simp [Value.ownBlock])
              · right
                have e : g1 = k := by simpa [Value.ownBlock] using a
                rw [e]; exact a2, HBD.out.og.2, hg.size⟩⟩
            have HBB : Aside0 (w1.heap[W.heap.size]? = some (.cells #[.int .i64 r.f0, .string r.f1, .slice A r.f2.length c] 29 (0, 0))) := ⟨blk_grown (w := wr.drew) HP2.out.p1.box hg (fun e => HP2.out.p1.bno (HBD.out.on _ e.symm))⟩
            refine hK.out _ _ (⟨(blk_cell HFN.out.box 1).trans rfl, (blk_cell HBB.out 0).trans rfl, (blk_cell HBB.out 1).trans rfl, (blk_cell HBB.out 2).trans rfl⟩) (fun hHeld => ?_)
            clear hK K
            refine nm_ 54 ?_
            clear ho hb hg hat
            refine ph_ 8 55 (bl 13 511) HT_ ?_
            refine ph_ 10 56 (bl 13 1535) HT_ ?_
            refine ph_ 11 57 (bl 13 3583) HT_ ?_
            have hNL : NC.length = X1.length * 3 := HBD.out.nod.1
            have HNL := am_ hNL
            clear hNL
            refine join_ (σ := Unit) 0 (bl 13 8191) (fun _ => []) (fun _ w' => FN w0 wr gz (Value.slice An X1.length cn).ownBlock s va vm g1 (X1.length + 1) cg1 (.slice (some ⟨g1, 0, none⟩) (X1.length + 1) cg1) (NC ++ [.int .i64 r.f0, .string r.f1, .slice A r.f2.length c]) w') ?_ (fun hCont => ?_)
            rotate_left
            · refine two_last_ (i := 9) (j := 12) (Ni := none) (Nj := none) (bl 13 4095) (bl 13 7679) rfl rfl rfl rfl (two_of HT_.out (by kernel_rfl)) (by decide) (by decide) (fun K hK => ?_) (fun K hK => ?_)
              · have ha := at3 NC HNL.out (.int .i64 0) (.string ⟨#[]⟩) (.slice none 0 0)
                obtain ⟨hc0, hf0⟩ := HFN.out.cell ha.1
                obtain ⟨hc1, hf1⟩ := HFN.out.cell ha.2.1
                obtain ⟨hc2, hf2⟩ := HFN.out.cell ha.2.2
                clear ha
                have hne := HFN.out.ne
                refine skip_ (w1 := ?_) (by rfl) rfl ?_ ?_
                rotate_left
                · go_simp
                  rfl
                refine hK.out _ _ ?_
                clear hK K hc0 hf0 hc1 hf1 hc2 hf2
                have hfa := ((HFN.out.st (X1.length * 3) (.int .i64 r.f0)).st (X1.length * 3 + 1) (.string r.f1)).st (X1.length * 3 + 2) (.slice A r.f2.length c)
                rw [set3 NC HNL.out] at hfa
                have hz1 := (blk_cell hfa.box 1).trans rfl
                have hz2 := blk_frozen hfa.box 1
                generalize ((w1.setCell ⟨g1, X1.length * 3, none⟩ (.int .i64 r.f0)).setCell ⟨g1, X1.length * 3 + 1, none⟩ (.string r.f1)).setCell ⟨g1, X1.length * 3 + 2, none⟩ (.slice A r.f2.length c) = wa at hfa hz1 hz2 ⊢
                refine last_ (i := 12) (N := none) (bl 13 8191) rfl rfl (one_of HT_.out (by kernel_rfl)) (by decide) (fun K hK => ?_)
                refine skip_ (w1 := ?_) (by rfl) rfl ?_ ?_
                rotate_left
                · go_simp
                  rfl
                refine hK.out _ _ ?_
                exact hCont () _ (hfa.bx _)
              · have hz1 := (blk_cell HFN.out.box 1).trans rfl
                have hz2 := blk_frozen HFN.out.box 1
                refine skip_ (w1 := ?_) (by rfl) rfl ?_ ?_
                rotate_left
                · go_simp
                  rfl
                refine hK.out _ _ ?_
                clear hK K hz1 hz2
                have hfa := HFN.out.bx (.slice (some ⟨g1, 0, none⟩) (X1.length + 1) cg1)
                generalize w1.setCell ⟨gz, 1, none⟩ (.slice (some ⟨g1, 0, none⟩) (X1.length + 1) cg1) = wa at hfa ⊢
                have ha := at3 NC HNL.out (.int .i64 0) (.string ⟨#[]⟩) (.slice none 0 0)
                obtain ⟨hc0, hf0⟩ := hfa.cell ha.1
                obtain ⟨hc1, hf1⟩ := hfa.cell ha.2.1
                obtain ⟨hc2, hf2⟩ := hfa.cell ha.2.2
                clear ha
                refine last_ (i := 9) (N := none) (bl 13 8191) rfl rfl (one_of HT_.out (by kernel_rfl)) (by decide) (fun K hK => ?_)
                refine skip_ (w1 := ?_) (by rfl) rfl ?_ ?_
                rotate_left
                · go_simp
                  rfl
                refine hK.out _ _ ?_
                have hfb := ((hfa.st (X1.length * 3) (.int .i64 r.f0)).st (X1.length * 3 + 1) (.string r.f1)).st (X1.length * 3 + 2) (.slice A r.f2.length c)
                rw [set3 NC HNL.out] at hfb
                exact hCont () _ hfb
            · rintro _ w2 hf2
              have HF := am_ hf2
              clear hf2 HFN HBB hHeld
              refine norm_ (a' := ?_) ?_ ?_
              rotate_left
              · simp only [putAll]
                rfl
              refine done_ (done_of HT_.out (by kernel_rfl)) ?_
              clear HT_ HW_
              obtain ⟨hq1, hq2⟩ := Qs.node HP2.out HBD.out HF0.out HF1.out HF.out
              have HQ1 := am_ hq1
              have HRN := am_ hq2
              obtain ⟨Aa, ca, ea⟩ := own_slice hq1.bd.arg
              obtain ⟨Am, cm, em⟩ := own_slice hq1.bd.mem
              subst ea
              subst em
              have z2 := (blk_cell hq1.bd.box 2).trans rfl
              have HLC : Aside0 (C1.length + 1 ≤ 100000) := ⟨by rw [HC1.out, List.length_append, pcl_len, HCX.out]; have := HSZ.out; omega⟩
              clear hq1 hq2
              go_wp2_with (first | ((with_reducible refine gate_builtin (b := .append) (xs := #[.tmp 62, .tmp 64]) rfl ?_); at_builtin; refine print_append_cells (w0 := w0) (W := w2) w0.heap.size rfl (.tmp 62) (.tmp 64) 80 96 (.slice none 0 0) 1 24 rfl undT infR rfl (by decide) (by omega) (.slice Aa C1.length ca) _ _ _ rfl rfl ?bY ?b1 HQ1.out.bd.arg HQ1.out.bd.bel ?bS ?bL ?_; (case bY => rfl); (case b1 => simp [Value.oneCell']); (case bS => exact HQ1.out.bd.bel.size); (case bL => have := HLC.out; omega); intro v1 w3 ho hb hg hat; obtain ⟨Ab, cb, eb⟩ := own_slice ho; subst eb; have HQ2 := am_ (HQ1.out.args HRN.out ho hb hg hat); have hbx := blk_grown HQ1.out.bd.box hg (own_type HQ1.out.bd.arg HQ1.out.bd.box (by decide)); have n2 := (blk_cell hbx 2).trans rfl; have n2f := blk_frozen hbx 2; have n3 := (blk_cell HQ2.out.bd.box 3).trans rfl; clear ho hb hg hat hbx) | ((with_reducible refine gate_builtin (b := .append) (xs := #[.tmp 72, .tmp 74]) rfl ?_); at_builtin; refine print_append_cells (w0 := w0) (W := w3.setCell ⟨gz, 2, none⟩ (.slice Ab (C1.length + 1) cb)) w0.heap.size rfl (.tmp 72) (.tmp 74) 81 80 (.slice none 0 0) 1 24 rfl undM infT rfl (by decide) (by omega) (.slice Am X1.length cm) _ _ _ rfl ?hx ?bY ?b1 HQ2.out.bd.mem HQ2.out.bd.bel ?bS ?bL ?_; (case hx => first | rfl | (simp [World.setCell]; rfl)); (case bY => rfl); (case b1 => simp [Value.oneCell']); (case bS => exact HQ2.out.bd.bel.size); (case bL => have := HLEN.out; omega); intro v2 w4 ho hb hg hat; obtain ⟨Ac, cc, ec⟩ := own_slice ho; subst ec; have HM := am_ (HQ2.out.memo ho hb hg hat); have hbx := blk_grown HQ2.out.bd.box hg (own_type HQ2.out.bd.mem HQ2.out.bd.box (by decide)); have m3 := (blk_cell hbx 3).trans rfl; have m3f := blk_frozen hbx 3; have m1 := HM.out.2.2.2; clear ho hb hg hat hbx))
              have hlx : X1.length = X.length + szl (sons x) := by rw [HX1.out, List.length_append, pnl_len]
              have hsk := sz_kids x
              have eX : X1 ++ [x] = X ++ pn x := by rw [HX1.out, pn_kids, ← List.append_assoc]
              have eC : C1 ++ [a1] = C ++ pcs x X.length := by rw [HC1.out, ← HA1E.out, pcs_kids, ← List.append_assoc]
              have eT : X1.length + 1 = X.length + sz x := by omega
              have hm1 := HM.out.1
              rw [eX, eC] at hm1
              have hm2 := HM.out.2.1
              have hm3 := HM.out.2.2.1
              have hew : wrap64 (X1.length : Int) = ((X.length + sz x - 1 : Nat) : Int) := by rw [w64 (by omega) (by have := HLEN.out; omega), show X1.length = X.length + sz x - 1 by omega]
              rw [hew]
              clear hew
              go_ret
              exact ⟨rfl, by rw [← eT]; exact hm1, hm2, hm3⟩
theorem size_alloc2 (w : World) (o : Obj) : (w.alloc o).heap.size = w.heap.size + 1 := by simp
set_option maxHeartbeats 8000000 in
set_option maxRecDepth 100000 in
theorem l4MatchCalls (A : Option Addr) (c : Nat) (r : Tr) (x : Rx) (s : ByteArray) (w : World) (hax : Ax r x) (hsz : sz x ≤ 900) (hs : s.size ≤ 900) (hC : Kd.C k29 w A r.f2.length r.f2) :
    Calls Try.prog 52 #[.agg #[.int .i64 r.f0, .string r.f1, .slice A r.f2.length c], .string s] w fun e w' => e = .returned (.bool (lan x (bytesOf s))) ∧ Below w.heap.size w w' := by
  obtain ⟨N, hN⟩ : ∃ N, N = s.size + 1 := ⟨_, rfl⟩
  have hl : (bytesOf s).length = s.size := len_bytes s
  have hres : mt (bytesOf s) x 0 s.size = lan x (bytesOf s) := by unfold mt sub; rw [← hl, List.take_length, List.drop_zero]
  have hp := sz_pos x
  have HB0 := am_ (below_alloc (below_alloc (Below.refl w.heap.size w) (Obj.cells #[.int .i64 r.f0, .string r.f1, .slice A r.f2.length c] 29)) (Obj.cells #[.string s, .slice none 0 0, .slice none 0 0, .slice none 0 0] 83))
  have HBZ : Aside0 (((w.alloc (Obj.cells #[.int .i64 r.f0, .string r.f1, .slice A r.f2.length c] 29)).alloc (Obj.cells #[.string s, .slice none 0 0, .slice none 0 0, .slice none 0 0] 83)).heap[w.heap.size + 1]? = some (.cells #[.string s, .slice none 0 0, .slice none 0 0, .slice none 0 0] 83 (0, 0))) := ⟨by have h_ := blk_new (w.alloc (Obj.cells #[.int .i64 r.f0, .string r.f1, .slice A r.f2.length c] 29)) (Obj.cells #[.string s, .slice none 0 0, .slice none 0 0, .slice none 0 0] 83); rw [size_alloc2] at h_; exact h_⟩
  have HBR : Aside0 (((w.alloc (Obj.cells #[.int .i64 r.f0, .string r.f1, .slice A r.f2.length c] 29)).alloc (Obj.cells #[.string s, .slice none 0 0, .slice none 0 0, .slice none 0 0] 83)).heap[w.heap.size]? = some (.cells #[.int .i64 r.f0, .string r.f1, .slice A r.f2.length c] 29 (0, 0))) := ⟨blk_alloc (blk_new w _) _⟩
  have HALL := am_ (fun W X C ok h1 h2 h3 => addCalls w (w.heap.size + 1) s N hN hs (sz x + 1) x r A c W X C ok (Nat.lt_succ_self _) hax hC h1 h2 h3)
  have k0 := (blk_cell HBR.out 0).trans rfl
  have k1 := (blk_cell HBR.out 1).trans rfl
  have k2 := (blk_cell HBR.out 2).trans rfl
  have HADD : Aside0 (Calls Try.prog 76 #[.pointer (some ⟨w.heap.size + 1, 0, none⟩), .agg #[.int .i64 r.f0, .string r.f1, .slice A r.f2.length c]] ((w.alloc (Obj.cells #[.int .i64 r.f0, .string r.f1, .slice A r.f2.length c] 29)).alloc (Obj.cells #[.string s, .slice none 0 0, .slice none 0 0, .slice none 0 0] 83)) (PostA w ((w.alloc (Obj.cells #[.int .i64 r.f0, .string r.f1, .slice A r.f2.length c] 29)).alloc (Obj.cells #[.string s, .slice none 0 0, .slice none 0 0, .slice none 0 0] 83)) (w.heap.size + 1) s N [] [] (fun _ => True) x)) := ⟨HALL.out _ [] [] (fun _ => True) (by simp only [List.length_nil]; omega) rfl ⟨fun _ _ => 0, .slice none 0 0, .slice none 0 0, .slice none 0 0, [], [], [], HBZ.out, ⟨trivial, Nat.le_succ _⟩, own_nil _ _ _ _, own_nil _ _ _ _, own_nil _ _ _ _, fun _ _ => trivial, fun _ _ => trivial, fun _ _ => trivial, fun n y h => by simp at h, fun n y h => by simp at h, fun n h => by simp at h, fun n i h => by simp at h, fun n i n' i' h => by simp at h, HB0.out⟩⟩
  have HIS : Aside0 (∀ W, Bdx w W (w.heap.size + 1) s N (pn x) (pcs x 0) (sz x) (fun _ => True) → Calls Try.prog 77 #[.pointer (some ⟨w.heap.size + 1, 0, none⟩), .int .i64 ((sz x - 1 : Nat) : Int), .int .i64 0, .int .i64 s.size] W (fun e w' => e = .returned (.bool (lan x (bytesOf s))) ∧ Below w.heap.size w w')) := ⟨fun W hbx => by
    obtain ⟨b, vn, va, vm, NC, AC, MC, h⟩ := hbx
    have eT : sz x = (pn x).length := (pn_len x).symm
    rw [eT] at h
    obtain ⟨an, aa, am, lay, ms⟩ := h.lay (by rw [pcs_len, pn_len]) (by rw [← eT]; omega)
    have hg : Good (pn x) (pcs x 0) := good_build x [] [] ⟨rfl, fun n y c h => by simp at h⟩
    have hn : sz x - 1 < (pn x).length := by rw [← eT]; omega
    have hlast := pn_last x []
    simp only [List.length_nil, Nat.zero_add, List.nil_append] at hlast
    have := isAll w W (w.heap.size + 1) s N _ _ b an aa am (fun n i j => mt (bytesOf s) ((pn x).getD n .none) i j) lay hg hN hs (by rw [← eT]; omega) (fun n y hy i j => by rw [List.getD_eq_getElem?_getD, hy]; rfl) (sz x) (sz x - 1) (by omega) hn 0 s.size W (fun _ _ _ => 0) (Nat.zero_le _) (by omega) (fun _ _ _ _ => Or.inl rfl) ms
    refine this.mono (fun e w' hpost => ?_)
    obtain ⟨he, V', _, hms⟩ := hpost
    refine ⟨?_, hms.bel⟩
    rw [he]
    show Ending.returned (.bool (mt (bytesOf s) ((pn x).getD (sz x - 1) .none) 0 s.size)) = _
    rw [List.getD_eq_getElem?_getD, hlast]
    show Ending.returned (.bool (mt (bytesOf s) x 0 s.size)) = _
    rw [hres]⟩
  generalize lan x (bytesOf s) = res at HIS ⊢
  clear hN hl hres hp hax hC hsz hs HALL
  go_enter Try.func52, Try.ntmps52
  go_wp2_with (first | (go_at_call 76; (with_reducible refine HADD.out.mono ?_); rintro e w2 ⟨he, hb2, _, _⟩; simp only [List.length_nil, Nat.zero_add, List.nil_append] at he hb2; subst he; have HI2 := am_ (HIS.out w2 (hb2.mono (fun _ _ => trivial))); clear hb2) | (go_at_call 77; (with_reducible refine HI2.out.mono ?_); rintro e w3 ⟨rfl, hb3⟩; have HB3 := am_ hb3; clear hb3))
  go_ret
  exact ⟨rfl, HB3.out⟩
end Go.Proofs.Ytldgkgdgcfllmaa.Rg
end
section
namespace Go.Proofs.Ytldgkgdgcfllmaa.P
open Go.RowKit Go.Proofs.YtldgkgdgcfllmaaW.PrintWords Go.Proofs.YtldgkgdgcfllmaaW.PrintLast Go.Proofs.YtldgkgdgcfllmaaW.PrintMore
attribute [local go_sem] max2_int min2_int max_two min_two max_three min_three max_four min_four
set_option linter.unusedVariables false
set_option linter.unusedSimpArgs false
def spec_l4Match.f (a0_0 : Int) (a0_1 : ByteArray) (l0_2 : List S29) (a1 : ByteArray) : Option Bool := Rg.matchF ⟨a0_0, a0_1, l0_2⟩ a1
theorem spec_l4Match.calls (a0_0 : Int) (a0_1 : ByteArray) (A0_2 : Option Addr) (c0_2 : Nat) (l0_2 : List S29) (a1 : ByteArray) (r : Bool) (w : World) (hr0_2 : Kd.C k29 w A0_2 l0_2.length l0_2) (hc0_2 : l0_2.length ≤ c0_2) (h : spec_l4Match.f a0_0 a0_1 l0_2 a1 = some r) :
    Calls Try.prog 52 #[.agg #[.int .i64 a0_0, .string a0_1, .slice A0_2 l0_2.length c0_2], .string a1] w fun e w' => e = .returned (.bool r) ∧ Below w.heap.size w w' := by
  obtain ⟨x, h1, h2, h3, rfl⟩ := Rg.matchF_some h
  exact Rg.l4MatchCalls A0_2 c0_2 ⟨a0_0, a0_1, l0_2⟩ x a1 w h1 (by omega) (by omega) hr0_2
end Go.Proofs.Ytldgkgdgcfllmaa.P
end
section
namespace Go.Proofs.Ytldgkgdgcfllmaa.P
open Go.RowKit Go.Proofs.YtldgkgdgcfllmaaW.PrintWords Go.Proofs.YtldgkgdgcfllmaaW.PrintLast Go.Proofs.YtldgkgdgcfllmaaW.PrintMore
attribute [local go_sem] max2_int min2_int max_two min_two max_three min_three max_four min_four
set_option linter.unusedVariables false
set_option linter.unusedSimpArgs false
def spec_MatchRegex.f (k : Nat) (a0_0 : Int) (a0_1 : ByteArray) (l0_2 : List (S29)) (a1 : ByteArray) : Option (Bool) := (spec_IsValidRegex.f k a0_0 a0_1 l0_2).bind fun au => (if au = true then ((spec_IsWord.f k a1).bind fun am => (if am = true then ((spec_l4Match.f a0_0 a0_1 l0_2 a1).bind fun aj => (some aj)) else (some false))) else (some false))
theorem spec_MatchRegex.mono : ∀ a0 a1 a2 a3 k, LeO (spec_MatchRegex.f k a0 a1 a2 a3) (spec_MatchRegex.f (k + 1) a0 a1 a2 a3) := by
  intro a0 a1 a2 a3 k
  unfold spec_MatchRegex.f
  repeat' first
      | (with_reducible exact spec_IsValidRegex.mono _ _ _ _)
      | (with_reducible exact spec_IsWord.mono _ _)
      | (with_reducible exact LeO.refl _)
      | (with_reducible exact LeO.none _)
      | (with_reducible refine LeO.ite ?_ ?_)
      | (with_reducible refine LeO.bind ?_ (fun _ => ?_))
      | exact spec_IsValidRegex.mono _ _ _ _
      | exact spec_IsWord.mono _ _
      | exact LeO.none _
      | refine LeO.ite ?_ ?_
      | refine LeO.bind ?_ (fun _ => ?_)
theorem zp31_0_ {p q g1 : Prop} (h : p) (h1 : g1) (c : p → g1 → q := by intro h_ h1_; repeat (first | (with_reducible first | exact h_ | apply below_alloc | apply pw_below_drewN | apply below_drew1 | refine below_set ?_ h1_) | exact h_)) : q := c h h1
set_option maxHeartbeats 8000000 in
set_option maxRecDepth 100000 in
theorem spec_MatchRegex.calls (k : Nat) (a0_0 : Int) (a0_1 : ByteArray) (A0_2 : Option Addr) (c0_2 : Nat) (l0_2 : List (S29)) (a1 : ByteArray) (r : Bool) (w : World) (hr0_2 : Kd.C k29 w A0_2 l0_2.length l0_2) (hc0_2 : l0_2.length ≤ c0_2) (h : spec_MatchRegex.f k a0_0 a0_1 l0_2 a1 = some r) :
    Calls Try.prog 25 #[.agg #[.int .i64 a0_0, .string a0_1, .slice A0_2 l0_2.length c0_2], .string a1] w fun e w' => e = .returned (.bool r) ∧ Below w.heap.size w w' := by
  have hu29 := Try.underlying29
  have ak := am_ hr0_2
  have an := am_ hc0_2
  clear hr0_2 hc0_2
  have HB := am_ (Below.refl w.heap.size w)
  have H : ((spec_IsValidRegex.f k a0_0 a0_1 l0_2).bind fun au => (if au = true then ((spec_IsWord.f k a1).bind fun am => (if am = true then ((spec_l4Match.f a0_0 a0_1 l0_2 a1).bind fun aj => (some aj)) else (some false))) else (some false))) = some r := h
  clear h
  replace H := Option.bind_eq_some_iff.mp H
  obtain ⟨au, A30, H⟩ := H
  have A3 := am_ A30
  clear A30
  by_cases c4 : au = true
  · subst c4
    have H1 : ((spec_IsWord.f k a1).bind fun am => (if am = true then ((spec_l4Match.f a0_0 a0_1 l0_2 a1).bind fun aj => (some aj)) else (some false))) = some r := by rw [if_pos rfl] at H; exact H
    clear H
    have H := H1
    clear H1
    replace H := Option.bind_eq_some_iff.mp H
    obtain ⟨am, A50, H⟩ := H
    have A5 := am_ A50
    clear A50
    by_cases c6 : am = true
    · subst c6
      have H1 : ((spec_l4Match.f a0_0 a0_1 l0_2 a1).bind fun aj => (some aj)) = some r := by rw [if_pos rfl] at H; exact H
      clear H
      have H := H1
      clear H1
      replace H := Option.bind_eq_some_iff.mp H
      obtain ⟨aj, A70, H⟩ := H
      replace H : (some aj) = some r := H
      have A7 := am_ A70
      clear A70
      obtain rfl := Option.some.inj H
      simp only [Option.some.injEq, Prod.mk.injEq] at H
      obtain ⟨rfl⟩ := H
      go_enter Try.func25, Try.ntmps25
      go_wp2_with (first | ((with_reducible refine gate_dst (N := 2) rfl ?_); refine box_event ?hg (N := 2) ?hd (cs := #[.int .i64 a0_0, .string a0_1, .slice A0_2 l0_2.length c0_2]) (t := 29) ?hr ?_; (case hd => rfl); (case hg => rfl); (case hr => first | (go_simp; done) | (go_simp; rfl)); intro ag hg w8 hbox hb; replace aa := am_ (hbox); replace az := am_ ((by rw [hg]; exact (below_size (b0_ HB.out)) : w.heap.size ≤ ag)); replace ae := am_ ((by rw [hg]; exact (below_size (b0_ HB.out)) : w.heap.size ≤ ag)); replace HB := am_ (below_step (b0_ HB.out) hb); clear hb hbox hg; have bh := ck_ (v := (.int .i64 a0_0)) aa 0 rfl; have bi := ck_ (v := (.string a0_1)) aa 1 rfl; have bj := ck_ (v := (.slice A0_2 l0_2.length c0_2)) aa 2 rfl; have bk := blk_frozen aa.out 0; have bl := blk_frozen aa.out 1; have bm := blk_frozen aa.out 2) | ((with_reducible refine gate_callee (f := 17) rfl ?_); refine gL_ (some 6) Try.func17 #[.agg #[.int .i64 a0_0, .string a0_1, .slice A0_2 l0_2.length c0_2]] ?_; (with_reducible refine (spec_IsValidRegex.calls k a0_0 a0_1 _ _ l0_2 true _ ?side1 ?side2 A3.out).mono ?_); (case side1 => exact rc_ (Kd.C_below ak.out HB.out)); (case side2 => exact an.out); rintro e w10 ⟨rfl, hb⟩; refine ⟨_, rfl, ?_⟩; have n0_ := am_ (blk_below (rb_ aa.out) hb); have n1_ := am_ (below_step (b1_ HB.out ae.out) hb); clear aa; clear HB; have aa := n0_; have HB := n1_; clear n0_ n1_; (try clear hb); (try clear hb2); (try clear hk); (try clear hi)) | (go_at_call 51; (with_reducible refine (spec_IsWord.calls k a1 true _ A5.out).mono ?_); rintro e w' ⟨rfl, ⟨nd, rfl⟩⟩; have aJ := ck_ (v := (.int .i64 a0_0)) aa 0 rfl; have aK := ck_ (v := (.string a0_1)) aa 1 rfl; have aL := ck_ (v := (.slice A0_2 l0_2.length c0_2)) aa 2 rfl; have aM := blk_frozen aa.out 0; have aN := blk_frozen aa.out 1; have aO := blk_frozen aa.out 2) | (go_at_call 52; (with_reducible refine (spec_l4Match.calls a0_0 a0_1 _ _ l0_2 a1 aj _ ?side1 ?side2 A7.out).mono ?_); (case side1 => exact rc_ (Kd.C_below ak.out (b1_ HB.out ae.out))); (case side2 => exact an.out); rintro e w12 ⟨rfl, hb⟩; have n0_ := am_ (blk_below (rb_ aa.out) hb); have n1_ := am_ (below_step (b1_ HB.out ae.out) hb); clear aa; clear HB; have aa := n0_; have HB := n1_; clear n0_ n1_; (try clear hb); (try clear hb2); (try clear hk); (try clear hi)))
      go_ret
      exact ⟨by first | rfl | (simp [errW_none, errW_some] <;> rfl) | (simp [*, errW_none, errW_some] <;> rfl), by exact zp31_0_ HB.out ae.out⟩
    · replace c6 := Bool.eq_false_iff.mpr c6
      subst c6
      have H1 : (some false) = some r := by rw [if_neg (show ¬ (false = true) by decide)] at H; exact H
      clear H
      have H := H1
      clear H1
      obtain rfl := Option.some.inj H
      simp only [Option.some.injEq, Prod.mk.injEq] at H
      obtain ⟨rfl⟩ := H
      go_enter Try.func25, Try.ntmps25
      go_wp2_with (first | ((with_reducible refine gate_dst (N := 2) rfl ?_); refine box_event ?hg (N := 2) ?hd (cs := #[.int .i64 a0_0, .string a0_1, .slice A0_2 l0_2.length c0_2]) (t := 29) ?hr ?_; (case hd => rfl); (case hg => rfl); (case hr => first | (go_simp; done) | (go_simp; rfl)); intro ag hg w13 hbox hb; replace aa := am_ (hbox); replace az := am_ ((by rw [hg]; exact (below_size (b0_ HB.out)) : w.heap.size ≤ ag)); replace ae := am_ ((by rw [hg]; exact (below_size (b0_ HB.out)) : w.heap.size ≤ ag)); replace HB := am_ (below_step (b0_ HB.out) hb); clear hb hbox hg; have aP := ck_ (v := (.int .i64 a0_0)) aa 0 rfl; have aQ := ck_ (v := (.string a0_1)) aa 1 rfl; have aR := ck_ (v := (.slice A0_2 l0_2.length c0_2)) aa 2 rfl; have aS := blk_frozen aa.out 0; have aT := blk_frozen aa.out 1; have aU := blk_frozen aa.out 2) | ((with_reducible refine gate_callee (f := 17) rfl ?_); refine gL_ (some 6) Try.func17 #[.agg #[.int .i64 a0_0, .string a0_1, .slice A0_2 l0_2.length c0_2]] ?_; (with_reducible refine (spec_IsValidRegex.calls k a0_0 a0_1 _ _ l0_2 true _ ?side1 ?side2 A3.out).mono ?_); (case side1 => exact rc_ (Kd.C_below ak.out HB.out)); (case side2 => exact an.out); rintro e w15 ⟨rfl, hb⟩; refine ⟨_, rfl, ?_⟩; have n0_ := am_ (blk_below (rb_ aa.out) hb); have n1_ := am_ (below_step (b1_ HB.out ae.out) hb); clear aa; clear HB; have aa := n0_; have HB := n1_; clear n0_ n1_; (try clear hb); (try clear hb2); (try clear hk); (try clear hi)) | (go_at_call 51; (with_reducible refine (spec_IsWord.calls k a1 false _ A5.out).mono ?_); rintro e w' ⟨rfl, ⟨nd, rfl⟩⟩))
      go_ret
      exact ⟨by first | rfl | (simp [errW_none, errW_some] <;> rfl) | (simp [*, errW_none, errW_some] <;> rfl), by exact zp31_0_ HB.out ae.out⟩
  · replace c4 := Bool.eq_false_iff.mpr c4
    subst c4
    have H1 : (some false) = some r := by rw [if_neg (show ¬ (false = true) by decide)] at H; exact H
    clear H
    have H := H1
    clear H1
    obtain rfl := Option.some.inj H
    simp only [Option.some.injEq, Prod.mk.injEq] at H
    obtain ⟨rfl⟩ := H
    go_enter Try.func25, Try.ntmps25
    go_wp2_with (first | ((with_reducible refine gate_dst (N := 2) rfl ?_); refine box_event ?hg (N := 2) ?hd (cs := #[.int .i64 a0_0, .string a0_1, .slice A0_2 l0_2.length c0_2]) (t := 29) ?hr ?_; (case hd => rfl); (case hg => rfl); (case hr => first | (go_simp; done) | (go_simp; rfl)); intro ag hg w16 hbox hb; replace aa := am_ (hbox); replace az := am_ ((by rw [hg]; exact (below_size (b0_ HB.out)) : w.heap.size ≤ ag)); replace ae := am_ ((by rw [hg]; exact (below_size (b0_ HB.out)) : w.heap.size ≤ ag)); replace HB := am_ (below_step (b0_ HB.out) hb); clear hb hbox hg; have aV := ck_ (v := (.int .i64 a0_0)) aa 0 rfl; have aW := ck_ (v := (.string a0_1)) aa 1 rfl; have aX := ck_ (v := (.slice A0_2 l0_2.length c0_2)) aa 2 rfl; have aY := blk_frozen aa.out 0; have aZ := blk_frozen aa.out 1; have ba := blk_frozen aa.out 2) | ((with_reducible refine gate_callee (f := 17) rfl ?_); refine gL_ (some 6) Try.func17 #[.agg #[.int .i64 a0_0, .string a0_1, .slice A0_2 l0_2.length c0_2]] ?_; (with_reducible refine (spec_IsValidRegex.calls k a0_0 a0_1 _ _ l0_2 false _ ?side1 ?side2 A3.out).mono ?_); (case side1 => exact rc_ (Kd.C_below ak.out HB.out)); (case side2 => exact an.out); rintro e w18 ⟨rfl, hb⟩; refine ⟨_, rfl, ?_⟩; have n0_ := am_ (blk_below (rb_ aa.out) hb); have n1_ := am_ (below_step (b1_ HB.out ae.out) hb); clear aa; clear HB; have aa := n0_; have HB := n1_; clear n0_ n1_; (try clear hb); (try clear hb2); (try clear hk); (try clear hi)))
    go_ret
    exact ⟨by first | rfl | (simp [errW_none, errW_some] <;> rfl) | (simp [*, errW_none, errW_some] <;> rfl), by exact zp31_0_ HB.out ae.out⟩
mutual
def impl_size.l0 : Nat → Int → List (S29) → Int → Int → Option (Int)
  | 0, _, _, _, _ => none
  | k + 1, x3, x7, x8, x9 => if x9 < x8 then (if 0 ≤ x9 then (if x9 < (x7.length : Int) then ((impl_size.f k ((rd_T29 x7 x9).f0) ((rd_T29 x7 x9).f1) ((rd_T29 x7 x9).f2)).bind fun av => (impl_size.l0 k (wrap64 (x3 + av)) x7 x8 (wrap64 (x9 + 1)))) else (none)) else (none)) else (some x3)
def impl_size.f : Nat → Int → ByteArray → List (S29) → Option (Int)
  | 0, _, _, _ => none
  | k + 1, a0_0, a0_1, l0_2 => impl_size.l0 k 1 l0_2 (l0_2.length : Int) 0
end
theorem impl_size.mono_l : ∀ k, (∀ y0 y1 y2, LeO (impl_size.f k y0 y1 y2) (impl_size.f (k + 1) y0 y1 y2)) ∧ (∀ y0 y1 y2 y3, LeO (impl_size.l0 k y0 y1 y2 y3) (impl_size.l0 (k + 1) y0 y1 y2 y3))
  | 0 => ⟨fun _ _ _ r h => by simp [impl_size.f] at h, fun _ _ _ _ r h => by simp [impl_size.l0] at h⟩
  | k + 1 => by
    obtain ⟨ih0, ih1⟩ := impl_size.mono_l k
    refine ⟨?_, ?_⟩
    · intro y0 y1 y2
      unfold impl_size.f
      repeat' first
      | (with_reducible exact ih0 _ _ _)
      | (with_reducible exact ih1 _ _ _ _)
      | (with_reducible exact LeO.refl _)
      | (with_reducible exact LeO.none _)
      | (with_reducible refine LeO.ite ?_ ?_)
      | (with_reducible refine LeO.bind ?_ (fun _ => ?_))
      | exact ih0 _ _ _
      | exact ih1 _ _ _ _
      | exact LeO.none _
      | refine LeO.ite ?_ ?_
      | refine LeO.bind ?_ (fun _ => ?_)
    · intro y0 y1 y2 y3
      unfold impl_size.l0
      repeat' first
      | (with_reducible exact ih0 _ _ _)
      | (with_reducible exact ih1 _ _ _ _)
      | (with_reducible exact LeO.refl _)
      | (with_reducible exact LeO.none _)
      | (with_reducible refine LeO.ite ?_ ?_)
      | (with_reducible refine LeO.bind ?_ (fun _ => ?_))
      | exact ih0 _ _ _
      | exact ih1 _ _ _ _
      | exact LeO.none _
      | refine LeO.ite ?_ ?_
      | refine LeO.bind ?_ (fun _ => ?_)
theorem impl_size.mono : ∀ a0 a1 a2 k, LeO (impl_size.f k a0 a1 a2) (impl_size.f (k + 1) a0 a1 a2) := by
  intro a0 a1 a2 k
  obtain ⟨ih0, ih1⟩ := impl_size.mono_l k
  exact ih0 a0 a1 a2
set_option maxHeartbeats 8000000 in
set_option maxRecDepth 100000 in
theorem impl_size.calls (k : Nat) : ∀ (a0_0 : Int) (a0_1 : ByteArray) (A0_2 : Option Addr) (c0_2 : Nat) (l0_2 : List (S29)) (r : Int) (w : World) (hr0_2 : Kd.C k29 w A0_2 l0_2.length l0_2) (hc0_2 : l0_2.length ≤ c0_2) (h : impl_size.f k a0_0 a0_1 l0_2 = some r),
    Calls Try.prog 79 #[.agg #[.int .i64 a0_0, .string a0_1, .slice A0_2 l0_2.length c0_2]] w fun e w' => e = .returned (.int .i64 r) ∧ Below w.heap.size w w' := by
  induction k using Nat.strongRecOn with
  | _ k ih =>
  intro a0_0 a0_1 A0_2 c0_2 l0_2 r w hr0_2 hc0_2 h
  cases k with
  | zero => exact absurd h (by simp [impl_size.f])
  | succ k =>
  simp only [impl_size.f] at h
  have hu29 := Try.underlying29
  have ak := am_ hr0_2
  have an := am_ hc0_2
  clear hr0_2 hc0_2
  have HB := am_ (Below.refl w.heap.size w)
  have H : (impl_size.l0 k 1 l0_2 (l0_2.length : Int) 0) = some r := h
  clear h
  have H' := am_ H
  clear H
  go_enter Try.func79, Try.ntmps79
  go_wp2_with (first | ((with_reducible refine gate_dst (N := 1) rfl ?_); refine box_event ?hg (N := 1) ?hd (cs := #[.int .i64 a0_0, .string a0_1, .slice A0_2 l0_2.length c0_2]) (t := 29) ?hr ?_; (case hd => rfl); (case hg => rfl); (case hr => first | (go_simp; done) | (go_simp; rfl)); intro al hg w2 hbox hb; replace ad := am_ (hbox); replace bn := am_ ((by rw [hg]; exact (below_size (b0_ HB.out)) : w.heap.size ≤ al)); replace ah := am_ ((by rw [hg]; exact (below_size (b0_ HB.out)) : w.heap.size ≤ al)); replace HB := am_ (below_step (b0_ HB.out) hb); clear hb hbox hg; have aC := ck_ (v := (.int .i64 a0_0)) ad 0 rfl; have aD := ck_ (v := (.string a0_1)) ad 1 rfl; have aE := ck_ (v := (.slice A0_2 l0_2.length c0_2)) ad 2 rfl; have aF := blk_frozen ad.out 0; have aG := blk_frozen ad.out 1; have aH := blk_frozen ad.out 2))
  go_loopg [3, 9] k (fun kq v3 v9 w' => ∃ (aw : Int) (ab : Int), v3 = .int .i64 aw ∧ v9 = .int .i64 ab ∧ Aside0 (impl_size.l0 kq aw l0_2 (l0_2.length : Int) ab = some r) ∧ Aside0 (kq ≤ k) ∧ Aside0 (w'.heap[al]? = some (.cells #[.int .i64 a0_0, .string a0_1, (.slice A0_2 l0_2.length c0_2)] 29 (0, 0))) ∧ Aside0 (Below w.heap.size w w'))
  case atStart => exact ⟨(1), (0), (by first | rfl | (simp; done) | (simp [*]; done)), (by first | rfl | (simp; done) | (simp [*]; done)), H', ⟨Nat.le_refl _⟩, ⟨by refine rb_ ?_; exact ad.out⟩, ⟨by exact zp31_0_ HB.out ah.out⟩⟩
  case round =>
    clear H'
    try clear p2
    try clear aC
    try clear aD
    try clear aE
    try clear aF
    try clear aG
    try clear aH
    obtain ⟨aw, ab, rfl, rfl, HA, HK1, ad, HB⟩ := hrel
    cases gk with
    | zero => exact absurd HA.out (by simp [impl_size.l0])
    | succ k1 =>
      have H := HA.out
      clear HA
      simp only [impl_size.l0] at H
      by_cases c4 : ab < (l0_2.length : Int)
      · rw [if_pos c4] at H
        have c4b0 : decide (ab < (l0_2.length : Int)) = true := decide_eq_true c4
        clear c4
        by_cases c5 : 0 ≤ ab
        · rw [if_pos c5] at H
          have c5b0 : decide (0 ≤ ab) = true := decide_eq_true c5
          clear c5
          by_cases c6 : ab < (l0_2.length : Int)
          · rw [if_pos c6] at H
            have c6b0 : decide (ab < (l0_2.length : Int)) = true := decide_eq_true c6
            clear c6
            replace H := Option.bind_eq_some_iff.mp H
            obtain ⟨av, A70, H⟩ := H
            have A7 := am_ A70
            clear A70
            have H' := am_ H
            clear H
            have p536 : 0 ≤ (ab : Int) := of_decide_eq_true ah_
            have q536 : ab < (l0_2.length : Int) := of_decide_eq_true ah_
            obtain ⟨aI, A536_2, c536_2, e536, ap, aq, ar, hl536_2, hi536_2⟩ := at_T29 ak.out ab p536 q536
            cases e536
            replace ap := (HB.out.cell (World.block_lt_of_cell? w _ ap)).trans ap
            replace aq := (HB.out.cell (World.block_lt_of_cell? w _ aq)).trans aq
            replace ar := (HB.out.cell (World.block_lt_of_cell? w _ ar)).trans ar
            have aA := am_ hi536_2
            have aB := am_ hl536_2
            clear hi536_2 hl536_2
            replace p536 := eq_true p536
            replace q536 := eq_true q536
            go_wp2_with (first | ((with_reducible refine gate_dst (N := 5) rfl ?_); refine box_event ?hg (N := 5) ?hd (cs := #[.int .i64 0, .string (⟨#[]⟩ : ByteArray), .slice none 0 0]) (t := 29) ?hr ?_; (case hd => rfl); (case hg => rfl); (case hr => first | (go_simp; done) | (go_simp; rfl)); intro ao hg w8 hbox hb; have n0_ := am_ (blk_below (rb_ ad.out) hb); have n1_ := am_ (below_step (b1_ HB.out ah.out) hb); have n2_ := am_ (hbox); have n3_ := am_ ((by rw [hg]; exact (below_size (b1_ HB.out ah.out)) : w.heap.size ≤ ao)); have n4_ := am_ ((by rw [hg]; exact (below_size (b1_ HB.out ah.out)) : w.heap.size ≤ ao)); have n5_ := am_ ((by rw [hg]; exact Nat.ne_of_lt (blk_lt (rb_ ad.out)) : al ≠ ao)); have n6_ := am_ ((by rw [hg]; exact Nat.ne_of_gt (blk_lt (rb_ ad.out)) : ao ≠ al)); clear ad; clear HB; have ad := n0_; have HB := n1_; have af := n2_; have bo := n3_; have ax := n4_; have ai := n5_; have ay := n6_; clear n0_ n1_ n2_ n3_ n4_ n5_ n6_; clear hb hbox hg; have bp := ay.out; have bq := ai.out; have bb := ck_ (v := (.int .i64 0)) af 0 rfl; have bc := ck_ (v := (.string (⟨#[]⟩ : ByteArray))) af 1 rfl; have bd := ck_ (v := (.slice none 0 0)) af 2 rfl; have be := blk_frozen af.out 0; have bf := blk_frozen af.out 1; have bg := blk_frozen af.out 2) | ((with_reducible refine gate_callee (f := 79) rfl ?_); refine gL_ (some 15) Try.func79 #[.agg #[.int .i64 ((rd_T29 l0_2 ab).f0), .string ((rd_T29 l0_2 ab).f1), .slice A536_2 ((rd_T29 l0_2 ab).f2).length c536_2]] ?_; (with_reducible refine (ih k1 (by have := HK1.out; omega) ((rd_T29 l0_2 ab).f0) ((rd_T29 l0_2 ab).f1) _ _ ((rd_T29 l0_2 ab).f2) av _ ?side1 ?side2 A7.out).mono ?_); (case side1 => exact Kd.C_below aA.out (b2_ HB.out ah.out ax.out)); (case side2 => exact aB.out); rintro e w11 ⟨rfl, hb⟩; refine ⟨_, rfl, ?_⟩; have n0_ := am_ (blk_below (g := al) (o := .cells #[.int .i64 a0_0, .string a0_1, .slice (some aI) l0_2.length c0_2] 29 (0, 0)) (by refine rb_ ?_; refine blk_far ?_ ai.out _; refine rb_ ?_; refine blk_far ?_ ai.out _; refine rb_ ?_; refine blk_far ?_ ai.out _; refine rb_ ?_; exact ad.out) hb); have n1_ := am_ (blk_below (g := ao) (o := .cells #[.int .i64 ((rd_T29 l0_2 ab).f0), .string ((rd_T29 l0_2 ab).f1), .slice A536_2 ((rd_T29 l0_2 ab).f2).length c536_2] 29 (0, 0)) (by refine rb_ ?_; refine blk_put (cs := #[.int .i64 ((rd_T29 l0_2 ab).f0), .string ((rd_T29 l0_2 ab).f1), .slice none 0 0]) ?_ 2 _ rfl; refine rb_ ?_; refine blk_put (cs := #[.int .i64 ((rd_T29 l0_2 ab).f0), .string (⟨#[]⟩ : ByteArray), .slice none 0 0]) ?_ 1 _ rfl; refine rb_ ?_; refine blk_put (cs := #[.int .i64 0, .string (⟨#[]⟩ : ByteArray), .slice none 0 0]) ?_ 0 _ rfl; refine rb_ ?_; exact af.out) hb); have n2_ := am_ (below_step (b2_ HB.out ah.out ax.out) hb); clear ad; clear af; clear HB; have ad := n0_; have af := n1_; have HB := n2_; clear n0_ n1_ n2_; (try clear hb); (try clear hb2); (try clear hk); (try clear hi)))
            go_roundg k1
            case measure => have := HK1.out; omega
            case rel => exact ⟨(wrap64 (aw + av)), (wrap64 (ab + 1)), (by first | rfl | (simp; done) | (simp [*]; done)), (by first | rfl | (simp; done) | (simp [*]; done)), H', ⟨by have := HK1.out; omega⟩, ⟨by refine rb_ ?_; exact ad.out⟩, ⟨by repeat (first | (with_reducible first | exact HB.out | apply below_alloc | apply pw_below_drewN | apply below_drew1 | refine below_set ?_ ah.out | refine below_set ?_ ax.out) | exact HB.out)⟩⟩
          · rw [if_neg c6] at H
            exact absurd H (by simp)
        · rw [if_neg c5] at H
          exact absurd H (by simp)
      · rw [if_neg c4] at H
        have c4b0 : decide (ab < (l0_2.length : Int)) = false := decide_eq_false c4
        clear c4
        obtain rfl := Option.some.inj H
        simp only [Option.some.injEq, Prod.mk.injEq] at H
        obtain ⟨rfl⟩ := H
        go_wp2
        go_ret
        exact ⟨by first | rfl | (simp [errW_none, errW_some] <;> rfl) | (simp [*, errW_none, errW_some] <;> rfl), by exact zp31_0_ HB.out ah.out⟩
end Go.Proofs.Ytldgkgdgcfllmaa.P
end
