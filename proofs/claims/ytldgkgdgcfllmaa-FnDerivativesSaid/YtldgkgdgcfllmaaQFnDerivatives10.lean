/- Texts of the proof of FnDerivatives, put together. No condition. -/
import Derived.Test.YtldgkgdgcfllmaaQFnDerivatives3
import Derived.Shelf.Abstract
import Derived.Lib.Walk
import Derived.Test.YtldgkgdgcfllmaaQFnDerivatives6
import Derived.Test.YtldgkgdgcfllmaaQFnDerivatives8
import Derived.Laws.MakeOwn
import Derived.Test.YtldgkgdgcfllmaaQFnDerivatives5
import Derived.Test.YtldgkgdgcfllmaaQFnDerivatives9
section
namespace Go.Proofs.Ytldgkgdgcfllmaa.Rg
open Go.RowKit Go.Shelf Go.Proofs.Ytldgkgdgcfllmaa.P Go.Proofs.Ytldgkgdgcfllmaa.Pl Go.Proofs.YtldgkgdgcfllmaaW.PrintWords Go.Proofs.YtldgkgdgcfllmaaW.PrintLast Go.Proofs.YtldgkgdgcfllmaaW.PrintMore
set_option linter.unusedVariables false
set_option linter.unusedSimpArgs false
theorem size_ev {r : Tr} {x : Rx} (h : Ax r x) : sz x ≤ 100000 → Ev (fun k => impl_size.f k r.f0 r.f1 r.f2) ((sz x : Nat) : Int) := by
  have w1 : wrap64 ((0 : Int) + 1) = 1 := by unfold wrap64; omega
  have w2 : wrap64 ((1 : Int) + 1) = 2 := by unfold wrap64; omega
  have leaf : ∀ (k : Int) (l : ByteArray), Ev (fun q => impl_size.f q k l []) ((1 : Nat) : Int) := fun k l => by
    refine next ?_
    simp only [impl_size.f]
    refine next ?_
    simp only [impl_size.l0, List.length_nil]
    exact Ev.now _
  have one : ∀ (k : Int) (l : ByteArray) (a : Tr) (m : Nat), m ≤ 100000 → Ev (fun q => impl_size.f q a.f0 a.f1 a.f2) ((m : Nat) : Int) → Ev (fun q => impl_size.f q k l [a]) ((1 + m : Nat) : Int) := fun k l a m hm ih => by
    refine next ?_
    simp only [impl_size.f]
    refine next ?_
    simp only [impl_size.l0, List.length_cons, List.length_nil, if_pos (show (0 : Int) < ((0 + 1 : Nat) : Int) by omega), if_pos (show (0 : Int) ≤ 0 by omega), show rd_T29 [a] 0 = a from rfl]
    refine Ev.bind ih ?_
    rw [w1]
    refine next ?_
    simp only [impl_size.l0, if_neg (show ¬ (1 : Int) < ((0 + 1 : Nat) : Int) by omega)]
    exact ev_some (by rw [w64 (by omega) (by omega)]; omega)
  have two : ∀ (k : Int) (l : ByteArray) (a b : Tr) (m n : Nat), m + n ≤ 100000 → Ev (fun q => impl_size.f q a.f0 a.f1 a.f2) ((m : Nat) : Int) → Ev (fun q => impl_size.f q b.f0 b.f1 b.f2) ((n : Nat) : Int) → Ev (fun q => impl_size.f q k l [a, b]) ((1 + m + n : Nat) : Int) := fun k l a b m n hm iha ihb => by
    refine next ?_
    simp only [impl_size.f]
    refine next ?_
    simp only [impl_size.l0, List.length_cons, List.length_nil, if_pos (show (0 : Int) < ((0 + 1 + 1 : Nat) : Int) by omega), if_pos (show (0 : Int) ≤ 0 by omega), show rd_T29 [a, b] 0 = a from rfl]
    refine Ev.bind iha ?_
    rw [w1]
    refine next ?_
    simp only [impl_size.l0, if_pos (show (1 : Int) < ((0 + 1 + 1 : Nat) : Int) by omega), if_pos (show (0 : Int) ≤ 1 by omega), show rd_T29 [a, b] 1 = b from rfl]
    refine Ev.bind ihb ?_
    rw [w2]
    refine next ?_
    simp only [impl_size.l0, if_neg (show ¬ (2 : Int) < ((0 + 1 + 1 : Nat) : Int) by omega)]
    exact ev_some (by rw [w64 (show -9223372036854775808 ≤ (1 : Int) + (m : Int) by omega) (by omega), w64 (by omega) (by omega)]; omega)
  induction h with
  | none l => intro _; exact leaf _ _
  | empty l => intro _; exact leaf _ _
  | letter l => intro _; exact leaf _ _
  | any l => intro _; exact leaf _ _
  | cat l ha hb iha ihb => intro hs; simp only [sz] at hs ⊢; exact two _ _ _ _ _ _ (by omega) (iha (by omega)) (ihb (by omega))
  | or l ha hb iha ihb => intro hs; simp only [sz] at hs ⊢; exact two _ _ _ _ _ _ (by omega) (iha (by omega)) (ihb (by omega))
  | and l ha hb iha ihb => intro hs; simp only [sz] at hs ⊢; exact two _ _ _ _ _ _ (by omega) (iha (by omega)) (ihb (by omega))
  | star l ha iha => intro hs; simp only [sz] at hs ⊢; exact one _ _ _ _ (by omega) (iha (by omega))
  | not l ha iha => intro hs; simp only [sz] at hs ⊢; exact one _ _ _ _ (by omega) (iha (by omega))
theorem cell_far3 {w : World} {a : Addr} {v u0 u1 u2 : Value} {n : Nat} {g : Nat} (h : w.cell? a = some v) (hn : a.block < n) (hg : n ≤ g) : (((w.setCell ⟨g, 0, none⟩ u0).setCell ⟨g, 1, none⟩ u1).setCell ⟨g, 2, none⟩ u2).cell? a = some v := by
  have hne : a.block ≠ g := by omega
  have step : ∀ (w : World) (p : Addr) (u : Value), p.block = g → (w.setCell p u).cell? a = w.cell? a := fun w p u hp => by
    unfold World.cell?
    rw [Below.heap_setCell w p u _ (by rw [hp]; exact hne)]
  rw [step _ _ _ rfl, step _ _ _ rfl, step _ _ _ rfl]
  exact h
def Tf22 : Bool × List (List Nat × List Nat) := (true, [([], []), ([0], [0]), ([1], [1]), ([2], [2]), ([], []), ([4], [4]), ([5], [5]), ([6], [6]), ([], []), ([], []), ([8, 3, 0, 1, 2, 3, 8, 9], [3, 8]), ([9, 7, 10, 0, 1, 2, 3, 4, 5, 6, 7, 8, 9, 10], [7, 9])])
def Bf22 : List Nat := [0, 1, 3, 7, 0, 16, 48, 112, 0, 0, 783, 2047]
theorem tabf22 : rtab .any (opsOf Try.f88 22) = Tf22 := by kernel_rfl
theorem bitsf22 : waitsOk Tf22.2 Bf22 = true := by kernel_rfl
theorem kids {w : World} {A : Option Addr} {a b : Tr} (h : Kd.C k29 w A 2 [a, b]) : ∃ ad A2 c2 A3 c3, A = some ad ∧ (w.cell? ad = some (.int .i64 a.f0) ∧ w.cell? ⟨ad.block, ad.off + 1, none⟩ = some (.string a.f1) ∧ w.cell? ⟨ad.block, ad.off + 2, none⟩ = some (.slice A2 a.f2.length c2)) ∧ a.f2.length ≤ c2 ∧ Kd.C k29 w A2 a.f2.length a.f2 ∧ (w.cell? ⟨ad.block, ad.off + 3, none⟩ = some (.int .i64 b.f0) ∧ w.cell? ⟨ad.block, ad.off + 3 + 1, none⟩ = some (.string b.f1) ∧ w.cell? ⟨ad.block, ad.off + 3 + 2, none⟩ = some (.slice A3 b.f2.length c3)) ∧ b.f2.length ≤ c3 ∧ Kd.C k29 w A3 b.f2.length b.f2 := by
  obtain ⟨ad, A2, c2, e, h0, h1, h2, h3, h4⟩ := kid0 h (by omega)
  obtain ⟨ad', A3, c3, e', g0, g1, g2, g3, g4⟩ := at_T29 h 1 (by omega) (by omega)
  subst e
  obtain rfl := Option.some.inj e'
  rw [show ((1 : Int)).toNat = 1 from rfl, show 1 * 3 = 3 from rfl] at g0 g1 g2
  exact ⟨ad, A2, c2, A3, c3, rfl, ⟨h0, h1, h2⟩, h3, h4, ⟨g0, g1, g2⟩, g3, g4⟩
set_option maxHeartbeats 8000000 in
set_option maxRecDepth 100000 in
theorem findTwo (w0 W : World) (gm g : Nat) (s : ByteArray) (N : Nat) (E : Nat → Bool) (t : List Int) (x y : Rx) (r q : Tr) (kk : Int) (l : ByteArray) (A : Option Addr) (c id i j : Nat) (res : Bool) (hi : i ≤ j) (hj : j ≤ s.size) (hs : s.size ≤ 1000) (hid : id ≤ 1000) (hsz : sz x ≤ 1000) (hax : Ax r x) (hkk : kk = 5 ∨ kk = 6 ∨ kk = 7) (hC : Kd.C k29 w0 A 2 [r, q]) (hm : Mem w0 W gm g s N t)
    (h5 : kk = 5 → (∀ k, i ≤ k → k ≤ j → mt (bytesOf s) x i k = true → mt (bytesOf s) y k j = true → res = true) ∧ ((∀ k, i ≤ k → k ≤ j → ¬ (mt (bytesOf s) x i k = true ∧ mt (bytesOf s) y k j = true)) → res = false))
    (h6 : kk = 6 → res = (mt (bytesOf s) x i j || mt (bytesOf s) y i j)) (h7 : kk = 7 → res = (mt (bytesOf s) x i j && mt (bytesOf s) y i j))
    (hk : ∀ A2 c2, Kd.C k29 w0 A2 r.f2.length r.f2 → Kid w0 gm g s N E t i j x r A2 c2 ((id : Int) + 1))
    (hk2 : ∀ A2 c2, Kd.C k29 w0 A2 q.f2.length q.f2 → Kid w0 gm g s N E t i j y q A2 c2 ((id : Int) + 1 + (sz x : Int))) :
    Calls Try.prog 88 #[.pointer (some ⟨gm, 0, none⟩), .agg #[.int .i64 kk, .string l, .slice A 2 c], .int .i64 id, .int .i64 i, .int .i64 j] W (Post w0 gm g s N E t W res) := by
  obtain ⟨kz, hkz⟩ := (size_ev hax (by omega)).rounds
  obtain ⟨ad, A2, c2, A3, c3, rfl, ⟨a0, a1, a2⟩, a3, a4, ⟨b0, b1, b2⟩, b3, b4⟩ := kids hC
  have HKD := am_ (hk A2 c2 a4)
  have HKE := am_ (hk2 A3 c3 b4)
  have HSZ := am_ hkz
  have HA4 := am_ a4
  have HA3 := am_ a3
  have B0 : Aside0 (Below W.heap.size W (W.alloc (Obj.cells #[.int .i64 kk, .string l, .slice (some ad) 2 c] 29))) := ⟨below_alloc (Below.refl _ _) _⟩
  have HM1 := am_ (hm.below B0.out)
  have HBR : Aside0 ((W.alloc (Obj.cells #[.int .i64 kk, .string l, .slice (some ad) 2 c] 29)).heap[W.heap.size]? = some (.cells #[.int .i64 kk, .string l, .slice (some ad) 2 c] 29 (0, 0))) := ⟨blk_new _ _⟩
  have HGL : Aside0 (g < W.heap.size) := ⟨blk_lt hm.row⟩
  have hb2 : World.cell? (W.alloc (Obj.cells #[.int .i64 kk, .string l, .slice (some ad) 2 c] 29)) ⟨W.heap.size, 2, none⟩ = some (.slice (some ad) 2 c) := (blk_cell HBR.out 2).trans rfl
  have k0 := pw_cell_below HM1.out.bel a0
  have k1 := pw_cell_below HM1.out.bel a1
  have k2 := pw_cell_below HM1.out.bel a2
  have k3 := pw_cell_below HM1.out.bel b0
  have k4 := pw_cell_below HM1.out.bel b1
  have k5 := pw_cell_below HM1.out.bel b2
  have HBX := am_ (below_drew1 (Below.refl (W.alloc (Obj.cells #[.int .i64 kk, .string l, .slice (some ad) 2 c] 29)).heap.size (W.alloc (Obj.cells #[.int .i64 kk, .string l, .slice (some ad) 2 c] 29))))
  have HM2 := am_ (HM1.out.below HBX.out)
  have HBR2 := am_ (blk_below HBR.out HBX.out)
  have HB2 := am_ (below_then B0.out B0.out.size HBX.out)
  have hu := Try.underlying29
  have H5 := am_ h5
  have H6 := am_ h6
  have H7 := am_ h7
  clear hC hm hk hk2 a0 a1 a2 a3 a4 b0 b1 b2 b3 b4 hkz hax h5 h6 h7
  rcases hkk with rfl | rfl | rfl
  all_goals
    go_enter Try.func88, Try.ntmps88
    go_wp2
    refine start_ (n := 12) (S := (fun w' => w'.cell? ⟨W.heap.size, 2, none⟩ = some (.slice (some ad) 2 c) ∧ w'.cell? ad = some (.int .i64 r.f0) ∧ w'.cell? ⟨ad.block, ad.off + 1, none⟩ = some (.string r.f1) ∧ w'.cell? ⟨ad.block, ad.off + 2, none⟩ = some (.slice A2 r.f2.length c2) ∧ w'.cell? ⟨ad.block, ad.off + 3, none⟩ = some (.int .i64 q.f0) ∧ w'.cell? ⟨ad.block, ad.off + 3 + 1, none⟩ = some (.string q.f1) ∧ w'.cell? ⟨ad.block, ad.off + 3 + 2, none⟩ = some (.slice A3 q.f2.length c3))) (ds := [11]) (bl 12 0) (by kernel_rfl) rfl rfl (⟨hb2, k0, k1, k2, k3, k4, k5⟩) (fun hHeld => ?_); refine with_tabW tabf22 bitsf22 (fun HT_ HW_ => ?_)
    clear hb2 k0 k1 k2 k3 k4 k5
    generalize World.drew (W.alloc _) = Wd at HM2 HBR2 HB2 hHeld ⊢
    have HHD := am_ hHeld
    refine ph_ 0 88 (bl 12 1) HT_ ?_
    refine ph_ 4 92 (bl 12 17) HT_ ?_
    refine th_ 1 89 (bl 12 19) HT_ HW_ hHeld ?_
    refine ph_ 2 90 (bl 12 23) HT_ ?_
    refine th_ 3 91 (bl 12 31) HT_ HW_ hHeld ?_
    refine th_ 5 93 (bl 12 63) HT_ HW_ hHeld ?_
    refine ph_ 6 94 (bl 12 127) HT_ ?_
    refine th_ 7 95 (bl 12 255) HT_ HW_ hHeld ?_
    refine join_ (σ := Nat × Nat) 2 (bl 12 1023) (fun s_ => [(12, .pointer (some ⟨s_.1, 0, none⟩)), (13, .pointer (some ⟨s_.2, 0, none⟩))]) (fun s_ w' => (w'.cell? ⟨W.heap.size, 2, none⟩ = some (.slice (some ad) 2 c) ∧ w'.cell? ad = some (.int .i64 r.f0) ∧ w'.cell? ⟨ad.block, ad.off + 1, none⟩ = some (.string r.f1) ∧ w'.cell? ⟨ad.block, ad.off + 2, none⟩ = some (.slice A2 r.f2.length c2) ∧ w'.cell? ⟨ad.block, ad.off + 3, none⟩ = some (.int .i64 q.f0) ∧ w'.cell? ⟨ad.block, ad.off + 3 + 1, none⟩ = some (.string q.f1) ∧ w'.cell? ⟨ad.block, ad.off + 3 + 2, none⟩ = some (.slice A3 q.f2.length c3)) ∧ Below Wd.heap.size Wd w' ∧ w'.heap[s_.1]? = some (.cells #[.int .i64 0, .string ⟨#[]⟩, .slice none 0 0] 29 (0, 0)) ∧ w'.heap[s_.2]? = some (.cells #[.int .i64 0, .string ⟨#[]⟩, .slice none 0 0] 29 (0, 0)) ∧ Wd.heap.size ≤ s_.1 ∧ Wd.heap.size ≤ s_.2 ∧ s_.1 ≠ s_.2) ?_ ?_
    rotate_left
    · intro hCont
      refine two_ (i := 8) (j := 9) (Ni := some 12) (Nj := some 13) (bl 12 511) (bl 12 767) rfl rfl rfl rfl (two_of HT_.out (by kernel_rfl)) (by decide) (by decide) (fun K hK => ?_) (fun K hK => ?_)
      · skip
        refine box_step ?hg (N := 12) ?hd (cs := #[.int .i64 0, .string ⟨#[]⟩, .slice none 0 0]) (t := 29) ?hr ?_; (case hd => rfl); (case hg => rfl); (case hr => first | (go_simp; done) | (go_simp; rfl))
        intro ga ha wa hxa hb
        have hsa := hb.size
        refine hK.out _ _ ⟨pw_cell_below hb hHeld.1, pw_cell_below hb hHeld.2.1, pw_cell_below hb hHeld.2.2.1, pw_cell_below hb hHeld.2.2.2.1, pw_cell_below hb hHeld.2.2.2.2.1, pw_cell_below hb hHeld.2.2.2.2.2.1, pw_cell_below hb hHeld.2.2.2.2.2.2⟩ (fun hHeld => ?_)
        clear hK K
        refine nm_ 12 ?_
        refine on_ 9 (some 13) (bl 12 1023) HT_ (fun K hK => ?_)
        refine box_step ?hg (N := 13) ?hd (cs := #[.int .i64 0, .string ⟨#[]⟩, .slice none 0 0]) (t := 29) ?hr ?_; (case hd => rfl); (case hg => rfl); (case hr => first | (go_simp; done) | (go_simp; rfl))
        intro gc hc wc hxc hb2
        refine hK.out _ _ ⟨pw_cell_below hb2 hHeld.1, pw_cell_below hb2 hHeld.2.1, pw_cell_below hb2 hHeld.2.2.1, pw_cell_below hb2 hHeld.2.2.2.1, pw_cell_below hb2 hHeld.2.2.2.2.1, pw_cell_below hb2 hHeld.2.2.2.2.2.1, pw_cell_below hb2 hHeld.2.2.2.2.2.2⟩ (fun hHeld => ?_)
        clear hK K
        refine nm_ 13 ?_
        have hla := blk_lt hxa
        exact norm_ (by simp only [putAll, Act.put, List.setIfInBounds_toArray, List.set_cons_zero, List.set_cons_succ]) (hCont (ga, gc) _ ⟨hHeld, below_then hb hb.size hb2, blk_below hxa hb2, hxc, by show Wd.heap.size ≤ ga; omega, by show Wd.heap.size ≤ gc; omega, by show ga ≠ gc; omega⟩)
      · skip
        refine box_step ?hg (N := 13) ?hd (cs := #[.int .i64 0, .string ⟨#[]⟩, .slice none 0 0]) (t := 29) ?hr ?_; (case hd => rfl); (case hg => rfl); (case hr => first | (go_simp; done) | (go_simp; rfl))
        intro ga ha wa hxa hb
        have hsa := hb.size
        refine hK.out _ _ ⟨pw_cell_below hb hHeld.1, pw_cell_below hb hHeld.2.1, pw_cell_below hb hHeld.2.2.1, pw_cell_below hb hHeld.2.2.2.1, pw_cell_below hb hHeld.2.2.2.2.1, pw_cell_below hb hHeld.2.2.2.2.2.1, pw_cell_below hb hHeld.2.2.2.2.2.2⟩ (fun hHeld => ?_)
        clear hK K
        refine nm_ 13 ?_
        refine on_ 8 (some 12) (bl 12 1023) HT_ (fun K hK => ?_)
        refine box_step ?hg (N := 12) ?hd (cs := #[.int .i64 0, .string ⟨#[]⟩, .slice none 0 0]) (t := 29) ?hr ?_; (case hd => rfl); (case hg => rfl); (case hr => first | (go_simp; done) | (go_simp; rfl))
        intro gc hc wc hxc hb2
        refine hK.out _ _ ⟨pw_cell_below hb2 hHeld.1, pw_cell_below hb2 hHeld.2.1, pw_cell_below hb2 hHeld.2.2.1, pw_cell_below hb2 hHeld.2.2.2.1, pw_cell_below hb2 hHeld.2.2.2.2.1, pw_cell_below hb2 hHeld.2.2.2.2.2.1, pw_cell_below hb2 hHeld.2.2.2.2.2.2⟩ (fun hHeld => ?_)
        clear hK K
        refine nm_ 12 ?_
        have hla := blk_lt hxa
        exact norm_ (by simp only [putAll, Act.put, List.setIfInBounds_toArray, List.set_cons_zero, List.set_cons_succ]) (hCont (gc, ga) _ ⟨hHeld, below_then hb hb.size hb2, hxc, blk_below hxa hb2, by show Wd.heap.size ≤ gc; omega, by show Wd.heap.size ≤ ga; omega, by show gc ≠ ga; omega⟩)
    rintro ⟨g12, g13⟩ wj ⟨hHeld, hbj, h12, h13, l12, l13, hne⟩
    have hg0 : wj.cell? ⟨g12, 0, none⟩ = some (.int .i64 0) := (blk_cell h12 0).trans rfl
    have hg1 : wj.cell? ⟨g12, 1, none⟩ = some (.string ⟨#[]⟩) := (blk_cell h12 1).trans rfl
    have hg2 : wj.cell? ⟨g12, 2, none⟩ = some (.slice none 0 0) := (blk_cell h12 2).trans rfl
    have hf0 := blk_frozen h12 0
    have hf1 := blk_frozen h12 1
    have hf2 := blk_frozen h12 2
    have hne2 := hne.symm
    refine norm_ (a' := ?_) ?_ ?_
    rotate_left
    · simp only [putAll, Act.put, List.setIfInBounds_toArray, List.set_cons_zero, List.set_cons_succ]
      rfl
    refine on_ 10 none (bl 12 2047) HT_ (fun K hK => ?_)
    refine skip_ (w1 := ?_) (by rfl) rfl ?_ ?_
    rotate_left
    · go_simp
      rfl
    refine hK.out _ _ ⟨cell_far3 (hHeld.1) (World.block_lt_of_cell? Wd _ (HHD.out.1)) l12, cell_far3 (hHeld.2.1) (World.block_lt_of_cell? Wd _ (HHD.out.2.1)) l12, cell_far3 (hHeld.2.2.1) (World.block_lt_of_cell? Wd _ (HHD.out.2.2.1)) l12, cell_far3 (hHeld.2.2.2.1) (World.block_lt_of_cell? Wd _ (HHD.out.2.2.2.1)) l12, cell_far3 (hHeld.2.2.2.2.1) (World.block_lt_of_cell? Wd _ (HHD.out.2.2.2.2.1)) l12, cell_far3 (hHeld.2.2.2.2.2.1) (World.block_lt_of_cell? Wd _ (HHD.out.2.2.2.2.2.1)) l12, cell_far3 (hHeld.2.2.2.2.2.2) (World.block_lt_of_cell? Wd _ (HHD.out.2.2.2.2.2.2)) l12⟩ (fun hHeld => ?_)
    clear hK K hg0 hg1 hg2 hf0 hf1 hf2
    have h12a := blk_put (cs' := #[.int .i64 r.f0, .string r.f1, .slice A2 r.f2.length c2]) (blk_put (cs' := #[.int .i64 r.f0, .string r.f1, .slice none 0 0]) (blk_put (cs' := #[.int .i64 r.f0, .string ⟨#[]⟩, .slice none 0 0]) h12 0 (.int .i64 r.f0) rfl) 1 (.string r.f1) rfl) 2 (.slice A2 r.f2.length c2) rfl
    have h13a := blk_far (p := ⟨g12, 2, none⟩) (blk_far (p := ⟨g12, 1, none⟩) (blk_far (p := ⟨g12, 0, none⟩) h13 hne2 (.int .i64 r.f0)) hne2 (.string r.f1)) hne2 (.slice A2 r.f2.length c2)
    have hbj2 := below_set (j := 2) (v := .slice A2 r.f2.length c2) (below_set (j := 1) (v := .string r.f1) (below_set (j := 0) (v := .int .i64 r.f0) hbj l12) l12) l12
    generalize (((wj.setCell ⟨g12, 0, none⟩ (.int .i64 r.f0)).setCell ⟨g12, 1, none⟩ (.string r.f1)).setCell ⟨g12, 2, none⟩ (.slice A2 r.f2.length c2)) = wk at h12a h13a hbj2 hHeld ⊢
    have hg0 : wk.cell? ⟨g13, 0, none⟩ = some (.int .i64 0) := (blk_cell h13a 0).trans rfl
    have hg1 : wk.cell? ⟨g13, 1, none⟩ = some (.string ⟨#[]⟩) := (blk_cell h13a 1).trans rfl
    have hg2 : wk.cell? ⟨g13, 2, none⟩ = some (.slice none 0 0) := (blk_cell h13a 2).trans rfl
    have hf0 := blk_frozen h13a 0
    have hf1 := blk_frozen h13a 1
    have hf2 := blk_frozen h13a 2
    refine last_ (i := 11) (N := none) (bl 12 4095) rfl rfl (one_of HT_.out (by kernel_rfl)) (by decide) (fun K hK => ?_)
    refine skip_ (w1 := ?_) (by rfl) rfl ?_ ?_
    rotate_left
    · go_simp
      rfl
    refine hK.out _ _ ?_
    clear hK K hg0 hg1 hg2 hf0 hf1 hf2
    refine done_ (done_of HT_.out (by kernel_rfl)) ?_
    have h13b := blk_put (cs' := #[.int .i64 q.f0, .string q.f1, .slice A3 q.f2.length c3]) (blk_put (cs' := #[.int .i64 q.f0, .string q.f1, .slice none 0 0]) (blk_put (cs' := #[.int .i64 q.f0, .string ⟨#[]⟩, .slice none 0 0]) h13a 0 (.int .i64 q.f0) rfl) 1 (.string q.f1) rfl) 2 (.slice A3 q.f2.length c3) rfl
    have h12b := blk_far (p := ⟨g13, 2, none⟩) (blk_far (p := ⟨g13, 1, none⟩) (blk_far (p := ⟨g13, 0, none⟩) h12a hne (.int .i64 q.f0)) hne (.string q.f1)) hne (.slice A3 q.f2.length c3)
    have hbj3 := below_set (j := 2) (v := .slice A3 q.f2.length c3) (below_set (j := 1) (v := .string q.f1) (below_set (j := 0) (v := .int .i64 q.f0) hbj2 l13) l13) l13
    have H12 := am_ h12b
    have H13 := am_ h13b
    have HM5 := am_ (HM2.out.below hbj3)
    have HBR5 := am_ (blk_below HBR2.out hbj3)
    have HB5 := am_ (below_then HB2.out HB2.out.size hbj3)
    have HN12 : Aside0 (g12 ≠ g ∧ g13 ≠ g ∧ W.heap.size ≠ g) := ⟨by have := HB2.out.size; have := HGL.out; omega, by have := HB2.out.size; have := HGL.out; omega, by have := HGL.out; omega⟩
    clear HT_ HW_ hHeld HHD h12 h13 h12a h13a h12b h13b hbj hbj2 hbj3 l12 l13 hne hne2 HM1 HM2 HBR HBR2 HBX HB2 B0
    generalize (((wk.setCell ⟨g13, 0, none⟩ (.int .i64 q.f0)).setCell ⟨g13, 1, none⟩ (.string q.f1)).setCell ⟨g13, 2, none⟩ (.slice A3 q.f2.length c3)) = wm at H12 H13 HM5 HBR5 HB5 ⊢
    have y0 := (blk_cell H12.out 0).trans rfl
    have y1 := (blk_cell H12.out 1).trans rfl
    have y2 := (blk_cell H12.out 2).trans rfl
  · obtain ⟨HT0, HN0⟩ := H5.out (by first | exact rfl | exact trivial)
    have HT := am_ HT0
    have HN := am_ HN0
    clear HT0 HN0
    go_wp2_with (go_at_call 79; (with_reducible refine (impl_size.calls kz r.f0 r.f1 A2 c2 r.f2 _ _ ?s1 HA3.out HSZ.out).mono ?_); (case s1 => exact Kd.C_below HA4.out HM5.out.bel); rintro e w6 ⟨rfl, hb⟩; have HM6 := am_ (HM5.out.below hb); have HBR6 := am_ (blk_below HBR5.out hb); have HK6 := am_ (keep_of_below g (below_then HB5.out HB5.out.size hb)); have H12b := am_ (blk_below H12.out hb); have H13b := am_ (blk_below H13.out hb); (try clear z0 z1 z2); have x0 := (blk_cell HBR6.out 0).trans rfl; have x1 := (blk_cell HBR6.out 1).trans rfl; have x2 := (blk_cell HBR6.out 2).trans rfl; have y0 := (blk_cell H12b.out 0).trans rfl; have y1 := (blk_cell H12b.out 1).trans rfl; have y2 := (blk_cell H12b.out 2).trans rfl; have z0 := (blk_cell H13b.out 0).trans rfl; have z1 := (blk_cell H13b.out 1).trans rfl; have z2 := (blk_cell H13b.out 2).trans rfl; have HS6 : Aside0 (St w0 w6 w6 gm g s N E t t) := ⟨St.start HM6.out⟩; clear hb)
    have HIJ := am_ hi
    clear x0 x1 x2 y0 y1 y2 z0 z1 z2
    go_loopg [15] (j + 2) (fun gg v15 w' => ∃ (k : Nat) (kz' : Int) (t' : List Int), v15 = .int .i64 kz' ∧ Aside0 (kz' = (k : Int)) ∧ Aside0 (i ≤ k ∧ k ≤ j + 1) ∧ Aside0 (j + 2 ≤ gg + k) ∧ Aside0 (∀ p, i ≤ p → p < k → ¬ (mt (bytesOf s) x i p = true ∧ mt (bytesOf s) y p j = true)) ∧ Aside0 (St w0 w6 w' gm g s N E t t'))
    case atStart => exact ⟨i, (i : Int), t, rfl, ⟨rfl⟩, ⟨by have := HIJ.out; omega⟩, ⟨by omega⟩, ⟨fun p a1 a2 => by omega⟩, HS6⟩
    case round =>
      clear HS6
      obtain ⟨k, kz', t', rfl, HKZ, HKK, HG, HNO, HS⟩ := hrel
      cases gk with
      | zero => exact absurd HG.out (by have := HKK.out; omega)
      | succ gk2 =>
      by_cases hkj : k ≤ j
      · have d1 : decide (kz' ≤ (j : Int)) = true := decide_eq_true (by have := HKZ.out; omega)
        have d2 : (kz' ≤ (j : Int)) = True := eq_true (by have := HKZ.out; omega)
        have hw : wrap64 (kz' + 1) = ((k + 1 : Nat) : Int) := by rw [HKZ.out]; exact up1 (by omega)
        have HW := am_ hw
        have x0 := HS.out.cell ((blk_cell HBR6.out 0).trans rfl) HN12.out.2.2
        have x1 := HS.out.cell ((blk_cell HBR6.out 1).trans rfl) HN12.out.2.2
        have x2 := HS.out.cell ((blk_cell HBR6.out 2).trans rfl) HN12.out.2.2
        have y0 := HS.out.cell ((blk_cell H12b.out 0).trans rfl) HN12.out.1
        have y1 := HS.out.cell ((blk_cell H12b.out 1).trans rfl) HN12.out.1
        have y2 := HS.out.cell ((blk_cell H12b.out 2).trans rfl) HN12.out.1
        have z0 := HS.out.cell ((blk_cell H13b.out 0).trans rfl) HN12.out.2.1
        have z1 := HS.out.cell ((blk_cell H13b.out 1).trans rfl) HN12.out.2.1
        have z2 := HS.out.cell ((blk_cell H13b.out 2).trans rfl) HN12.out.2.1
        have hka := fun W' t' => HKD.out i k W' t' (Nat.le_refl _) HKK.out.1 hkj
        have hkb := fun W' t' => HKE.out k j W' t' HKK.out.1 hkj (Nat.le_refl _)
        rw [← HKZ.out] at hka hkb
        have HCA := am_ hka
        have HCB := am_ hkb
        have HNOT : Aside0 (mt (bytesOf s) x i k = true → mt (bytesOf s) y k j = true → res = true) := ⟨HT.out k HKK.out.1 hkj⟩
        have HNEXT : Aside0 (¬ (mt (bytesOf s) x i k = true ∧ mt (bytesOf s) y k j = true) → ∀ p, i ≤ p → p < k + 1 → ¬ (mt (bytesOf s) x i p = true ∧ mt (bytesOf s) y p j = true)) := ⟨fun hh p a1 a2 => by
          by_cases eq : p = k
          · rw [eq]; exact hh
          · exact HNO.out p a1 (by omega)⟩
        generalize mt (bytesOf s) x i k = ra at HCA HNOT HNEXT
        generalize mt (bytesOf s) y k j = rb at HCB HNOT HNEXT
        have HKJ := am_ hkj
        clear hka hkb hw hkj
        cases ra
        · go_wp2_with (go_at_call 80; (with_reducible refine (HCA.out _ _ HS.out.inv HS.out.mem).mono ?_); rintro e w7ta hp; obtain ⟨rfl, ta, hs2⟩ := HS.out.step hp; have HS7 := am_ hs2; (try clear x0 x1 x2 y0 y1 y2 z0 z1 z2); have x0 := hs2.cell ((blk_cell HBR6.out 0).trans rfl) HN12.out.2.2; have x1 := hs2.cell ((blk_cell HBR6.out 1).trans rfl) HN12.out.2.2; have x2 := hs2.cell ((blk_cell HBR6.out 2).trans rfl) HN12.out.2.2; have y0 := hs2.cell ((blk_cell H12b.out 0).trans rfl) HN12.out.1; have y1 := hs2.cell ((blk_cell H12b.out 1).trans rfl) HN12.out.1; have y2 := hs2.cell ((blk_cell H12b.out 2).trans rfl) HN12.out.1; have z0 := hs2.cell ((blk_cell H13b.out 0).trans rfl) HN12.out.2.1; have z1 := hs2.cell ((blk_cell H13b.out 1).trans rfl) HN12.out.2.1; have z2 := hs2.cell ((blk_cell H13b.out 2).trans rfl) HN12.out.2.1; clear hp hs2)
          go_roundg gk2
          case measure => omega
          case rel => exact ⟨k + 1, wrap64 (kz' + 1), ta, rfl, HW, ⟨by have := HKK.out; have := HKJ.out; omega⟩, ⟨by have := HG.out; omega⟩, ⟨HNEXT.out (by simp)⟩, HS7⟩
        · cases rb
          · go_wp2_with (first | (go_at_call 80; (with_reducible refine (HCA.out _ _ HS.out.inv HS.out.mem).mono ?_); rintro e w7ta hp; obtain ⟨rfl, ta, hs2⟩ := HS.out.step hp; have HS7 := am_ hs2; (try clear x0 x1 x2 y0 y1 y2 z0 z1 z2); have x0 := hs2.cell ((blk_cell HBR6.out 0).trans rfl) HN12.out.2.2; have x1 := hs2.cell ((blk_cell HBR6.out 1).trans rfl) HN12.out.2.2; have x2 := hs2.cell ((blk_cell HBR6.out 2).trans rfl) HN12.out.2.2; have y0 := hs2.cell ((blk_cell H12b.out 0).trans rfl) HN12.out.1; have y1 := hs2.cell ((blk_cell H12b.out 1).trans rfl) HN12.out.1; have y2 := hs2.cell ((blk_cell H12b.out 2).trans rfl) HN12.out.1; have z0 := hs2.cell ((blk_cell H13b.out 0).trans rfl) HN12.out.2.1; have z1 := hs2.cell ((blk_cell H13b.out 1).trans rfl) HN12.out.2.1; have z2 := hs2.cell ((blk_cell H13b.out 2).trans rfl) HN12.out.2.1; clear hp hs2) | (go_at_call 80; (with_reducible refine (HCB.out _ _ HS7.out.inv HS7.out.mem).mono ?_); rintro e w7tb hp; obtain ⟨rfl, tb, hs2⟩ := HS7.out.step hp; have HS8 := am_ hs2; (try clear x0 x1 x2 y0 y1 y2 z0 z1 z2); have x0 := hs2.cell ((blk_cell HBR6.out 0).trans rfl) HN12.out.2.2; have x1 := hs2.cell ((blk_cell HBR6.out 1).trans rfl) HN12.out.2.2; have x2 := hs2.cell ((blk_cell HBR6.out 2).trans rfl) HN12.out.2.2; have y0 := hs2.cell ((blk_cell H12b.out 0).trans rfl) HN12.out.1; have y1 := hs2.cell ((blk_cell H12b.out 1).trans rfl) HN12.out.1; have y2 := hs2.cell ((blk_cell H12b.out 2).trans rfl) HN12.out.1; have z0 := hs2.cell ((blk_cell H13b.out 0).trans rfl) HN12.out.2.1; have z1 := hs2.cell ((blk_cell H13b.out 1).trans rfl) HN12.out.2.1; have z2 := hs2.cell ((blk_cell H13b.out 2).trans rfl) HN12.out.2.1; clear hp hs2))
            go_roundg gk2
            case measure => omega
            case rel => exact ⟨k + 1, wrap64 (kz' + 1), tb, rfl, HW, ⟨by have := HKK.out; have := HKJ.out; omega⟩, ⟨by have := HG.out; omega⟩, ⟨HNEXT.out (by simp)⟩, HS8⟩
          · have hres := HNOT.out rfl rfl
            subst hres
            go_wp2_with (first | (go_at_call 80; (with_reducible refine (HCA.out _ _ HS.out.inv HS.out.mem).mono ?_); rintro e w7ta hp; obtain ⟨rfl, ta, hs2⟩ := HS.out.step hp; have HS7 := am_ hs2; (try clear x0 x1 x2 y0 y1 y2 z0 z1 z2); have x0 := hs2.cell ((blk_cell HBR6.out 0).trans rfl) HN12.out.2.2; have x1 := hs2.cell ((blk_cell HBR6.out 1).trans rfl) HN12.out.2.2; have x2 := hs2.cell ((blk_cell HBR6.out 2).trans rfl) HN12.out.2.2; have y0 := hs2.cell ((blk_cell H12b.out 0).trans rfl) HN12.out.1; have y1 := hs2.cell ((blk_cell H12b.out 1).trans rfl) HN12.out.1; have y2 := hs2.cell ((blk_cell H12b.out 2).trans rfl) HN12.out.1; have z0 := hs2.cell ((blk_cell H13b.out 0).trans rfl) HN12.out.2.1; have z1 := hs2.cell ((blk_cell H13b.out 1).trans rfl) HN12.out.2.1; have z2 := hs2.cell ((blk_cell H13b.out 2).trans rfl) HN12.out.2.1; clear hp hs2) | (go_at_call 80; (with_reducible refine (HCB.out _ _ HS7.out.inv HS7.out.mem).mono ?_); rintro e w7tb hp; obtain ⟨rfl, tb, hs2⟩ := HS7.out.step hp; have HS8 := am_ hs2; (try clear x0 x1 x2 y0 y1 y2 z0 z1 z2); have x0 := hs2.cell ((blk_cell HBR6.out 0).trans rfl) HN12.out.2.2; have x1 := hs2.cell ((blk_cell HBR6.out 1).trans rfl) HN12.out.2.2; have x2 := hs2.cell ((blk_cell HBR6.out 2).trans rfl) HN12.out.2.2; have y0 := hs2.cell ((blk_cell H12b.out 0).trans rfl) HN12.out.1; have y1 := hs2.cell ((blk_cell H12b.out 1).trans rfl) HN12.out.1; have y2 := hs2.cell ((blk_cell H12b.out 2).trans rfl) HN12.out.1; have z0 := hs2.cell ((blk_cell H13b.out 0).trans rfl) HN12.out.2.1; have z1 := hs2.cell ((blk_cell H13b.out 1).trans rfl) HN12.out.2.1; have z2 := hs2.cell ((blk_cell H13b.out 2).trans rfl) HN12.out.2.1; clear hp hs2))
            go_ret
            exact HS8.out.post HK6.out
      · have d1 : decide (kz' ≤ (j : Int)) = false := decide_eq_false (by have := HKZ.out; omega)
        have d2 : (kz' ≤ (j : Int)) = False := eq_false (by have := HKZ.out; omega)
        have hres := HN.out (fun p a b => HNO.out p a (by omega))
        subst hres
        go_wp2
        go_ret
        exact HS.out.post HK6.out
  · have HR := H6.out (by first | exact rfl | exact trivial)
    have HCA : Aside0 (∀ W' t', (t'.length = t.length ∧ ∀ c, t'.getD c 0 = t.getD c 0 ∨ t'.getD c 0 = bitv (E c)) → Mem w0 W' gm g s N t' → Calls Try.prog 80 #[.pointer (some ⟨gm, 0, none⟩), .agg #[.int .i64 r.f0, .string r.f1, .slice A2 r.f2.length c2], .int .i64 ((id : Int) + 1), .int .i64 i, .int .i64 j] W' (Post w0 gm g s N E t' W' (mt (bytesOf s) x i j))) := ⟨fun W' t' => HKD.out i j W' t' (Nat.le_refl _) hi (Nat.le_refl _)⟩
    have HCB : Aside0 (∀ W' t', (t'.length = t.length ∧ ∀ c, t'.getD c 0 = t.getD c 0 ∨ t'.getD c 0 = bitv (E c)) → Mem w0 W' gm g s N t' → Calls Try.prog 80 #[.pointer (some ⟨gm, 0, none⟩), .agg #[.int .i64 q.f0, .string q.f1, .slice A3 q.f2.length c3], .int .i64 ((id : Int) + 1 + (sz x : Int)), .int .i64 i, .int .i64 j] W' (Post w0 gm g s N E t' W' (mt (bytesOf s) y i j))) := ⟨fun W' t' => HKE.out i j W' t' (Nat.le_refl _) hi (Nat.le_refl _)⟩
    generalize mt (bytesOf s) x i j = ra at HCA HR
    generalize mt (bytesOf s) y i j = rb at HCB HR
    subst HR
    cases ra
    · cases rb
      all_goals
        go_wp2_with (first | (go_at_call 79; (with_reducible refine (impl_size.calls kz r.f0 r.f1 A2 c2 r.f2 _ _ ?s1 HA3.out HSZ.out).mono ?_); (case s1 => exact Kd.C_below HA4.out HM5.out.bel); rintro e w6 ⟨rfl, hb⟩; have HM6 := am_ (HM5.out.below hb); have HBR6 := am_ (blk_below HBR5.out hb); have HK6 := am_ (keep_of_below g (below_then HB5.out HB5.out.size hb)); have H12b := am_ (blk_below H12.out hb); have H13b := am_ (blk_below H13.out hb); (try clear z0 z1 z2); have x0 := (blk_cell HBR6.out 0).trans rfl; have x1 := (blk_cell HBR6.out 1).trans rfl; have x2 := (blk_cell HBR6.out 2).trans rfl; have y0 := (blk_cell H12b.out 0).trans rfl; have y1 := (blk_cell H12b.out 1).trans rfl; have y2 := (blk_cell H12b.out 2).trans rfl; have z0 := (blk_cell H13b.out 0).trans rfl; have z1 := (blk_cell H13b.out 1).trans rfl; have z2 := (blk_cell H13b.out 2).trans rfl; have HS6 : Aside0 (St w0 w6 w6 gm g s N E t t) := ⟨St.start HM6.out⟩; clear hb) | (go_at_call 80; (with_reducible refine (HCA.out _ _ HS6.out.inv HS6.out.mem).mono ?_); rintro e w7ta hp; obtain ⟨rfl, ta, hs2⟩ := HS6.out.step hp; have HS7 := am_ hs2; (try clear x0 x1 x2 y0 y1 y2 z0 z1 z2); have x0 := hs2.cell ((blk_cell HBR6.out 0).trans rfl) HN12.out.2.2; have x1 := hs2.cell ((blk_cell HBR6.out 1).trans rfl) HN12.out.2.2; have x2 := hs2.cell ((blk_cell HBR6.out 2).trans rfl) HN12.out.2.2; have y0 := hs2.cell ((blk_cell H12b.out 0).trans rfl) HN12.out.1; have y1 := hs2.cell ((blk_cell H12b.out 1).trans rfl) HN12.out.1; have y2 := hs2.cell ((blk_cell H12b.out 2).trans rfl) HN12.out.1; have z0 := hs2.cell ((blk_cell H13b.out 0).trans rfl) HN12.out.2.1; have z1 := hs2.cell ((blk_cell H13b.out 1).trans rfl) HN12.out.2.1; have z2 := hs2.cell ((blk_cell H13b.out 2).trans rfl) HN12.out.2.1; clear hp hs2) | (go_at_call 80; (with_reducible refine (HCB.out _ _ HS7.out.inv HS7.out.mem).mono ?_); rintro e w7tb hp; obtain ⟨rfl, tb, hs2⟩ := HS7.out.step hp; have HS8 := am_ hs2; (try clear x0 x1 x2 y0 y1 y2 z0 z1 z2); have x0 := hs2.cell ((blk_cell HBR6.out 0).trans rfl) HN12.out.2.2; have x1 := hs2.cell ((blk_cell HBR6.out 1).trans rfl) HN12.out.2.2; have x2 := hs2.cell ((blk_cell HBR6.out 2).trans rfl) HN12.out.2.2; have y0 := hs2.cell ((blk_cell H12b.out 0).trans rfl) HN12.out.1; have y1 := hs2.cell ((blk_cell H12b.out 1).trans rfl) HN12.out.1; have y2 := hs2.cell ((blk_cell H12b.out 2).trans rfl) HN12.out.1; have z0 := hs2.cell ((blk_cell H13b.out 0).trans rfl) HN12.out.2.1; have z1 := hs2.cell ((blk_cell H13b.out 1).trans rfl) HN12.out.2.1; have z2 := hs2.cell ((blk_cell H13b.out 2).trans rfl) HN12.out.2.1; clear hp hs2))
        go_ret
        exact HS8.out.post HK6.out
    · rw [Bool.true_or]
      go_wp2_with (first | (go_at_call 79; (with_reducible refine (impl_size.calls kz r.f0 r.f1 A2 c2 r.f2 _ _ ?s1 HA3.out HSZ.out).mono ?_); (case s1 => exact Kd.C_below HA4.out HM5.out.bel); rintro e w6 ⟨rfl, hb⟩; have HM6 := am_ (HM5.out.below hb); have HBR6 := am_ (blk_below HBR5.out hb); have HK6 := am_ (keep_of_below g (below_then HB5.out HB5.out.size hb)); have H12b := am_ (blk_below H12.out hb); have H13b := am_ (blk_below H13.out hb); (try clear z0 z1 z2); have x0 := (blk_cell HBR6.out 0).trans rfl; have x1 := (blk_cell HBR6.out 1).trans rfl; have x2 := (blk_cell HBR6.out 2).trans rfl; have y0 := (blk_cell H12b.out 0).trans rfl; have y1 := (blk_cell H12b.out 1).trans rfl; have y2 := (blk_cell H12b.out 2).trans rfl; have z0 := (blk_cell H13b.out 0).trans rfl; have z1 := (blk_cell H13b.out 1).trans rfl; have z2 := (blk_cell H13b.out 2).trans rfl; have HS6 : Aside0 (St w0 w6 w6 gm g s N E t t) := ⟨St.start HM6.out⟩; clear hb) | (go_at_call 80; (with_reducible refine (HCA.out _ _ HS6.out.inv HS6.out.mem).mono ?_); rintro e w7ta hp; obtain ⟨rfl, ta, hs2⟩ := HS6.out.step hp; have HS7 := am_ hs2; (try clear x0 x1 x2 y0 y1 y2 z0 z1 z2); have x0 := hs2.cell ((blk_cell HBR6.out 0).trans rfl) HN12.out.2.2; have x1 := hs2.cell ((blk_cell HBR6.out 1).trans rfl) HN12.out.2.2; have x2 := hs2.cell ((blk_cell HBR6.out 2).trans rfl) HN12.out.2.2; have y0 := hs2.cell ((blk_cell H12b.out 0).trans rfl) HN12.out.1; have y1 := hs2.cell ((blk_cell H12b.out 1).trans rfl) HN12.out.1; have y2 := hs2.cell ((blk_cell H12b.out 2).trans rfl) HN12.out.1; have z0 := hs2.cell ((blk_cell H13b.out 0).trans rfl) HN12.out.2.1; have z1 := hs2.cell ((blk_cell H13b.out 1).trans rfl) HN12.out.2.1; have z2 := hs2.cell ((blk_cell H13b.out 2).trans rfl) HN12.out.2.1; clear hp hs2))
      go_ret
      exact HS7.out.post HK6.out
  · have HR := H7.out (by first | exact rfl | exact trivial)
    have HCA : Aside0 (∀ W' t', (t'.length = t.length ∧ ∀ c, t'.getD c 0 = t.getD c 0 ∨ t'.getD c 0 = bitv (E c)) → Mem w0 W' gm g s N t' → Calls Try.prog 80 #[.pointer (some ⟨gm, 0, none⟩), .agg #[.int .i64 r.f0, .string r.f1, .slice A2 r.f2.length c2], .int .i64 ((id : Int) + 1), .int .i64 i, .int .i64 j] W' (Post w0 gm g s N E t' W' (mt (bytesOf s) x i j))) := ⟨fun W' t' => HKD.out i j W' t' (Nat.le_refl _) hi (Nat.le_refl _)⟩
    have HCB : Aside0 (∀ W' t', (t'.length = t.length ∧ ∀ c, t'.getD c 0 = t.getD c 0 ∨ t'.getD c 0 = bitv (E c)) → Mem w0 W' gm g s N t' → Calls Try.prog 80 #[.pointer (some ⟨gm, 0, none⟩), .agg #[.int .i64 q.f0, .string q.f1, .slice A3 q.f2.length c3], .int .i64 ((id : Int) + 1 + (sz x : Int)), .int .i64 i, .int .i64 j] W' (Post w0 gm g s N E t' W' (mt (bytesOf s) y i j))) := ⟨fun W' t' => HKE.out i j W' t' (Nat.le_refl _) hi (Nat.le_refl _)⟩
    generalize mt (bytesOf s) x i j = ra at HCA HR
    generalize mt (bytesOf s) y i j = rb at HCB HR
    subst HR
    cases ra
    · rw [Bool.false_and]
      go_wp2_with (first | (go_at_call 79; (with_reducible refine (impl_size.calls kz r.f0 r.f1 A2 c2 r.f2 _ _ ?s1 HA3.out HSZ.out).mono ?_); (case s1 => exact Kd.C_below HA4.out HM5.out.bel); rintro e w6 ⟨rfl, hb⟩; have HM6 := am_ (HM5.out.below hb); have HBR6 := am_ (blk_below HBR5.out hb); have HK6 := am_ (keep_of_below g (below_then HB5.out HB5.out.size hb)); have H12b := am_ (blk_below H12.out hb); have H13b := am_ (blk_below H13.out hb); (try clear z0 z1 z2); have x0 := (blk_cell HBR6.out 0).trans rfl; have x1 := (blk_cell HBR6.out 1).trans rfl; have x2 := (blk_cell HBR6.out 2).trans rfl; have y0 := (blk_cell H12b.out 0).trans rfl; have y1 := (blk_cell H12b.out 1).trans rfl; have y2 := (blk_cell H12b.out 2).trans rfl; have z0 := (blk_cell H13b.out 0).trans rfl; have z1 := (blk_cell H13b.out 1).trans rfl; have z2 := (blk_cell H13b.out 2).trans rfl; have HS6 : Aside0 (St w0 w6 w6 gm g s N E t t) := ⟨St.start HM6.out⟩; clear hb) | (go_at_call 80; (with_reducible refine (HCA.out _ _ HS6.out.inv HS6.out.mem).mono ?_); rintro e w7ta hp; obtain ⟨rfl, ta, hs2⟩ := HS6.out.step hp; have HS7 := am_ hs2; (try clear x0 x1 x2 y0 y1 y2 z0 z1 z2); have x0 := hs2.cell ((blk_cell HBR6.out 0).trans rfl) HN12.out.2.2; have x1 := hs2.cell ((blk_cell HBR6.out 1).trans rfl) HN12.out.2.2; have x2 := hs2.cell ((blk_cell HBR6.out 2).trans rfl) HN12.out.2.2; have y0 := hs2.cell ((blk_cell H12b.out 0).trans rfl) HN12.out.1; have y1 := hs2.cell ((blk_cell H12b.out 1).trans rfl) HN12.out.1; have y2 := hs2.cell ((blk_cell H12b.out 2).trans rfl) HN12.out.1; have z0 := hs2.cell ((blk_cell H13b.out 0).trans rfl) HN12.out.2.1; have z1 := hs2.cell ((blk_cell H13b.out 1).trans rfl) HN12.out.2.1; have z2 := hs2.cell ((blk_cell H13b.out 2).trans rfl) HN12.out.2.1; clear hp hs2))
      go_ret
      exact HS7.out.post HK6.out
    · cases rb
      all_goals
        go_wp2_with (first | (go_at_call 79; (with_reducible refine (impl_size.calls kz r.f0 r.f1 A2 c2 r.f2 _ _ ?s1 HA3.out HSZ.out).mono ?_); (case s1 => exact Kd.C_below HA4.out HM5.out.bel); rintro e w6 ⟨rfl, hb⟩; have HM6 := am_ (HM5.out.below hb); have HBR6 := am_ (blk_below HBR5.out hb); have HK6 := am_ (keep_of_below g (below_then HB5.out HB5.out.size hb)); have H12b := am_ (blk_below H12.out hb); have H13b := am_ (blk_below H13.out hb); (try clear z0 z1 z2); have x0 := (blk_cell HBR6.out 0).trans rfl; have x1 := (blk_cell HBR6.out 1).trans rfl; have x2 := (blk_cell HBR6.out 2).trans rfl; have y0 := (blk_cell H12b.out 0).trans rfl; have y1 := (blk_cell H12b.out 1).trans rfl; have y2 := (blk_cell H12b.out 2).trans rfl; have z0 := (blk_cell H13b.out 0).trans rfl; have z1 := (blk_cell H13b.out 1).trans rfl; have z2 := (blk_cell H13b.out 2).trans rfl; have HS6 : Aside0 (St w0 w6 w6 gm g s N E t t) := ⟨St.start HM6.out⟩; clear hb) | (go_at_call 80; (with_reducible refine (HCA.out _ _ HS6.out.inv HS6.out.mem).mono ?_); rintro e w7ta hp; obtain ⟨rfl, ta, hs2⟩ := HS6.out.step hp; have HS7 := am_ hs2; (try clear x0 x1 x2 y0 y1 y2 z0 z1 z2); have x0 := hs2.cell ((blk_cell HBR6.out 0).trans rfl) HN12.out.2.2; have x1 := hs2.cell ((blk_cell HBR6.out 1).trans rfl) HN12.out.2.2; have x2 := hs2.cell ((blk_cell HBR6.out 2).trans rfl) HN12.out.2.2; have y0 := hs2.cell ((blk_cell H12b.out 0).trans rfl) HN12.out.1; have y1 := hs2.cell ((blk_cell H12b.out 1).trans rfl) HN12.out.1; have y2 := hs2.cell ((blk_cell H12b.out 2).trans rfl) HN12.out.1; have z0 := hs2.cell ((blk_cell H13b.out 0).trans rfl) HN12.out.2.1; have z1 := hs2.cell ((blk_cell H13b.out 1).trans rfl) HN12.out.2.1; have z2 := hs2.cell ((blk_cell H13b.out 2).trans rfl) HN12.out.2.1; clear hp hs2) | (go_at_call 80; (with_reducible refine (HCB.out _ _ HS7.out.inv HS7.out.mem).mono ?_); rintro e w7tb hp; obtain ⟨rfl, tb, hs2⟩ := HS7.out.step hp; have HS8 := am_ hs2; (try clear x0 x1 x2 y0 y1 y2 z0 z1 z2); have x0 := hs2.cell ((blk_cell HBR6.out 0).trans rfl) HN12.out.2.2; have x1 := hs2.cell ((blk_cell HBR6.out 1).trans rfl) HN12.out.2.2; have x2 := hs2.cell ((blk_cell HBR6.out 2).trans rfl) HN12.out.2.2; have y0 := hs2.cell ((blk_cell H12b.out 0).trans rfl) HN12.out.1; have y1 := hs2.cell ((blk_cell H12b.out 1).trans rfl) HN12.out.1; have y2 := hs2.cell ((blk_cell H12b.out 2).trans rfl) HN12.out.1; have z0 := hs2.cell ((blk_cell H13b.out 0).trans rfl) HN12.out.2.1; have z1 := hs2.cell ((blk_cell H13b.out 1).trans rfl) HN12.out.2.1; have z2 := hs2.cell ((blk_cell H13b.out 2).trans rfl) HN12.out.2.1; clear hp hs2))
        go_ret
        exact HS8.out.post HK6.out
end Go.Proofs.Ytldgkgdgcfllmaa.Rg
end
section
namespace Go.Proofs.Ytldgkgdgcfllmaa.Rg
open Go.RowKit Go.Shelf Go.Proofs.Ytldgkgdgcfllmaa.P Go.Proofs.Ytldgkgdgcfllmaa.Pl Go.Proofs.YtldgkgdgcfllmaaW.PrintWords Go.Proofs.YtldgkgdgcfllmaaW.PrintLast Go.Proofs.YtldgkgdgcfllmaaW.PrintMore
set_option linter.unusedVariables false
set_option linter.unusedSimpArgs false
theorem ok_sub {E : Nat → Bool} {t t' : List Int} {N id n i j : Nat} (hok : ∀ c, Reg N id n i j c → Ok E t c) (hi : i ≤ j) (hlt : fl N id i j < t.length) (hinv : ∀ c, t'.getD c 0 = (t.set (fl N id i j) 1).getD c 0 ∨ t'.getD c 0 = bitv (E c))
    {id' n' i' j' : Nat} (h1 : id ≤ id') (h2 : id' + n' ≤ id + n) (h3 : i ≤ i') (h4 : j' ≤ j) (hjN : j < N) (hne : id < id' ∨ i < i') : ∀ c, Reg N id' n' i' j' c → Ok E t' c := by
  rintro c ⟨q, a, b, g1, g2, g3, g4, g5, rfl⟩
  have hn : fl N q a b ≠ fl N id i j := fun e => by
    obtain ⟨e1, e2, _⟩ := fl_inj (by omega) (by omega) (by omega) hjN e
    omega
  rcases hinv (fl N q a b) with e | e
  · unfold Ok
    rw [e, getD_set hlt, if_neg hn]
    exact hok _ ⟨q, a, b, by omega, by omega, by omega, g4, by omega, rfl⟩
  · exact Or.inr e
theorem matchAll (w0 : World) (gm g : Nat) (s : ByteArray) (N T : Nat) (E : Nat → Bool) (hN : N = s.size + 1) (hs : s.size ≤ 900) (hT : T ≤ 900) : ∀ (n : Nat) (x : Rx) (r : Tr) (A : Option Addr) (c id i j : Nat) (W : World) (t : List Int), sz x * N + (j - i) < n → Ax r x → Agr (bytesOf s) N E x id → id + sz x ≤ T → i ≤ j → j ≤ s.size → Kd.C k29 w0 A r.f2.length r.f2 → t.length = T * N * N → Mem w0 W gm g s N t → (∀ c, Reg N id (sz x) i j c → Ok E t c) →
    Calls Try.prog 80 #[.pointer (some ⟨gm, 0, none⟩), .agg #[.int .i64 r.f0, .string r.f1, .slice A r.f2.length c], .int .i64 id, .int .i64 i, .int .i64 j] W (Post w0 gm g s N E t W (mt (bytesOf s) x i j)) := by
  intro n
  induction n with
  | zero => intro x r A c id i j W t h; omega
  | succ n ih =>
    intro x r A c id i j W t hn hax hagr hid hi hj hC ht hm hok
    have hp := sz_pos x
    have hlen : (bytesOf s).length = s.size := len_bytes s
    have hlt : fl N id i j < t.length := by rw [ht]; exact fl_lt (by omega) (by omega) (by omega)
    refine matchStep w0 W gm g s N T E t x r A c id i j hN (by omega) (by omega) (by omega) hi hj ht hm (hagr.own hi (by omega)) (hok _ ⟨id, i, j, by omega, by omega, by omega, hi, by omega, rfl⟩) (fun _ W1 hm1 => ?_)
    have hl1 : (t.set (fl N id i j) 1).length = T * N * N := by rw [List.length_set]; exact ht
    have hmul : ∀ a : Nat, (1 + a) * N = N + a * N := fun a => by rw [Nat.add_mul, Nat.one_mul]
    have kid : ∀ (y : Rx) (ry : Tr) (q : Nat), Ax ry y → Agr (bytesOf s) N E y q → id < q → q + sz y ≤ id + sz x → sz y + 1 ≤ sz x → ∀ A2 c2, Kd.C k29 w0 A2 ry.f2.length ry.f2 → Kid w0 gm g s N E (t.set (fl N id i j) 1) i j y ry A2 c2 ((q : Nat) : Int) := by
      intro y ry q hay hgy hq1 hq2 hsy A2 c2 hC2 i' j' W' t' a1 a2 a3 hinv hmem
      refine ih y ry A2 c2 q i' j' W' t' ?_ hay hgy (by omega) a2 (by omega) hC2 (by rw [hinv.1]; exact hl1) hmem ?_
      · have h1 : (sz y + 1) * N ≤ sz x * N := Nat.mul_le_mul_right N hsy
        rw [Nat.succ_mul] at h1
        omega
      · exact ok_sub hok hi hlt hinv.2 (by omega) hq2 (by omega) (by omega) (by omega) (Or.inl hq1)
    cases hax with
    | none l => exact findLeaf w0 W1 gm g s N E _ .none 1 l A c id i j (Or.inl ⟨rfl, rfl⟩) hi hj (by omega) hm1
    | empty l => exact findLeaf w0 W1 gm g s N E _ .empty 2 l A c id i j (Or.inr (Or.inl ⟨rfl, rfl⟩)) hi hj (by omega) hm1
    | any l => exact findLeaf w0 W1 gm g s N E _ .any 4 l A c id i j (Or.inr (Or.inr ⟨rfl, rfl⟩)) hi hj (by omega) hm1
    | letter l => exact findLetter w0 W1 gm g s N E _ l A c id i j hi hj (by omega) hm1
    | @not l a y ha =>
      simp only [sz] at hid hok hn kid hp
      exact findNot w0 W1 gm g s N E _ y a l A c id i j hi hj (by omega) hC hm1 (fun A2 c2 h => by have := kid y a (id + 1) ha hagr.2 (by omega) (by omega) (by omega) A2 c2 h; rw [Int.natCast_add] at this; exact this)
    | @star l a y ha =>
      simp only [sz] at hid hok hn kid hp
      refine findStar w0 W1 gm g s N E _ y a l A c id i j hi hj (by omega) (by omega) hC hm1 (fun A2 c2 h => by have := kid y a (id + 1) ha hagr.2 (by omega) (by omega) (by omega) A2 c2 h; rw [Int.natCast_add] at this; exact this) (fun k W' t' h1 h2 hinv hmem => ?_)
      exact ih (.star y) ⟨8, l, [a]⟩ A c id k j W' t' (by simp only [sz]; omega) (.star l ha) hagr (by simp only [sz]; omega) h2 hj hC (by rw [hinv.1]; exact hl1) hmem (ok_sub hok hi hlt hinv.2 (by omega) (by simp only [sz]; omega) (by omega) (by omega) (by omega) (Or.inr h1))
    | @cat l a b y z ha hb =>
      simp only [sz] at hid hok hn kid hp
      have hcat := mt_cat (l := bytesOf s) (x := y) (y := z) hi (by omega)
      exact findTwo w0 W1 gm g s N E _ y z a b 5 l A c id i j _ hi hj (by omega) (by omega) (by omega) ha (Or.inl rfl) hC hm1
        (fun _ => ⟨fun k a1 a2 a3 a4 => hcat.mpr ⟨k, a1, a2, a3, a4⟩, fun hh => by rw [← Bool.not_eq_true]; intro ht2; obtain ⟨k, a1, a2, a3, a4⟩ := hcat.mp ht2; exact hh k a1 a2 ⟨a3, a4⟩⟩)
        (fun e => by omega) (fun e => by omega)
        (fun A2 c2 h => by have := kid y a (id + 1) ha hagr.2.1 (by omega) (by omega) (by omega) A2 c2 h; rw [Int.natCast_add] at this; exact this)
        (fun A2 c2 h => by have := kid z b (id + 1 + sz y) hb hagr.2.2 (by omega) (by omega) (by omega) A2 c2 h; rw [Int.natCast_add, Int.natCast_add] at this; exact this)
    | @or l a b y z ha hb =>
      simp only [sz] at hid hok hn kid hp
      exact findTwo w0 W1 gm g s N E _ y z a b 6 l A c id i j _ hi hj (by omega) (by omega) (by omega) ha (Or.inr (Or.inl rfl)) hC hm1
        (fun e => by omega) (fun _ => mt_or _ _ _ _ _) (fun e => by omega)
        (fun A2 c2 h => by have := kid y a (id + 1) ha hagr.2.1 (by omega) (by omega) (by omega) A2 c2 h; rw [Int.natCast_add] at this; exact this)
        (fun A2 c2 h => by have := kid z b (id + 1 + sz y) hb hagr.2.2 (by omega) (by omega) (by omega) A2 c2 h; rw [Int.natCast_add, Int.natCast_add] at this; exact this)
    | @and l a b y z ha hb =>
      simp only [sz] at hid hok hn kid hp
      exact findTwo w0 W1 gm g s N E _ y z a b 7 l A c id i j _ hi hj (by omega) (by omega) (by omega) ha (Or.inr (Or.inr rfl)) hC hm1
        (fun e => by omega) (fun e => by omega) (fun _ => mt_and _ _ _ _ _)
        (fun A2 c2 h => by have := kid y a (id + 1) ha hagr.2.1 (by omega) (by omega) (by omega) A2 c2 h; rw [Int.natCast_add] at this; exact this)
        (fun A2 c2 h => by have := kid z b (id + 1 + sz y) hb hagr.2.2 (by omega) (by omega) (by omega) A2 c2 h; rw [Int.natCast_add, Int.natCast_add] at this; exact this)
def nds : Rx → List Rx
  | .cat x y => .cat x y :: (nds x ++ nds y)
  | .or x y => .or x y :: (nds x ++ nds y)
  | .and x y => .and x y :: (nds x ++ nds y)
  | .star x => .star x :: nds x
  | .not x => .not x :: nds x
  | .none => [.none]
  | .empty => [.empty]
  | .letter c => [.letter c]
  | .any => [.any]
theorem nds_len (x : Rx) : (nds x).length = sz x := by
  induction x with
  | cat x y a b | or x y a b | and x y a b => simp only [nds, sz, List.length_cons, List.length_append, a, b]; omega
  | star x a | not x a => simp only [nds, sz, List.length_cons, a]; omega
  | _ => rfl
def Ed (l : List Int) (N : Nat) (X : Rx) (c : Nat) : Bool := mt l ((nds X).getD (c / N / N) .none) (c / N % N) (c % N)
theorem Ed_fl {l : List Int} {N : Nat} {X : Rx} {id i j : Nat} (hi : i < N) (hj : j < N) : Ed l N X (fl N id i j) = mt l ((nds X).getD id .none) i j := by
  unfold Ed fl
  have hN : 0 < N := by omega
  have h1 : ((id * N + i) * N + j) / N = id * N + i := by rw [Nat.mul_comm, Nat.mul_add_div hN, Nat.div_eq_of_lt hj, Nat.add_zero]
  have h2 : (id * N + i) / N = id := by rw [Nat.mul_comm, Nat.mul_add_div hN, Nat.div_eq_of_lt hi, Nat.add_zero]
  have h3 : ((id * N + i) * N + j) % N = j := by rw [Nat.mul_comm, Nat.mul_add_mod, Nat.mod_eq_of_lt hj]
  have h4 : (id * N + i) % N = i := by rw [Nat.mul_comm, Nat.mul_add_mod, Nat.mod_eq_of_lt hi]
  rw [h1, h2, h3, h4]
theorem agr_of {l : List Int} {N : Nat} {X : Rx} : ∀ (x : Rx) (id : Nat), (∀ k, k < sz x → (nds X)[id + k]? = (nds x)[k]?) → Agr l N (Ed l N X) x id := by
  have own : ∀ (x : Rx) (id : Nat) (r : List Rx), nds x = x :: r → (∀ k, k < sz x → (nds X)[id + k]? = (nds x)[k]?) → ∀ i j, i ≤ j → j < N → Ed l N X (fl N id i j) = mt l x i j := fun x id r hr h i j hi hj => by
    rw [Ed_fl (by omega) hj]
    have := h 0 (sz_pos x)
    rw [hr, Nat.add_zero] at this
    rw [List.getD_eq_getElem?_getD, this]
    rfl
  have left : ∀ (h x y : Rx) (id : Nat), (∀ k, k < 1 + sz x + sz y → (nds X)[id + k]? = (h :: (nds x ++ nds y))[k]?) → (∀ k, k < sz x → (nds X)[id + 1 + k]? = (nds x)[k]?) ∧ (∀ k, k < sz y → (nds X)[id + 1 + sz x + k]? = (nds y)[k]?) := fun h x y id hh => by
    refine ⟨fun k hk => ?_, fun k hk => ?_⟩
    · have := hh (1 + k) (by omega)
      rw [show id + (1 + k) = id + 1 + k by omega, Nat.add_comm 1 k, List.getElem?_cons_succ, List.getElem?_append_left (by rw [nds_len]; exact hk)] at this
      exact this
    · have := hh (1 + sz x + k) (by omega)
      rw [show id + (1 + sz x + k) = id + 1 + sz x + k by omega, show 1 + sz x + k = (sz x + k) + 1 by omega, List.getElem?_cons_succ, List.getElem?_append_right (by rw [nds_len]; omega), nds_len, show sz x + k - sz x = k by omega] at this
      exact this
  intro x
  induction x with
  | cat x y a b => intro id h; have hl := left _ x y id h; exact ⟨own _ id _ rfl h, a _ hl.1, b _ hl.2⟩
  | or x y a b => intro id h; have hl := left _ x y id h; exact ⟨own _ id _ rfl h, a _ hl.1, b _ hl.2⟩
  | and x y a b => intro id h; have hl := left _ x y id h; exact ⟨own _ id _ rfl h, a _ hl.1, b _ hl.2⟩
  | star x a => intro id h; exact ⟨own _ id _ rfl h, a _ (fun k hk => by have := h (1 + k) (by simp only [sz]; omega); rw [show id + (1 + k) = id + 1 + k by omega, Nat.add_comm 1 k] at this; exact this)⟩
  | not x a => intro id h; exact ⟨own _ id _ rfl h, a _ (fun k hk => by have := h (1 + k) (by simp only [sz]; omega); rw [show id + (1 + k) = id + 1 + k by omega, Nat.add_comm 1 k] at this; exact this)⟩
  | none => intro id h; exact own _ id _ rfl h
  | empty => intro id h; exact own _ id _ rfl h
  | letter c => intro id h; exact own _ id _ rfl h
  | any => intro id h; exact own _ id _ rfl h
def Tms2 : Bool × List (List Nat × List Nat) := (true, [([], []), ([], []), ([1], [1]), ([], []), ([3], [3]), ([4], [4]), ([5], [5]), ([2, 6], [2, 6]), ([], []), ([8], [8]), ([9], [9]), ([10], [10]), ([7, 11], [7, 11]), ([12, 12], [12]), ([0, 0, 1, 2, 3, 4, 5, 6, 7, 8, 9, 10, 11, 12, 13], [0]), ([14, 0, 1, 2, 3, 4, 5, 6, 7, 8, 9, 10, 11, 12, 13], [14]), ([15, 13, 2, 0, 1, 2, 3, 4, 5, 6, 7, 8, 9, 10, 11, 12, 13], [13, 15])])
def Bms2 : List Nat := [0, 0, 2, 0, 8, 24, 56, 126, 0, 256, 768, 1792, 4094, 8190, 16383, 32767, 65535]
theorem tabms2 : rtab .any (opsOf Try.f54 2) = Tms2 := by kernel_rfl
theorem bitsms2 : waitsOk Tms2.2 Bms2 = true := by kernel_rfl
theorem made8 (n : Nat) : madeCells (Value.int .i8 0).cells (n * 1) = enc8 (List.replicate n 0) := by
  unfold madeCells enc8
  rw [Nat.mul_one]
  apply Array.toList_inj.mp
  simp only [Array.toList_map, Array.toList_range, List.map_replicate]
  refine List.ext_getElem (by simp) (fun i h1 h2 => ?_)
  simp [Value.cells, Nat.mod_one]
theorem info99 : ∃ i, Try.prog.info? 99 = some i ∧ i.zero = some (.int .i8 0) ∧ i.size = 1 ∧ i.bytes = 1 := by
  have h : (Try.prog.info? 99).map (fun i => (i.zero, i.size, i.bytes)) = some (some (.int .i8 0), 1, 1) := by kernel_rfl
  obtain ⟨i, hi, hz⟩ := Option.map_eq_some_iff.1 h
  simp only [Prod.mk.injEq] at hz
  exact ⟨i, hi, hz.1, hz.2.1, hz.2.2⟩
theorem make8 (W : World) (n : Nat) (hn : n ≤ 281474976710656) : (Instr.makeSlice 87 (.int .i64 (n : Int)) (.int .i64 (n : Int))).run Try.prog W = .ok (.slice (some ⟨W.heap.size, 0, none⟩) n n) (W.alloc (.cells (enc8 (List.replicate n 0)) 99)) := by
  obtain ⟨i, hi, h0, h1, h2⟩ := info99
  have := run_make (P := Try.prog) W 87 99 i (.int .i8 0) Try.underlying87 hi h0 .i64 .i64 (n : Int) (n : Int) (by omega) (Int.le_refl _) (by rw [h2]; omega) (by omega)
  rw [h1, Int.toNat_natCast, made8] at this
  exact this
set_option maxHeartbeats 4000000 in
set_option maxRecDepth 100000 in
theorem matchesCalls (A : Option Addr) (c : Nat) (r : Tr) (x : Rx) (s : ByteArray) (w : World) (hax : Ax r x) (hsz : sz x ≤ 100) (hs : s.size ≤ 100) (hC : Kd.C k29 w A r.f2.length r.f2) (hc : r.f2.length ≤ c) :
    Calls Try.prog 54 #[.agg #[.int .i64 r.f0, .string r.f1, .slice A r.f2.length c], .string s] w fun e w' => e = .returned (.bool (lan x (bytesOf s))) ∧ Below w.heap.size w w' := by
  obtain ⟨kz, hkz⟩ := (size_ev hax (by omega)).rounds
  obtain ⟨N, hN⟩ : ∃ N, N = s.size + 1 := ⟨_, rfl⟩
  have hNi : (s.size : Int) + 1 = (N : Int) := by omega
  have hl : (bytesOf s).length = s.size := len_bytes s
  have hres : mt (bytesOf s) x 0 s.size = lan x (bytesOf s) := by unfold mt sub; rw [← hl, List.take_length, List.drop_zero]
  have HALL := am_ (fun W2 g hm (ht : (List.replicate (sz x * N * N) (0 : Int)).length = sz x * N * N) => matchAll w (w.heap.size + 1) g s N (sz x) (Ed (bytesOf s) N x) hN (by omega) (by omega) (sz x * N + s.size + 1) x r A c 0 0 s.size W2 (List.replicate (sz x * N * N) 0) (by omega) hax (agr_of x 0 (fun k hk => by rw [Nat.zero_add])) (by omega) (Nat.zero_le _) (Nat.le_refl _) hC ht hm (fun c _ => Or.inl (by rw [List.getD_eq_getElem?_getD]; by_cases h : c < sz x * N * N <;> simp [h])))
  rw [hres, show ((0 : Nat) : Int) = 0 from rfl] at HALL
  generalize lan x (bytesOf s) = res at HALL ⊢
  obtain ⟨p1, hp1⟩ : ∃ p, p = sz x * N := ⟨_, rfl⟩
  obtain ⟨p2, hp2⟩ : ∃ p, p = p1 * N := ⟨_, rfl⟩
  have b1 : p1 ≤ 1000 * 1000 := by rw [hp1]; exact Nat.mul_le_mul (by omega) (by omega)
  have b2 : p2 ≤ 1000 * 1000 * 1000 := by rw [hp2]; exact Nat.mul_le_mul b1 (by omega)
  have m1 : IntKind.i64.wrap ((sz x : Int) * (N : Int)) = (p1 : Int) := by rw [← Int.natCast_mul, ← hp1]; exact wr_ (by omega) (by omega)
  have m2 : IntKind.i64.wrap ((p1 : Int) * (N : Int)) = (p2 : Int) := by rw [← Int.natCast_mul, ← hp2]; exact wr_ (by omega) (by omega)
  have HP : Aside0 (sz x * N * N = p2) := ⟨by rw [hp2, hp1]⟩
  rw [HP.out] at HALL
  have HMK := am_ (fun W => make8 W p2 (by omega))
  have HSZ := am_ hkz
  have HC := am_ hC
  have HCC := am_ hc
  have hu := Try.underlying29
  have HB := am_ (below_alloc (below_alloc (Below.refl w.heap.size w) (Obj.cells #[.int .i64 r.f0, .string r.f1, .slice A r.f2.length c] 29)) (Obj.cells #[.string s, .int .i64 (N : Int), .slice none 0 0] 89))
  have HBM : Aside0 (((w.alloc (Obj.cells #[.int .i64 r.f0, .string r.f1, .slice A r.f2.length c] 29)).alloc (Obj.cells #[.string s, .int .i64 (N : Int), .slice none 0 0] 89)).heap[w.heap.size + 1]? = some (.cells #[.string s, .int .i64 (N : Int), .slice none 0 0] 89 (0, 0))) := ⟨by have h_ := blk_new (w.alloc (Obj.cells #[.int .i64 r.f0, .string r.f1, .slice A r.f2.length c] 29)) (Obj.cells #[.string s, .int .i64 (N : Int), .slice none 0 0] 89); simpa using h_⟩
  have HBR : Aside0 (((w.alloc (Obj.cells #[.int .i64 r.f0, .string r.f1, .slice A r.f2.length c] 29)).alloc (Obj.cells #[.string s, .int .i64 (N : Int), .slice none 0 0] 89)).heap[w.heap.size]? = some (.cells #[.int .i64 r.f0, .string r.f1, .slice A r.f2.length c] 29 (0, 0))) := ⟨blk_alloc (blk_new w _) _⟩
  have k0 := (blk_cell HBR.out 0).trans rfl
  have k1 := (blk_cell HBR.out 1).trans rfl
  have k2 := (blk_cell HBR.out 2).trans rfl
  have k3 := (blk_cell HBM.out 1).trans rfl
  clear hkz hC hc hp1 hp2 b1 b2 hax hres hl hN
  go_enter Try.func54, Try.ntmps54
  go_wp2
  have HBX := am_ (below_drew1 (Below.refl ((w.alloc (Obj.cells #[.int .i64 r.f0, .string r.f1, .slice A r.f2.length c] 29)).alloc (Obj.cells #[.string s, .int .i64 (N : Int), .slice none 0 0] 89)).heap.size ((w.alloc (Obj.cells #[.int .i64 r.f0, .string r.f1, .slice A r.f2.length c] 29)).alloc (Obj.cells #[.string s, .int .i64 (N : Int), .slice none 0 0] 89))))
  have HB1 := am_ (below_then HB.out HB.out.size HBX.out)
  have HBM1 := am_ (blk_below HBM.out HBX.out)
  have HBR1 := am_ (blk_below HBR.out HBX.out)
  refine start_ (n := 17) (S := (fun w' => w'.cell? ⟨w.heap.size, 0, none⟩ = some (.int .i64 r.f0) ∧ w'.cell? ⟨w.heap.size, 1, none⟩ = some (.string r.f1) ∧ w'.cell? ⟨w.heap.size, 2, none⟩ = some (.slice A r.f2.length c) ∧ w'.cell? ⟨w.heap.size + 1, 1, none⟩ = some (.int .i64 (N : Int)))) (ds := [16]) (bl 17 0) (by kernel_rfl) rfl rfl (⟨k0, k1, k2, k3⟩) (fun hHeld => ?_); refine with_tabW tabms2 bitsms2 (fun HT_ HW_ => ?_)
  clear k0 k1 k2 k3
  generalize World.drew (World.alloc _ _) = Wd at HB1 HBM1 HBR1 hHeld ⊢
  refine ph_ 0 12 (bl 17 1) HT_ ?_
  refine ph_ 3 15 (bl 17 9) HT_ ?_
  refine ph_ 4 16 (bl 17 25) HT_ ?_
  refine ph_ 5 17 (bl 17 57) HT_ ?_
  refine ph_ 8 20 (bl 17 313) HT_ ?_
  refine ph_ 9 21 (bl 17 825) HT_ ?_
  refine ph_ 10 22 (bl 17 1849) HT_ ?_
  refine th_ 1 13 (bl 17 1851) HT_ HW_ hHeld ?_
  refine th_ 6 18 (bl 17 1915) HT_ HW_ hHeld ?_
  refine th_ 11 23 (bl 17 3963) HT_ HW_ hHeld ?_
  refine on_ 2 (some 14) (bl 17 3967) HT_ (fun K hK => ?_)
  refine goes_ Try.func79 (by kernel_rfl) rfl #[.agg #[.int .i64 r.f0, .string r.f1, .slice A r.f2.length c]] (by rfl) rfl rfl (by (try simp only [List.map_toArray, List.map_cons, List.map_nil]); first | done | rfl) ?_
  with_reducible refine (impl_size.calls kz r.f0 r.f1 A c r.f2 _ _ ?s1 HCC.out HSZ.out).mono ?_
  (case s1 => exact Kd.C_below HC.out HB1.out)
  rintro e w2 ⟨rfl, hb⟩
  refine ⟨_, rfl, ?_⟩
  have HB2 := bt_ HB1 hb
  have HBM2 := am_ (blk_below HBM1.out hb)
  have HBR2 := am_ (blk_below HBR1.out hb)
  clear HB1 HBM1 HBR1
  refine hK.out _ _ ((pb4_ hb hHeld)) (fun hHeld => ?_)
  clear hK K
  refine nm_ 14 ?_
  clear hb
  refine ph_ 7 19 (bl 17 4095) HT_ ?_
  refine ph_ 12 24 (bl 17 8191) HT_ ?_
  have hmk := HMK.out w2
  have hb := below_alloc (Below.refl w2.heap.size w2) (Obj.cells (enc8 (List.replicate p2 0)) 99)
  refine on_ 13 (some 25) (bl 17 16383) HT_ (fun K hK => ?_)
  refine value_ (w1 := ?_) (v := ?_) (by rfl) rfl ?_ ?_
  rotate_left 2
  · go_simp
    constructor
    · rfl
    · rfl
  refine hK.out _ _ ((pb4_ hb hHeld)) (fun hHeld => ?_)
  clear hK K
  refine nm_ 25 ?_
  clear hmk
  refine ph_ 14 26 (bl 17 32767) HT_ ?_
  refine ph_ 15 27 (bl 17 65535) HT_ ?_
  have HB3 := bt_ HB2 hb
  have HBM3 := am_ (blk_below HBM2.out hb)
  have HBR3 := am_ (blk_below HBR2.out hb)
  have HRW3 := am_ (blk_new w2 (Obj.cells (enc8 (List.replicate p2 0)) 99))
  have HG3 : Aside0 (w.heap.size + 1 < w2.heap.size) := ⟨blk_lt HBM2.out⟩
  clear hb
  generalize w2.alloc (Obj.cells (enc8 (List.replicate p2 0)) 99) = w3 at HB3 HBM3 HBR3 HRW3 hHeld ⊢
  have hg2 : w3.cell? ⟨w.heap.size + 1, 2, none⟩ = some (.slice none 0 0) := (blk_cell HBM3.out 2).trans rfl
  have hf2 := blk_frozen HBM3.out 2
  refine last_ (i := 16) (N := none) (bl 17 131071) rfl rfl (one_of HT_.out (by kernel_rfl)) (by decide) (fun K hK => ?_)
  refine skip_ (w1 := ?_) (by rfl) rfl ?_ ?_
  rotate_left
  · go_simp
    rfl
  refine hK.out _ _ ?_
  clear hK K hg2 hf2
  refine done_ (done_of HT_.out (by kernel_rfl)) ?_
  have HBM4 : Aside0 ((w3.setCell ⟨w.heap.size + 1, 2, none⟩ (.slice (some ⟨w2.heap.size, 0, none⟩) p2 p2)).heap[w.heap.size + 1]? = some (.cells #[.string s, .int .i64 (N : Int), .slice (some ⟨w2.heap.size, 0, none⟩) p2 p2] 89 (0, 0))) := ⟨blk_put HBM3.out 2 _ rfl⟩
  have HBR4 := am_ (blk_far (p := ⟨w.heap.size + 1, 2, none⟩) HBR3.out (by show w.heap.size ≠ w.heap.size + 1; omega) (.slice (some ⟨w2.heap.size, 0, none⟩) p2 p2))
  have HRW4 := am_ (blk_far (p := ⟨w.heap.size + 1, 2, none⟩) HRW3.out (by have := HG3.out; show w2.heap.size ≠ w.heap.size + 1; omega) (.slice (some ⟨w2.heap.size, 0, none⟩) p2 p2))
  have HB4 := am_ (below_set (g := w.heap.size + 1) (j := 2) (v := .slice (some ⟨w2.heap.size, 0, none⟩) p2 p2) HB3.out (Nat.le_succ _))
  clear HT_ HW_ hHeld HBM3 HBR3 HRW3 HB3
  generalize w3.setCell ⟨w.heap.size + 1, 2, none⟩ (.slice (some ⟨w2.heap.size, 0, none⟩) p2 p2) = w4 at HBM4 HBR4 HRW4 HB4 ⊢
  have HMM : Aside0 (Mem w w4 (w.heap.size + 1) w2.heap.size s N (List.replicate p2 0)) := ⟨⟨by rw [List.length_replicate]; exact HBM4.out, HRW4.out, HB4.out, by have := HG3.out; omega, by have := HG3.out; omega, by omega⟩⟩
  have k0 := (blk_cell HBR4.out 0).trans rfl
  have k1 := (blk_cell HBR4.out 1).trans rfl
  have k2 := (blk_cell HBR4.out 2).trans rfl
  have HAL := am_ (HALL.out w4 w2.heap.size HMM.out (by rw [List.length_replicate]))
  go_wp2_with (go_at_call 80; (with_reducible refine HAL.out.mono ?_); rintro e w5 ⟨rfl, t5, _, _, hm5, _⟩; have HB5 := am_ hm5.bel; clear hm5)
  go_ret
  exact ⟨rfl, HB5.out⟩
end Go.Proofs.Ytldgkgdgcfllmaa.Rg
end
section
namespace Go.Proofs.Ytldgkgdgcfllmaa.P
open Go.RowKit Go.Proofs.YtldgkgdgcfllmaaW.PrintWords Go.Proofs.YtldgkgdgcfllmaaW.PrintLast Go.Proofs.YtldgkgdgcfllmaaW.PrintMore
attribute [local go_sem] max2_int min2_int max_two min_two max_three min_three max_four min_four
set_option linter.unusedVariables false
set_option linter.unusedSimpArgs false
def impl_matches.f (a0_0 : Int) (a0_1 : ByteArray) (l0_2 : List S29) (a1 : ByteArray) : Option Bool := Rg.matchF ⟨a0_0, a0_1, l0_2⟩ a1
theorem impl_matches.calls (a0_0 : Int) (a0_1 : ByteArray) (A0_2 : Option Addr) (c0_2 : Nat) (l0_2 : List S29) (a1 : ByteArray) (r : Bool) (w : World) (hr0_2 : Kd.C k29 w A0_2 l0_2.length l0_2) (hc0_2 : l0_2.length ≤ c0_2) (h : impl_matches.f a0_0 a0_1 l0_2 a1 = some r) :
    Calls Try.prog 54 #[.agg #[.int .i64 a0_0, .string a0_1, .slice A0_2 l0_2.length c0_2], .string a1] w fun e w' => e = .returned (.bool r) ∧ Below w.heap.size w w' := by
  obtain ⟨x, h1, h2, h3, rfl⟩ := Rg.matchF_some h
  exact Rg.matchesCalls A0_2 c0_2 ⟨a0_0, a0_1, l0_2⟩ x a1 w h1 h2 h3 hr0_2 hc0_2
end Go.Proofs.Ytldgkgdgcfllmaa.P
end
section
namespace Go.Proofs.Ytldgkgdgcfllmaa.P
open Go.RowKit Go.Proofs.YtldgkgdgcfllmaaW.PrintWords Go.Proofs.YtldgkgdgcfllmaaW.PrintLast Go.Proofs.YtldgkgdgcfllmaaW.PrintMore
attribute [local go_sem] max2_int min2_int max_two min_two max_three min_three max_four min_four
set_option linter.unusedVariables false
set_option linter.unusedSimpArgs false
def impl_MatchRegex.f (k : Nat) (a0_0 : Int) (a0_1 : ByteArray) (l0_2 : List (S29)) (a1 : ByteArray) : Option (Bool) := (impl_IsValidRegex.f k a0_0 a0_1 l0_2).bind fun ai => (if ai = true then ((impl_IsWord.f k a1).bind fun af => (if af = true then ((impl_matches.f a0_0 a0_1 l0_2 a1).bind fun ae => (some ae)) else (some false))) else (some false))
theorem impl_MatchRegex.mono : ∀ a0 a1 a2 a3 k, LeO (impl_MatchRegex.f k a0 a1 a2 a3) (impl_MatchRegex.f (k + 1) a0 a1 a2 a3) := by
  intro a0 a1 a2 a3 k
  unfold impl_MatchRegex.f
  repeat' first
      | (with_reducible exact impl_IsValidRegex.mono _ _ _ _)
      | (with_reducible exact impl_IsWord.mono _ _)
      | (with_reducible exact LeO.refl _)
      | (with_reducible exact LeO.none _)
      | (with_reducible refine LeO.ite ?_ ?_)
      | (with_reducible refine LeO.bind ?_ (fun _ => ?_))
      | exact impl_IsValidRegex.mono _ _ _ _
      | exact impl_IsWord.mono _ _
      | exact LeO.none _
      | refine LeO.ite ?_ ?_
      | refine LeO.bind ?_ (fun _ => ?_)
set_option maxHeartbeats 8000000 in
set_option maxRecDepth 100000 in
theorem impl_MatchRegex.calls (k : Nat) (a0_0 : Int) (a0_1 : ByteArray) (A0_2 : Option Addr) (c0_2 : Nat) (l0_2 : List (S29)) (a1 : ByteArray) (r : Bool) (w : World) (hr0_2 : Kd.C k29 w A0_2 l0_2.length l0_2) (hc0_2 : l0_2.length ≤ c0_2) (h : impl_MatchRegex.f k a0_0 a0_1 l0_2 a1 = some r) :
    Calls Try.prog 26 #[.agg #[.int .i64 a0_0, .string a0_1, .slice A0_2 l0_2.length c0_2], .string a1] w fun e w' => e = .returned (.bool r) ∧ Below w.heap.size w w' := by
  have hu29 := Try.underlying29
  have ag := am_ hr0_2
  have ah := am_ hc0_2
  clear hr0_2 hc0_2
  have HB := am_ (Below.refl w.heap.size w)
  have H : ((impl_IsValidRegex.f k a0_0 a0_1 l0_2).bind fun ai => (if ai = true then ((impl_IsWord.f k a1).bind fun af => (if af = true then ((impl_matches.f a0_0 a0_1 l0_2 a1).bind fun ae => (some ae)) else (some false))) else (some false))) = some r := h
  clear h
  replace H := Option.bind_eq_some_iff.mp H
  obtain ⟨ai, A30, H⟩ := H
  have A3 := am_ A30
  clear A30
  by_cases c4 : ai = true
  · subst c4
    have H1 : ((impl_IsWord.f k a1).bind fun af => (if af = true then ((impl_matches.f a0_0 a0_1 l0_2 a1).bind fun ae => (some ae)) else (some false))) = some r := by rw [if_pos rfl] at H; exact H
    clear H
    have H := H1
    clear H1
    replace H := Option.bind_eq_some_iff.mp H
    obtain ⟨af, A50, H⟩ := H
    have A5 := am_ A50
    clear A50
    by_cases c6 : af = true
    · subst c6
      have H1 : ((impl_matches.f a0_0 a0_1 l0_2 a1).bind fun ae => (some ae)) = some r := by rw [if_pos rfl] at H; exact H
      clear H
      have H := H1
      clear H1
      replace H := Option.bind_eq_some_iff.mp H
      obtain ⟨ae, A70, H⟩ := H
      replace H : (some ae) = some r := H
      have A7 := am_ A70
      clear A70
      obtain rfl := Option.some.inj H
      simp only [Option.some.injEq, Prod.mk.injEq] at H
      obtain ⟨rfl⟩ := H
      go_enter Try.func26, Try.ntmps26
      go_wp2_with (first | ((with_reducible refine gate_dst (N := 2) rfl ?_); refine box_event ?hg (N := 2) ?hd (cs := #[.int .i64 a0_0, .string a0_1, .slice A0_2 l0_2.length c0_2]) (t := 29) ?hr ?_; (case hd => rfl); (case hg => rfl); (case hr => first | (go_simp; done) | (go_simp; rfl)); intro ad hg w8 hbox hb; replace aa := am_ (hbox); replace aj := am_ ((by rw [hg]; exact (below_size (b0_ HB.out)) : w.heap.size ≤ ad)); replace ab := am_ ((by rw [hg]; exact (below_size (b0_ HB.out)) : w.heap.size ≤ ad)); replace HB := am_ (below_step (b0_ HB.out) hb); clear hb hbox hg; have aE := ck_ (v := (.int .i64 a0_0)) aa 0 rfl; have aF := ck_ (v := (.string a0_1)) aa 1 rfl; have aG := ck_ (v := (.slice A0_2 l0_2.length c0_2)) aa 2 rfl; have aH := blk_frozen aa.out 0; have aI := blk_frozen aa.out 1; have aJ := blk_frozen aa.out 2) | ((with_reducible refine gate_callee (f := 18) rfl ?_); refine gL_ (some 6) Try.func18 #[.agg #[.int .i64 a0_0, .string a0_1, .slice A0_2 l0_2.length c0_2]] ?_; (with_reducible refine (impl_IsValidRegex.calls k a0_0 a0_1 _ _ l0_2 true _ ?side1 ?side2 A3.out).mono ?_); (case side1 => exact rc_ (Kd.C_below ag.out HB.out)); (case side2 => exact ah.out); rintro e w10 ⟨rfl, hb⟩; refine ⟨_, rfl, ?_⟩; have n0_ := am_ (blk_below (rb_ aa.out) hb); have n1_ := am_ (below_step (b1_ HB.out ab.out) hb); clear aa; clear HB; have aa := n0_; have HB := n1_; clear n0_ n1_; (try clear hb); (try clear hb2); (try clear hk); (try clear hi)) | (go_at_call 53; (with_reducible refine (impl_IsWord.calls k a1 true _ A5.out).mono ?_); rintro e w' ⟨rfl, ⟨nd, rfl⟩⟩; have ak := ck_ (v := (.int .i64 a0_0)) aa 0 rfl; have al := ck_ (v := (.string a0_1)) aa 1 rfl; have am := ck_ (v := (.slice A0_2 l0_2.length c0_2)) aa 2 rfl; have an := blk_frozen aa.out 0; have ao := blk_frozen aa.out 1; have ap := blk_frozen aa.out 2) | (go_at_call 54; (with_reducible refine (impl_matches.calls a0_0 a0_1 _ _ l0_2 a1 ae _ ?side1 ?side2 A7.out).mono ?_); (case side1 => exact rc_ (Kd.C_below ag.out (b1_ HB.out ab.out))); (case side2 => exact ah.out); rintro e w12 ⟨rfl, hb⟩; have n0_ := am_ (blk_below (rb_ aa.out) hb); have n1_ := am_ (below_step (b1_ HB.out ab.out) hb); clear aa; clear HB; have aa := n0_; have HB := n1_; clear n0_ n1_; (try clear hb); (try clear hb2); (try clear hk); (try clear hi)))
      go_ret
      exact ⟨by first | rfl | (simp [errW_none, errW_some] <;> rfl) | (simp [*, errW_none, errW_some] <;> rfl), by repeat (first | (with_reducible first | exact HB.out | apply below_alloc | apply pw_below_drewN | apply below_drew1 | refine below_set ?_ ab.out) | exact HB.out)⟩
    · replace c6 := Bool.eq_false_iff.mpr c6
      subst c6
      have H1 : (some false) = some r := by rw [if_neg (show ¬ (false = true) by decide)] at H; exact H
      clear H
      have H := H1
      clear H1
      obtain rfl := Option.some.inj H
      simp only [Option.some.injEq, Prod.mk.injEq] at H
      obtain ⟨rfl⟩ := H
      go_enter Try.func26, Try.ntmps26
      go_wp2_with (first | ((with_reducible refine gate_dst (N := 2) rfl ?_); refine box_event ?hg (N := 2) ?hd (cs := #[.int .i64 a0_0, .string a0_1, .slice A0_2 l0_2.length c0_2]) (t := 29) ?hr ?_; (case hd => rfl); (case hg => rfl); (case hr => first | (go_simp; done) | (go_simp; rfl)); intro ad hg w13 hbox hb; replace aa := am_ (hbox); replace aj := am_ ((by rw [hg]; exact (below_size (b0_ HB.out)) : w.heap.size ≤ ad)); replace ab := am_ ((by rw [hg]; exact (below_size (b0_ HB.out)) : w.heap.size ≤ ad)); replace HB := am_ (below_step (b0_ HB.out) hb); clear hb hbox hg; have aq := ck_ (v := (.int .i64 a0_0)) aa 0 rfl; have ar := ck_ (v := (.string a0_1)) aa 1 rfl; have au := ck_ (v := (.slice A0_2 l0_2.length c0_2)) aa 2 rfl; have av := blk_frozen aa.out 0; have aw := blk_frozen aa.out 1; have ax := blk_frozen aa.out 2) | ((with_reducible refine gate_callee (f := 18) rfl ?_); refine gL_ (some 6) Try.func18 #[.agg #[.int .i64 a0_0, .string a0_1, .slice A0_2 l0_2.length c0_2]] ?_; (with_reducible refine (impl_IsValidRegex.calls k a0_0 a0_1 _ _ l0_2 true _ ?side1 ?side2 A3.out).mono ?_); (case side1 => exact rc_ (Kd.C_below ag.out HB.out)); (case side2 => exact ah.out); rintro e w15 ⟨rfl, hb⟩; refine ⟨_, rfl, ?_⟩; have n0_ := am_ (blk_below (rb_ aa.out) hb); have n1_ := am_ (below_step (b1_ HB.out ab.out) hb); clear aa; clear HB; have aa := n0_; have HB := n1_; clear n0_ n1_; (try clear hb); (try clear hb2); (try clear hk); (try clear hi)) | (go_at_call 53; (with_reducible refine (impl_IsWord.calls k a1 false _ A5.out).mono ?_); rintro e w' ⟨rfl, ⟨nd, rfl⟩⟩))
      go_ret
      exact ⟨by first | rfl | (simp [errW_none, errW_some] <;> rfl) | (simp [*, errW_none, errW_some] <;> rfl), by repeat (first | (with_reducible first | exact HB.out | apply below_alloc | apply pw_below_drewN | apply below_drew1 | refine below_set ?_ ab.out) | exact HB.out)⟩
  · replace c4 := Bool.eq_false_iff.mpr c4
    subst c4
    have H1 : (some false) = some r := by rw [if_neg (show ¬ (false = true) by decide)] at H; exact H
    clear H
    have H := H1
    clear H1
    obtain rfl := Option.some.inj H
    simp only [Option.some.injEq, Prod.mk.injEq] at H
    obtain ⟨rfl⟩ := H
    go_enter Try.func26, Try.ntmps26
    go_wp2_with (first | ((with_reducible refine gate_dst (N := 2) rfl ?_); refine box_event ?hg (N := 2) ?hd (cs := #[.int .i64 a0_0, .string a0_1, .slice A0_2 l0_2.length c0_2]) (t := 29) ?hr ?_; (case hd => rfl); (case hg => rfl); (case hr => first | (go_simp; done) | (go_simp; rfl)); intro ad hg w16 hbox hb; replace aa := am_ (hbox); replace aj := am_ ((by rw [hg]; exact (below_size (b0_ HB.out)) : w.heap.size ≤ ad)); replace ab := am_ ((by rw [hg]; exact (below_size (b0_ HB.out)) : w.heap.size ≤ ad)); replace HB := am_ (below_step (b0_ HB.out) hb); clear hb hbox hg; have ay := ck_ (v := (.int .i64 a0_0)) aa 0 rfl; have az := ck_ (v := (.string a0_1)) aa 1 rfl; have aA := ck_ (v := (.slice A0_2 l0_2.length c0_2)) aa 2 rfl; have aB := blk_frozen aa.out 0; have aC := blk_frozen aa.out 1; have aD := blk_frozen aa.out 2) | ((with_reducible refine gate_callee (f := 18) rfl ?_); refine gL_ (some 6) Try.func18 #[.agg #[.int .i64 a0_0, .string a0_1, .slice A0_2 l0_2.length c0_2]] ?_; (with_reducible refine (impl_IsValidRegex.calls k a0_0 a0_1 _ _ l0_2 false _ ?side1 ?side2 A3.out).mono ?_); (case side1 => exact rc_ (Kd.C_below ag.out HB.out)); (case side2 => exact ah.out); rintro e w18 ⟨rfl, hb⟩; refine ⟨_, rfl, ?_⟩; have n0_ := am_ (blk_below (rb_ aa.out) hb); have n1_ := am_ (below_step (b1_ HB.out ab.out) hb); clear aa; clear HB; have aa := n0_; have HB := n1_; clear n0_ n1_; (try clear hb); (try clear hb2); (try clear hk); (try clear hi)))
    go_ret
    exact ⟨by first | rfl | (simp [errW_none, errW_some] <;> rfl) | (simp [*, errW_none, errW_some] <;> rfl), by repeat (first | (with_reducible first | exact HB.out | apply below_alloc | apply pw_below_drewN | apply below_drew1 | refine below_set ?_ ab.out) | exact HB.out)⟩
end Go.Proofs.Ytldgkgdgcfllmaa.P
end
