/- Texts of the proof of FnRegexText, put together. No condition. -/
import Derived.Test.YtldgkgdgcfllmaaQFnRegexText3
import Derived.Test.YtldgkgdgcfllmaaQFnRegexText5
import Derived.Test.YtldgkgdgcfllmaaQFnRegexText6
import Derived.Test.YtldgkgdgcfllmaaQFnRegexText8
import Derived.Test.YtldgkgdgcfllmaaQFnRegexText12
import Derived.Test.YtldgkgdgcfllmaaQFnRegexText15
import Derived.Test.YtldgkgdgcfllmaaQFnRegexText2
section
namespace Go.Proofs.Ytldgkgdgcfllmaa.P
open Go.RowKit Go.Proofs.YtldgkgdgcfllmaaW.PrintWords Go.Proofs.YtldgkgdgcfllmaaW.PrintLast Go.Proofs.YtldgkgdgcfllmaaW.PrintMore
attribute [local go_sem] max2_int min2_int max_two min_two max_three min_three max_four min_four
set_option linter.unusedVariables false
set_option linter.unusedSimpArgs false
def laws_FnRegexText.j0 : Nat → List Int → Bool → Option (Bool)
  | 0, _, _ => none
  | k + 1, x0, x47 => if x47 = true then (some false) else ((spec_DrawParseRegex.f k x0).bind fun aI => ((impl_ParseRegex.f aI).bind fun bt927 => ((spec_ParseRegex.f aI).bind fun bt934 => (if (bt927.2.2.2 == bt934.2.2.2) = true then (if bt927.2.2.2 = true then ((impl_FormatRegex.f k bt927.1 bt927.2.1 bt927.2.2.1).bind fun be => (some (be.toList == aI.toList))) else (some true)) else (some false)))))
def laws_FnRegexText.f (k : Nat) (l0 : List Int) : Option (Bool) := (laws_big.f l0).bind fun bo => (if bo = true then (some true) else ((spec_DrawFormatRegex.f k l0).bind fun bt908 => ((impl_FormatRegex.f k bt908.1 bt908.2.1 bt908.2.2).bind fun aM => ((impl_ParseRegex.f aM).bind fun bt915 => ((spec_FormatRegex.f k bt908.1 bt908.2.1 bt908.2.2).bind fun aO => (if aM.toList = aO.toList then ((spec_IsValidRegex.f k bt908.1 bt908.2.1 bt908.2.2).bind fun aJ => (if (bt915.2.2.2 != aJ) = true then (laws_FnRegexText.j0 k l0 true) else ((impl_IsValidRegex.f k bt908.1 bt908.2.1 bt908.2.2).bind fun aN => (if (aN != bt915.2.2.2) = true then (laws_FnRegexText.j0 k l0 true) else (if bt915.2.2.2 = true then ((impl_EqualRegex.f bt915.1 bt915.2.1 bt915.2.2.1 bt908.1 bt908.2.1 bt908.2.2).bind fun aV => (laws_FnRegexText.j0 k l0 (!aV))) else (laws_FnRegexText.j0 k l0 false)))))) else (laws_FnRegexText.j0 k l0 true)))))))
theorem laws_FnRegexText.mono_l : ∀ k, (∀ y0 y1, LeO (laws_FnRegexText.j0 k y0 y1) (laws_FnRegexText.j0 (k + 1) y0 y1))
 | 0 => fun _ _ r h => by simp [laws_FnRegexText.j0] at h
 | k + 1 => by
  have ih0 := laws_FnRegexText.mono_l k
  ·intro y0 y1
   unfold laws_FnRegexText.j0
   repeat' first
   | (with_reducible exact ih0 _ _)
   | (with_reducible exact impl_FormatRegex.mono _ _ _ _)
   | (with_reducible exact impl_IsValidRegex.mono _ _ _ _)
   | (with_reducible exact spec_DrawFormatRegex.mono _ _)
   | (with_reducible exact spec_DrawParseRegex.mono _ _)
   | (with_reducible exact spec_FormatRegex.mono _ _ _ _)
   | (with_reducible exact spec_IsValidRegex.mono _ _ _ _)
   | (with_reducible exact LeO.refl _)
   | (with_reducible exact LeO.none _)
   | (with_reducible refine LeO.ite ?_ ?_)
   | (with_reducible refine LeO.bind ?_ (fun _ => ?_))
   | exact ih0 _ _
   | exact impl_FormatRegex.mono _ _ _ _
   | exact impl_IsValidRegex.mono _ _ _ _
   | exact spec_DrawFormatRegex.mono _ _
   | exact spec_DrawParseRegex.mono _ _
   | exact spec_FormatRegex.mono _ _ _ _
   | exact spec_IsValidRegex.mono _ _ _ _
   | exact LeO.none _
   | refine LeO.ite ?_ ?_
   | refine LeO.bind ?_ (fun _ => ?_)
theorem laws_FnRegexText.mono : ∀ a0 k, LeO (laws_FnRegexText.f k a0) (laws_FnRegexText.f (k + 1) a0) := by
 intro a0 k
 have ih0 := laws_FnRegexText.mono_l k
 unfold laws_FnRegexText.f
 repeat' first
   | (with_reducible exact ih0 _ _)
   | (with_reducible exact impl_FormatRegex.mono _ _ _ _)
   | (with_reducible exact impl_IsValidRegex.mono _ _ _ _)
   | (with_reducible exact spec_DrawFormatRegex.mono _ _)
   | (with_reducible exact spec_DrawParseRegex.mono _ _)
   | (with_reducible exact spec_FormatRegex.mono _ _ _ _)
   | (with_reducible exact spec_IsValidRegex.mono _ _ _ _)
   | (with_reducible exact LeO.refl _)
   | (with_reducible exact LeO.none _)
   | (with_reducible refine LeO.ite ?_ ?_)
   | (with_reducible refine LeO.bind ?_ (fun _ => ?_))
   | exact ih0 _ _
   | exact impl_FormatRegex.mono _ _ _ _
   | exact impl_IsValidRegex.mono _ _ _ _
   | exact spec_DrawFormatRegex.mono _ _
   | exact spec_DrawParseRegex.mono _ _
   | exact spec_FormatRegex.mono _ _ _ _
   | exact spec_IsValidRegex.mono _ _ _ _
   | exact LeO.none _
   | refine LeO.ite ?_ ?_
   | refine LeO.bind ?_ (fun _ => ?_)
theorem zp48_0_ {p q g1 g2 : Prop} (h : p) (h1 : g1) (h2 : g2) (c : p → g1 → g2 → q := by intro h_ h1_ h2_; repeat (first | (with_reducible first | exact h_ | apply below_alloc | apply pw_below_drewN | apply below_drew1 | refine below_set ?_ h1_ | refine below_set ?_ h2_) | exact h_)) : q := c h h1 h2
set_option maxHeartbeats 8000000 in
set_option maxRecDepth 100000 in
theorem laws_FnRegexText.calls (k : Nat) (A0 : Option Addr) (c0 : Nat) (l0 : List Int) (r : Bool) (w : World) (hr0 : Kd.C (Kd.int .u8) w A0 l0.length l0) (hc0 : l0.length ≤ c0) (h : laws_FnRegexText.f k l0 = some r) (hR : r = true) :
  Calls Try.prog 10 #[.slice A0 l0.length c0] w fun e w' => e = .returned (.bool r) ∧ Below w.heap.size w w' := by
 have hu29 := Try.underlying29
 have HR0 := am_ hr0
 have HC0 := am_ hc0
 clear hr0 hc0
 have HB := am_ (Below.refl w.heap.size w)
 have H : ((laws_big.f l0).bind fun bo => (if bo = true then (some true) else ((spec_DrawFormatRegex.f k l0).bind fun bt908 => ((impl_FormatRegex.f k bt908.1 bt908.2.1 bt908.2.2).bind fun aM => ((impl_ParseRegex.f aM).bind fun bt915 => ((spec_FormatRegex.f k bt908.1 bt908.2.1 bt908.2.2).bind fun aO => (if aM.toList = aO.toList then ((spec_IsValidRegex.f k bt908.1 bt908.2.1 bt908.2.2).bind fun aJ => (if (bt915.2.2.2 != aJ) = true then (laws_FnRegexText.j0 k l0 true) else ((impl_IsValidRegex.f k bt908.1 bt908.2.1 bt908.2.2).bind fun aN => (if (aN != bt915.2.2.2) = true then (laws_FnRegexText.j0 k l0 true) else (if bt915.2.2.2 = true then ((impl_EqualRegex.f bt915.1 bt915.2.1 bt915.2.2.1 bt908.1 bt908.2.1 bt908.2.2).bind fun aV => (laws_FnRegexText.j0 k l0 (!aV))) else (laws_FnRegexText.j0 k l0 false)))))) else (laws_FnRegexText.j0 k l0 true)))))))) = some r := h
 clear h
 replace H := Option.bind_eq_some_iff.mp H
 obtain ⟨bo, A20, H⟩ := H
 have A2 := am_ A20
 clear A20
 by_cases c3 : bo = true
 ·subst c3
  have H1 : (some true) = some r := by rw [if_pos rfl] at H; exact H
  clear H
  have H := H1
  clear H1
  obtain rfl := Option.some.inj H
  simp only [Option.some.injEq, Prod.mk.injEq] at H
  obtain ⟨rfl⟩ := H
  go_enter Try.func10, Try.ntmps10
  go_wp2_with (first | ((with_reducible refine gate_callee (f := 31) rfl ?_); refine gL_ (some 13) Try.func31 #[.slice A0 l0.length c0] ?_; (with_reducible refine (laws_big.calls _ _ l0 true _ ?side1 ?side2 A2.out).mono ?_); (case side1 => exact rc_ HR0.out); (case side2 => exact HC0.out); rintro e w' ⟨rfl, ⟨nd, rfl⟩⟩; refine ⟨_, rfl, ?_⟩))
  go_ret
  exact ⟨by first | rfl | (simp [errW_none, errW_some] <;> rfl) | (simp [*, errW_none, errW_some] <;> rfl), by repeat (first | (with_reducible first | exact HB.out | apply below_alloc | apply pw_below_drewN | apply below_drew1) | exact HB.out)⟩
 ·replace c3 := Bool.eq_false_iff.mpr c3
  subst c3
  have H1 : ((spec_DrawFormatRegex.f k l0).bind fun bt908 => ((impl_FormatRegex.f k bt908.1 bt908.2.1 bt908.2.2).bind fun aM => ((impl_ParseRegex.f aM).bind fun bt915 => ((spec_FormatRegex.f k bt908.1 bt908.2.1 bt908.2.2).bind fun aO => (if aM.toList = aO.toList then ((spec_IsValidRegex.f k bt908.1 bt908.2.1 bt908.2.2).bind fun aJ => (if (bt915.2.2.2 != aJ) = true then (laws_FnRegexText.j0 k l0 true) else ((impl_IsValidRegex.f k bt908.1 bt908.2.1 bt908.2.2).bind fun aN => (if (aN != bt915.2.2.2) = true then (laws_FnRegexText.j0 k l0 true) else (if bt915.2.2.2 = true then ((impl_EqualRegex.f bt915.1 bt915.2.1 bt915.2.2.1 bt908.1 bt908.2.1 bt908.2.2).bind fun aV => (laws_FnRegexText.j0 k l0 (!aV))) else (laws_FnRegexText.j0 k l0 false)))))) else (laws_FnRegexText.j0 k l0 true)))))) = some r := by rw [if_neg (show ¬ (false = true) by decide)] at H; exact H
  clear H
  have H := H1
  clear H1
  replace H := Option.bind_eq_some_iff.mp H
  obtain ⟨⟨an, ap, ai⟩, A40, H⟩ := H
  have A4 := am_ A40
  clear A40
  replace H := Option.bind_eq_some_iff.mp H
  obtain ⟨aM, A50, H⟩ := H
  have A5 := am_ A50
  clear A50
  replace H := Option.bind_eq_some_iff.mp H
  obtain ⟨⟨ax, aA, av, aK⟩, A60, H⟩ := H
  have A6 := am_ A60
  clear A60
  have HC7 := am_ H
  clear H
  go_enter Try.func10, Try.ntmps10
  go_upto_region 6 with (first | ((with_reducible refine gate_callee (f := 31) rfl ?_); refine gL_ (some 13) Try.func31 #[.slice A0 l0.length c0] ?_; (with_reducible refine (laws_big.calls _ _ l0 false _ ?side1 ?side2 A2.out).mono ?_); (case side1 => exact rc_ HR0.out); (case side2 => exact HC0.out); rintro e w' ⟨rfl, ⟨nd, rfl⟩⟩; refine ⟨_, rfl, ?_⟩) | ((with_reducible refine gate_callee (f := 32) rfl ?_); refine gL_ (some 15) Try.func32 #[.slice A0 l0.length c0] ?_; (with_reducible refine (spec_DrawFormatRegex.calls k _ _ l0 an ap ai _ ?side1 ?side2 A4.out).mono ?_); (case side1 => exact rc_ HR0.out); (case side2 => exact HC0.out); rintro e w8 ⟨eO, rfl, ho0, hb⟩; refine ⟨_, rfl, ?_⟩; replace ae := am_ (Kd.N_lower (Kd.N_mono (ok' := fun k_ => True) ho0 (fun k_ hk_ => trivial)) (below_size (b0_ HB.out))); replace HB := am_ (below_step (b0_ HB.out) hb); (try clear hb); (try clear hb2); (try clear hk); (try clear hi); (try clear ho0)) | ((with_reducible refine gate_dst (N := 3) rfl ?_); refine box_event ?hg (N := 3) ?hd (cs := #[.int .i64 0, .string (⟨#[]⟩ : ByteArray), .slice none 0 0]) (t := 29) ?hr ?_; (case hd => rfl); (case hg => rfl); (case hr => first | (go_simp; done) | (go_simp; rfl)); intro aj hg w9 hbox hb; have n0_ := am_ (Kd.N_below (Kd.N_elderB (rn_ ae.out) aj (Nat.le_of_eq hg.symm)) hb); have n1_ := am_ (below_step (b0_ HB.out) hb); have n2_ := am_ (hbox); have n3_ := am_ ((by rw [hg]; exact (below_size (b0_ HB.out)) : w.heap.size ≤ aj)); have n4_ := am_ ((by rw [hg]; exact (below_size (b0_ HB.out)) : w.heap.size ≤ aj)); clear ae; clear HB; have ae := n0_; have HB := n1_; have aa := n2_; have eg := n3_; have al := n4_; clear n0_ n1_ n2_ n3_ n4_; clear hb hbox hg; have bp := ck_ (v := (.int .i64 0)) aa 0 rfl; have bq := ck_ (v := (.string (⟨#[]⟩ : ByteArray))) aa 1 rfl; have br := ck_ (v := (.slice none 0 0)) aa 2 rfl; have bs := blk_frozen aa.out 0; have bt := blk_frozen aa.out 1; have bu := blk_frozen aa.out 2; obtain ⟨aw, ar, du⟩ := Kd.N_slice ae.out; subst du) | ((with_reducible refine gate_callee (f := 20) rfl ?_); refine gL_ (some 17) Try.func20 #[.agg #[.int .i64 an, .string ap, .slice aw ai.length ar]] ?_; (with_reducible refine (impl_FormatRegex.calls k an ap _ _ ai aM _ ?side1 ?side2 A5.out).mono ?_); (case side1 => refine (Kd.N_reads' (e := 29) (base := w.heap.size) (ok := fun k_ => (True ∧ k_ ≠ aj)) (n := ai.length) (c := ar) ?_).2.2; exact (rn_ (Kd.N_mono (Kd.N_far (p := ⟨aj, 2, none⟩) (Kd.N_far (p := ⟨aj, 1, none⟩) (Kd.N_far (p := ⟨aj, 0, none⟩) (Kd.N_mono ae.out (fun k_ hk => (⟨hk, hk.2⟩ : _ ∧ k_ ≠ aj))) (fun _ hk => hk.2) (.int .i64 an)) (fun _ hk => hk.2) (.string ap)) (fun _ hk => hk.2) (.slice aw ai.length ar)) (fun _ h_ => h_.1)))); (case side2 => exact (Kd.N_reads' ae.out).2.1); rintro e w12 ⟨rfl, hb⟩; refine ⟨_, rfl, ?_⟩; have n0_ := am_ (Kd.N_below (rn_ (Kd.N_mono (Kd.N_far (p := ⟨aj, 2, none⟩) (Kd.N_far (p := ⟨aj, 1, none⟩) (Kd.N_far (p := ⟨aj, 0, none⟩) (Kd.N_mono ae.out (fun k_ hk => (⟨hk, hk.2⟩ : _ ∧ k_ ≠ aj))) (fun _ hk => hk.2) (.int .i64 an)) (fun _ hk => hk.2) (.string ap)) (fun _ hk => hk.2) (.slice aw ai.length ar)) (fun _ h_ => h_.1))) hb); have n1_ := am_ (blk_below (g := aj) (o := .cells #[.int .i64 an, .string ap, .slice aw ai.length ar] 29 (0, 0)) (by refine rb_ ?_; refine blk_put (cs := #[.int .i64 an, .string ap, .slice none 0 0]) ?_ 2 _ rfl; refine rb_ ?_; refine blk_put (cs := #[.int .i64 an, .string (⟨#[]⟩ : ByteArray), .slice none 0 0]) ?_ 1 _ rfl; refine rb_ ?_; refine blk_put (cs := #[.int .i64 0, .string (⟨#[]⟩ : ByteArray), .slice none 0 0]) ?_ 0 _ rfl; refine rb_ ?_; exact aa.out) hb); have n2_ := am_ (below_step (b1_ HB.out al.out) hb); clear ae; clear aa; clear HB; have ae := n0_; have aa := n1_; have HB := n2_; clear n0_ n1_ n2_; (try clear hb); (try clear hb2); (try clear hk); (try clear hi)) | ((with_reducible refine gate_callee (f := 22) rfl ?_); refine gL_ (some 20) Try.func22 #[.string aM] ?_; (with_reducible refine (impl_ParseRegex.calls aM ax aA av aK _ A6.out).mono ?_); rintro e w13 ⟨eP, rfl, ho0, hb⟩; refine ⟨_, rfl, ?_⟩; have n0_ := am_ (Kd.N_elder' (rn_ ae.out) (by first | exact Kd.N_base ho0 | exact Kd.R_base ho0) hb); have n1_ := am_ (Kd.N_lower (Kd.N_mono (ok' := fun k_ => some k_ ≠ (.slice aw ai.length ar : Value).ownBlock ∧ k_ ≠ aj) (Kd.R_N (Kd.R_bound ho0)) (fun k_ hk_ => ⟨(Kd.fresh' (Kd.N_lt (rn_ ae.out)) k_ hk_.2.1), (Kd.freshB (g := aj) (o := .cells #[.int .i64 an, .string ap, .slice aw ai.length ar] 29 (0, 0)) (rb_ aa.out) k_ hk_.2.1)⟩)) (below_size (b1_ HB.out al.out))); have n2_ := am_ (blk_below (rb_ aa.out) hb); have n3_ := am_ (below_step (b1_ HB.out al.out) hb); clear ae; clear aa; clear HB; have ae := n0_; have ak := n1_; have aa := n2_; have HB := n3_; clear n0_ n1_ n2_ n3_; (try clear hb); (try clear hb2); (try clear hk); (try clear hi); (try clear ho0)) | ((with_reducible refine gate_dst (N := 5) rfl ?_); refine box_event ?hg (N := 5) ?hd (cs := #[.int .i64 0, .string (⟨#[]⟩ : ByteArray), .slice none 0 0]) (t := 29) ?hr ?_; (case hd => rfl); (case hg => rfl); (case hr => first | (go_simp; done) | (go_simp; rfl)); intro ad hg w14 hbox hb; have n0_ := am_ (Kd.N_below (Kd.N_elderB (rn_ ae.out) ad (Nat.le_of_eq hg.symm)) hb); have n1_ := am_ (Kd.N_below (Kd.N_elderB (rn_ ak.out) ad (Nat.le_of_eq hg.symm)) hb); have n2_ := am_ (blk_below (rb_ aa.out) hb); have n3_ := am_ (below_step (b1_ HB.out al.out) hb); have n4_ := am_ (hbox); have n5_ := am_ ((by rw [hg]; exact (below_size (b1_ HB.out al.out)) : w.heap.size ≤ ad)); have n6_ := am_ ((by rw [hg]; exact (below_size (b1_ HB.out al.out)) : w.heap.size ≤ ad)); have n7_ := am_ ((by rw [hg]; exact Nat.ne_of_lt (blk_lt (rb_ aa.out)) : aj ≠ ad)); have n8_ := am_ ((by rw [hg]; exact Nat.ne_of_gt (blk_lt (rb_ aa.out)) : ad ≠ aj)); clear ae; clear ak; clear aa; clear HB; have ae := n0_; have ak := n1_; have aa := n2_; have HB := n3_; have ab := n4_; have eh := n5_; have ao := n6_; have au := n7_; have aQ := n8_; clear n0_ n1_ n2_ n3_ n4_ n5_ n6_ n7_ n8_; clear hb hbox hg; have ei := aQ.out; have ej := au.out; have bv := ck_ (v := (.int .i64 0)) ab 0 rfl; have bw := ck_ (v := (.string (⟨#[]⟩ : ByteArray))) ab 1 rfl; have bx := ck_ (v := (.slice none 0 0)) ab 2 rfl; have bz := blk_frozen ab.out 0; have bA := blk_frozen ab.out 1; have bB := blk_frozen ab.out 2; obtain ⟨ay, az, dv⟩ := Kd.N_slice ak.out; subst dv))
  (try simp only [Act.put, List.setIfInBounds_toArray, List.set_cons_zero, List.set_cons_succ])
  go_cut [47] (fun v47 wc => ∃ (kq : Nat) (bm : Bool), v47 = .bool bm ∧ Aside0 (laws_FnRegexText.j0 kq l0 bm = some r) ∧ Aside0 (kq ≤ k) ∧ Aside0 (Kd.N k29 29 wc w.heap.size (fun k_ => some k_ ≠ ((.slice ay av.length az) : Value).ownBlock ∧ k_ ≠ aj ∧ k_ ≠ ad) (.slice aw ai.length ar) ai) ∧ Aside0 (Kd.N k29 29 wc w.heap.size (fun k_ => some k_ ≠ ((.slice aw ai.length ar) : Value).ownBlock ∧ k_ ≠ aj ∧ k_ ≠ ad) (.slice ay av.length az) av) ∧ Aside0 (wc.heap[aj]? = some (.cells #[.int .i64 an, .string ap, (.slice aw ai.length ar)] 29 (0, 0))) ∧ Aside0 (wc.heap[ad]? = some (.cells #[.int .i64 ax, .string aA, (.slice ay av.length az)] 29 (0, 0))) ∧ Aside0 (Below w.heap.size w wc))
  case first =>
   have H := HC7.out
   clear HC7
   replace H := Option.bind_eq_some_iff.mp H
   obtain ⟨aO, dj, H⟩ := H
   have A18 := am_ dj
   clear dj
   by_cases c19 : aM.toList = aO.toList
   ·rw [if_pos c19] at H
    have c19b0 : (aM.toList == aO.toList) = true := beq_iff_eq.mpr c19
    have c19b1 : (aM.toList != aO.toList) = false := bne_eq_false_iff_eq.mpr c19
    clear c19
    (first | rw [c19b0] | (simp only [i64_w, i32_w]; rw [c19b0]) | skip)
    replace H := Option.bind_eq_some_iff.mp H
    obtain ⟨aJ, dk, H⟩ := H
    have A20 := am_ dk
    clear dk
    by_cases c21 : (aK != aJ) = true
    ·rw [if_pos c21] at H
     have c21b0 : (aK != aJ) = true := c21
     (try (have c21b1 : decide (aK = aJ) = false := by simpa using c21))
     (try (have c21b2 : (aK == aJ) = false := by simpa using c21))
     (try (have c21b3 : ¬ (aK = aJ) := by simpa using c21))
     clear c21
     have H' := am_ H
     clear H
     have ek := au.out
     have el := aQ.out
     have bC := ck_ (v := (.int .i64 an)) aa 0 rfl
     have bD := ck_ (v := (.string ap)) aa 1 rfl
     have bE := ck_ (v := (.slice aw ai.length ar)) aa 2 rfl
     have bF := blk_frozen aa.out 0
     have bG := blk_frozen aa.out 1
     have bH := blk_frozen aa.out 2
     go_wp2_with (first | ((with_reducible refine gate_callee (f := 19) rfl ?_); refine gL_ (some 25) Try.func19 #[.agg #[.int .i64 an, .string ap, .slice aw ai.length ar]] ?_; (with_reducible refine (spec_FormatRegex.calls k an ap _ _ ai aO _ ?side1 ?side2 A18.out).mono ?_); (case side1 => refine (Kd.N_reads' (e := 29) (base := w.heap.size) (ok := fun k_ => (((True ∧ k_ ≠ aj) ∧ some k_ ≠ (.slice ay av.length az : Value).ownBlock) ∧ k_ ≠ ad)) (n := ai.length) (c := ar) ?_).2.2; exact (rn_ (Kd.N_mono (Kd.N_far (p := ⟨ad, 2, none⟩) (Kd.N_far (p := ⟨ad, 1, none⟩) (Kd.N_far (p := ⟨ad, 0, none⟩) (Kd.N_mono ae.out (fun k_ hk => (⟨hk, hk.2⟩ : _ ∧ k_ ≠ ad))) (fun _ hk => hk.2) (.int .i64 ax)) (fun _ hk => hk.2) (.string aA)) (fun _ hk => hk.2) (.slice ay av.length az)) (fun _ h_ => h_.1)))); (case side2 => exact (Kd.N_reads' ae.out).2.1); rintro e w24 ⟨rfl, hb⟩; refine ⟨_, rfl, ?_⟩; have n0_ := am_ (Kd.N_below (rn_ (Kd.N_mono (Kd.N_far (p := ⟨ad, 2, none⟩) (Kd.N_far (p := ⟨ad, 1, none⟩) (Kd.N_far (p := ⟨ad, 0, none⟩) (Kd.N_mono ae.out (fun k_ hk => (⟨hk, hk.2⟩ : _ ∧ k_ ≠ ad))) (fun _ hk => hk.2) (.int .i64 ax)) (fun _ hk => hk.2) (.string aA)) (fun _ hk => hk.2) (.slice ay av.length az)) (fun _ h_ => h_.1))) hb); have n1_ := am_ (Kd.N_below (rn_ (Kd.N_mono (Kd.N_far (p := ⟨ad, 2, none⟩) (Kd.N_far (p := ⟨ad, 1, none⟩) (Kd.N_far (p := ⟨ad, 0, none⟩) (Kd.N_mono ak.out (fun k_ hk => (⟨hk, hk.2⟩ : _ ∧ k_ ≠ ad))) (fun _ hk => hk.2) (.int .i64 ax)) (fun _ hk => hk.2) (.string aA)) (fun _ hk => hk.2) (.slice ay av.length az)) (fun _ h_ => h_.1))) hb); have n2_ := am_ (blk_below (g := aj) (o := .cells #[.int .i64 an, .string ap, .slice aw ai.length ar] 29 (0, 0)) (by refine rb_ ?_; refine blk_far ?_ au.out _; refine rb_ ?_; refine blk_far ?_ au.out _; refine rb_ ?_; refine blk_far ?_ au.out _; refine rb_ ?_; exact aa.out) hb); have n3_ := am_ (blk_below (g := ad) (o := .cells #[.int .i64 ax, .string aA, .slice ay av.length az] 29 (0, 0)) (by refine rb_ ?_; refine blk_put (cs := #[.int .i64 ax, .string aA, .slice none 0 0]) ?_ 2 _ rfl; refine rb_ ?_; refine blk_put (cs := #[.int .i64 ax, .string (⟨#[]⟩ : ByteArray), .slice none 0 0]) ?_ 1 _ rfl; refine rb_ ?_; refine blk_put (cs := #[.int .i64 0, .string (⟨#[]⟩ : ByteArray), .slice none 0 0]) ?_ 0 _ rfl; refine rb_ ?_; exact ab.out) hb); have n4_ := am_ (below_step (b2_ HB.out al.out ao.out) hb); clear ae; clear ak; clear aa; clear ab; clear HB; have ae := n0_; have ak := n1_; have aa := n2_; have ab := n3_; have HB := n4_; clear n0_ n1_ n2_ n3_ n4_; (try clear hb); (try clear hb2); (try clear hk); (try clear hi); have bI := ck_ (v := (.int .i64 an)) aa 0 rfl; have bJ := ck_ (v := (.string ap)) aa 1 rfl; have bK := ck_ (v := (.slice aw ai.length ar)) aa 2 rfl; have bL := blk_frozen aa.out 0; have bM := blk_frozen aa.out 1; have bN := blk_frozen aa.out 2) | (go_at_call 17; (with_reducible refine (spec_IsValidRegex.calls k an ap _ _ ai aJ _ ?side1 ?side2 A20.out).mono ?_); (case side1 => exact rc_ ((Kd.N_reads' ae.out).2.2)); (case side2 => exact (Kd.N_reads' ae.out).2.1); rintro e w26 ⟨rfl, hb⟩; have n0_ := am_ (Kd.N_below (rn_ ae.out) hb); have n1_ := am_ (Kd.N_below (rn_ ak.out) hb); have n2_ := am_ (blk_below (rb_ aa.out) hb); have n3_ := am_ (blk_below (rb_ ab.out) hb); have n4_ := am_ (below_step (b2_ HB.out al.out ao.out) hb); clear ae; clear ak; clear aa; clear ab; clear HB; have ae := n0_; have ak := n1_; have aa := n2_; have ab := n3_; have HB := n4_; clear n0_ n1_ n2_ n3_ n4_; (try clear hb); (try clear hb2); (try clear hk); (try clear hi)))
     go_meet
     case rel => exact ⟨_, (true), (by first | rfl | (simp; done) | (simp [*]; done)), H', ⟨by first | omega | exact Nat.le_refl _⟩, ⟨by refine rn_ ?_; exact Kd.N_mono ae.out (fun _ hk => ⟨hk.1.2, ⟨hk.1.1.2, hk.2⟩⟩)⟩, ⟨by refine rn_ ?_; exact Kd.N_mono ak.out (fun _ hk => ⟨hk.1.1, ⟨hk.1.2, hk.2⟩⟩)⟩, ⟨by refine rb_ ?_; exact aa.out⟩, ⟨by refine rb_ ?_; exact ab.out⟩, ⟨by exact zp48_0_ HB.out al.out ao.out⟩⟩
    ·rw [if_neg c21] at H
     have c21b0 : (aK != aJ) = false := by simpa using c21
     (try (have c21b1 : decide (aK = aJ) = true := by simpa using c21))
     (try (have c21b2 : (aK == aJ) = true := by simpa using c21))
     clear c21
     replace H := Option.bind_eq_some_iff.mp H
     obtain ⟨aN, dl, H⟩ := H
     have A27 := am_ dl
     clear dl
     by_cases c28 : (aN != aK) = true
     ·rw [if_pos c28] at H
      have c28b0 : (aN != aK) = true := c28
      (try (have c28b1 : decide (aN = aK) = false := by simpa using c28))
      (try (have c28b2 : (aN == aK) = false := by simpa using c28))
      (try (have c28b3 : ¬ (aN = aK) := by simpa using c28))
      clear c28
      have H' := am_ H
      clear H
      have em := au.out
      have en := aQ.out
      have bO := ck_ (v := (.int .i64 an)) aa 0 rfl
      have bP := ck_ (v := (.string ap)) aa 1 rfl
      have bQ := ck_ (v := (.slice aw ai.length ar)) aa 2 rfl
      have bR := blk_frozen aa.out 0
      have bS := blk_frozen aa.out 1
      have bT := blk_frozen aa.out 2
      go_wp2_with (first | ((with_reducible refine gate_callee (f := 19) rfl ?_); refine gL_ (some 25) Try.func19 #[.agg #[.int .i64 an, .string ap, .slice aw ai.length ar]] ?_; (with_reducible refine (spec_FormatRegex.calls k an ap _ _ ai aO _ ?side1 ?side2 A18.out).mono ?_); (case side1 => refine (Kd.N_reads' (e := 29) (base := w.heap.size) (ok := fun k_ => (((True ∧ k_ ≠ aj) ∧ some k_ ≠ (.slice ay av.length az : Value).ownBlock) ∧ k_ ≠ ad)) (n := ai.length) (c := ar) ?_).2.2; exact (rn_ (Kd.N_mono (Kd.N_far (p := ⟨ad, 2, none⟩) (Kd.N_far (p := ⟨ad, 1, none⟩) (Kd.N_far (p := ⟨ad, 0, none⟩) (Kd.N_mono ae.out (fun k_ hk => (⟨hk, hk.2⟩ : _ ∧ k_ ≠ ad))) (fun _ hk => hk.2) (.int .i64 ax)) (fun _ hk => hk.2) (.string aA)) (fun _ hk => hk.2) (.slice ay av.length az)) (fun _ h_ => h_.1)))); (case side2 => exact (Kd.N_reads' ae.out).2.1); rintro e w31 ⟨rfl, hb⟩; refine ⟨_, rfl, ?_⟩; have n0_ := am_ (Kd.N_below (rn_ (Kd.N_mono (Kd.N_far (p := ⟨ad, 2, none⟩) (Kd.N_far (p := ⟨ad, 1, none⟩) (Kd.N_far (p := ⟨ad, 0, none⟩) (Kd.N_mono ae.out (fun k_ hk => (⟨hk, hk.2⟩ : _ ∧ k_ ≠ ad))) (fun _ hk => hk.2) (.int .i64 ax)) (fun _ hk => hk.2) (.string aA)) (fun _ hk => hk.2) (.slice ay av.length az)) (fun _ h_ => h_.1))) hb); have n1_ := am_ (Kd.N_below (rn_ (Kd.N_mono (Kd.N_far (p := ⟨ad, 2, none⟩) (Kd.N_far (p := ⟨ad, 1, none⟩) (Kd.N_far (p := ⟨ad, 0, none⟩) (Kd.N_mono ak.out (fun k_ hk => (⟨hk, hk.2⟩ : _ ∧ k_ ≠ ad))) (fun _ hk => hk.2) (.int .i64 ax)) (fun _ hk => hk.2) (.string aA)) (fun _ hk => hk.2) (.slice ay av.length az)) (fun _ h_ => h_.1))) hb); have n2_ := am_ (blk_below (g := aj) (o := .cells #[.int .i64 an, .string ap, .slice aw ai.length ar] 29 (0, 0)) (by refine rb_ ?_; refine blk_far ?_ au.out _; refine rb_ ?_; refine blk_far ?_ au.out _; refine rb_ ?_; refine blk_far ?_ au.out _; refine rb_ ?_; exact aa.out) hb); have n3_ := am_ (blk_below (g := ad) (o := .cells #[.int .i64 ax, .string aA, .slice ay av.length az] 29 (0, 0)) (by refine rb_ ?_; refine blk_put (cs := #[.int .i64 ax, .string aA, .slice none 0 0]) ?_ 2 _ rfl; refine rb_ ?_; refine blk_put (cs := #[.int .i64 ax, .string (⟨#[]⟩ : ByteArray), .slice none 0 0]) ?_ 1 _ rfl; refine rb_ ?_; refine blk_put (cs := #[.int .i64 0, .string (⟨#[]⟩ : ByteArray), .slice none 0 0]) ?_ 0 _ rfl; refine rb_ ?_; exact ab.out) hb); have n4_ := am_ (below_step (b2_ HB.out al.out ao.out) hb); clear ae; clear ak; clear aa; clear ab; clear HB; have ae := n0_; have ak := n1_; have aa := n2_; have ab := n3_; have HB := n4_; clear n0_ n1_ n2_ n3_ n4_; (try clear hb); (try clear hb2); (try clear hk); (try clear hi); have bU := ck_ (v := (.int .i64 an)) aa 0 rfl; have bV := ck_ (v := (.string ap)) aa 1 rfl; have bW := ck_ (v := (.slice aw ai.length ar)) aa 2 rfl; have bX := blk_frozen aa.out 0; have bY := blk_frozen aa.out 1; have bZ := blk_frozen aa.out 2) | (go_at_call 17; (with_reducible refine (spec_IsValidRegex.calls k an ap _ _ ai aJ _ ?side1 ?side2 A20.out).mono ?_); (case side1 => exact rc_ ((Kd.N_reads' ae.out).2.2)); (case side2 => exact (Kd.N_reads' ae.out).2.1); rintro e w33 ⟨rfl, hb⟩; have n0_ := am_ (Kd.N_below (rn_ ae.out) hb); have n1_ := am_ (Kd.N_below (rn_ ak.out) hb); have n2_ := am_ (blk_below (rb_ aa.out) hb); have n3_ := am_ (blk_below (rb_ ab.out) hb); have n4_ := am_ (below_step (b2_ HB.out al.out ao.out) hb); clear ae; clear ak; clear aa; clear ab; clear HB; have ae := n0_; have ak := n1_; have aa := n2_; have ab := n3_; have HB := n4_; clear n0_ n1_ n2_ n3_ n4_; (try clear hb); (try clear hb2); (try clear hk); (try clear hi); have ca := ck_ (v := (.int .i64 an)) aa 0 rfl; have cb := ck_ (v := (.string ap)) aa 1 rfl; have cc := ck_ (v := (.slice aw ai.length ar)) aa 2 rfl; have cd := blk_frozen aa.out 0; have ce := blk_frozen aa.out 1; have cf := blk_frozen aa.out 2) | (go_at_call 18; (with_reducible refine (impl_IsValidRegex.calls k an ap _ _ ai aN _ ?side1 ?side2 A27.out).mono ?_); (case side1 => exact rc_ ((Kd.N_reads' ae.out).2.2)); (case side2 => exact (Kd.N_reads' ae.out).2.1); rintro e w35 ⟨rfl, hb⟩; have n0_ := am_ (Kd.N_below (rn_ ae.out) hb); have n1_ := am_ (Kd.N_below (rn_ ak.out) hb); have n2_ := am_ (blk_below (rb_ aa.out) hb); have n3_ := am_ (blk_below (rb_ ab.out) hb); have n4_ := am_ (below_step (b2_ HB.out al.out ao.out) hb); clear ae; clear ak; clear aa; clear ab; clear HB; have ae := n0_; have ak := n1_; have aa := n2_; have ab := n3_; have HB := n4_; clear n0_ n1_ n2_ n3_ n4_; (try clear hb); (try clear hb2); (try clear hk); (try clear hi)))
      go_meet
      case rel => exact ⟨_, (true), (by first | rfl | (simp; done) | (simp [*]; done)), H', ⟨by first | omega | exact Nat.le_refl _⟩, ⟨by refine rn_ ?_; exact Kd.N_mono ae.out (fun _ hk => ⟨hk.1.2, ⟨hk.1.1.2, hk.2⟩⟩)⟩, ⟨by refine rn_ ?_; exact Kd.N_mono ak.out (fun _ hk => ⟨hk.1.1, ⟨hk.1.2, hk.2⟩⟩)⟩, ⟨by refine rb_ ?_; exact aa.out⟩, ⟨by refine rb_ ?_; exact ab.out⟩, ⟨by exact zp48_0_ HB.out al.out ao.out⟩⟩
     ·rw [if_neg c28] at H
      have c28b0 : (aN != aK) = false := by simpa using c28
      (try (have c28b1 : decide (aN = aK) = true := by simpa using c28))
      (try (have c28b2 : (aN == aK) = true := by simpa using c28))
      clear c28
      by_cases c36 : aK = true
      ·subst c36
       have H1 : ((impl_EqualRegex.f ax aA av an ap ai).bind fun aV => (laws_FnRegexText.j0 k l0 (!aV))) = some r := by rw [if_pos rfl] at H; exact H
       clear H
       have H := H1
       clear H1
       replace H := Option.bind_eq_some_iff.mp H
       obtain ⟨aV, dm, H⟩ := H
       replace H : (laws_FnRegexText.j0 k l0 (!aV)) = some r := H
       have A37 := am_ dm
       clear dm
       have H' := am_ H
       clear H
       have eo := au.out
       have ep := aQ.out
       have cg := ck_ (v := (.int .i64 an)) aa 0 rfl
       have ch := ck_ (v := (.string ap)) aa 1 rfl
       have ci := ck_ (v := (.slice aw ai.length ar)) aa 2 rfl
       have cj := blk_frozen aa.out 0
       have ck := blk_frozen aa.out 1
       have cl := blk_frozen aa.out 2
       go_wp2_with (first | ((with_reducible refine gate_callee (f := 19) rfl ?_); refine gL_ (some 25) Try.func19 #[.agg #[.int .i64 an, .string ap, .slice aw ai.length ar]] ?_; (with_reducible refine (spec_FormatRegex.calls k an ap _ _ ai aO _ ?side1 ?side2 A18.out).mono ?_); (case side1 => refine (Kd.N_reads' (e := 29) (base := w.heap.size) (ok := fun k_ => (((True ∧ k_ ≠ aj) ∧ some k_ ≠ (.slice ay av.length az : Value).ownBlock) ∧ k_ ≠ ad)) (n := ai.length) (c := ar) ?_).2.2; exact (rn_ (Kd.N_mono (Kd.N_far (p := ⟨ad, 2, none⟩) (Kd.N_far (p := ⟨ad, 1, none⟩) (Kd.N_far (p := ⟨ad, 0, none⟩) (Kd.N_mono ae.out (fun k_ hk => (⟨hk, hk.2⟩ : _ ∧ k_ ≠ ad))) (fun _ hk => hk.2) (.int .i64 ax)) (fun _ hk => hk.2) (.string aA)) (fun _ hk => hk.2) (.slice ay av.length az)) (fun _ h_ => h_.1)))); (case side2 => exact (Kd.N_reads' ae.out).2.1); rintro e w40 ⟨rfl, hb⟩; refine ⟨_, rfl, ?_⟩; have n0_ := am_ (Kd.N_below (rn_ (Kd.N_mono (Kd.N_far (p := ⟨ad, 2, none⟩) (Kd.N_far (p := ⟨ad, 1, none⟩) (Kd.N_far (p := ⟨ad, 0, none⟩) (Kd.N_mono ae.out (fun k_ hk => (⟨hk, hk.2⟩ : _ ∧ k_ ≠ ad))) (fun _ hk => hk.2) (.int .i64 ax)) (fun _ hk => hk.2) (.string aA)) (fun _ hk => hk.2) (.slice ay av.length az)) (fun _ h_ => h_.1))) hb); have n1_ := am_ (Kd.N_below (rn_ (Kd.N_mono (Kd.N_far (p := ⟨ad, 2, none⟩) (Kd.N_far (p := ⟨ad, 1, none⟩) (Kd.N_far (p := ⟨ad, 0, none⟩) (Kd.N_mono ak.out (fun k_ hk => (⟨hk, hk.2⟩ : _ ∧ k_ ≠ ad))) (fun _ hk => hk.2) (.int .i64 ax)) (fun _ hk => hk.2) (.string aA)) (fun _ hk => hk.2) (.slice ay av.length az)) (fun _ h_ => h_.1))) hb); have n2_ := am_ (blk_below (g := aj) (o := .cells #[.int .i64 an, .string ap, .slice aw ai.length ar] 29 (0, 0)) (by refine rb_ ?_; refine blk_far ?_ au.out _; refine rb_ ?_; refine blk_far ?_ au.out _; refine rb_ ?_; refine blk_far ?_ au.out _; refine rb_ ?_; exact aa.out) hb); have n3_ := am_ (blk_below (g := ad) (o := .cells #[.int .i64 ax, .string aA, .slice ay av.length az] 29 (0, 0)) (by refine rb_ ?_; refine blk_put (cs := #[.int .i64 ax, .string aA, .slice none 0 0]) ?_ 2 _ rfl; refine rb_ ?_; refine blk_put (cs := #[.int .i64 ax, .string (⟨#[]⟩ : ByteArray), .slice none 0 0]) ?_ 1 _ rfl; refine rb_ ?_; refine blk_put (cs := #[.int .i64 0, .string (⟨#[]⟩ : ByteArray), .slice none 0 0]) ?_ 0 _ rfl; refine rb_ ?_; exact ab.out) hb); have n4_ := am_ (below_step (b2_ HB.out al.out ao.out) hb); clear ae; clear ak; clear aa; clear ab; clear HB; have ae := n0_; have ak := n1_; have aa := n2_; have ab := n3_; have HB := n4_; clear n0_ n1_ n2_ n3_ n4_; (try clear hb); (try clear hb2); (try clear hk); (try clear hi); have cm := ck_ (v := (.int .i64 an)) aa 0 rfl; have cn := ck_ (v := (.string ap)) aa 1 rfl; have co := ck_ (v := (.slice aw ai.length ar)) aa 2 rfl; have cp := blk_frozen aa.out 0; have cq := blk_frozen aa.out 1; have cr := blk_frozen aa.out 2) | (go_at_call 17; (with_reducible refine (spec_IsValidRegex.calls k an ap _ _ ai aJ _ ?side1 ?side2 A20.out).mono ?_); (case side1 => exact rc_ ((Kd.N_reads' ae.out).2.2)); (case side2 => exact (Kd.N_reads' ae.out).2.1); rintro e w42 ⟨rfl, hb⟩; have n0_ := am_ (Kd.N_below (rn_ ae.out) hb); have n1_ := am_ (Kd.N_below (rn_ ak.out) hb); have n2_ := am_ (blk_below (rb_ aa.out) hb); have n3_ := am_ (blk_below (rb_ ab.out) hb); have n4_ := am_ (below_step (b2_ HB.out al.out ao.out) hb); clear ae; clear ak; clear aa; clear ab; clear HB; have ae := n0_; have ak := n1_; have aa := n2_; have ab := n3_; have HB := n4_; clear n0_ n1_ n2_ n3_ n4_; (try clear hb); (try clear hb2); (try clear hk); (try clear hi); have ct := ck_ (v := (.int .i64 an)) aa 0 rfl; have cu := ck_ (v := (.string ap)) aa 1 rfl; have cv := ck_ (v := (.slice aw ai.length ar)) aa 2 rfl; have cw := blk_frozen aa.out 0; have cx := blk_frozen aa.out 1; have cy := blk_frozen aa.out 2) | (go_at_call 18; (with_reducible refine (impl_IsValidRegex.calls k an ap _ _ ai aN _ ?side1 ?side2 A27.out).mono ?_); (case side1 => exact rc_ ((Kd.N_reads' ae.out).2.2)); (case side2 => exact (Kd.N_reads' ae.out).2.1); rintro e w44 ⟨rfl, hb⟩; have n0_ := am_ (Kd.N_below (rn_ ae.out) hb); have n1_ := am_ (Kd.N_below (rn_ ak.out) hb); have n2_ := am_ (blk_below (rb_ aa.out) hb); have n3_ := am_ (blk_below (rb_ ab.out) hb); have n4_ := am_ (below_step (b2_ HB.out al.out ao.out) hb); clear ae; clear ak; clear aa; clear ab; clear HB; have ae := n0_; have ak := n1_; have aa := n2_; have ab := n3_; have HB := n4_; clear n0_ n1_ n2_ n3_ n4_; (try clear hb); (try clear hb2); (try clear hk); (try clear hi); have cz := ck_ (v := (.int .i64 ax)) ab 0 rfl; have cA := ck_ (v := (.string aA)) ab 1 rfl; have cB := ck_ (v := (.slice ay av.length az)) ab 2 rfl; have cC := blk_frozen ab.out 0; have cD := blk_frozen ab.out 1; have cE := blk_frozen ab.out 2; have cF := ck_ (v := (.int .i64 an)) aa 0 rfl; have cG := ck_ (v := (.string ap)) aa 1 rfl; have cH := ck_ (v := (.slice aw ai.length ar)) aa 2 rfl; have cI := blk_frozen aa.out 0; have cJ := blk_frozen aa.out 1; have cK := blk_frozen aa.out 2) | (go_at_call 15; (with_reducible refine (impl_EqualRegex.calls ax aA _ _ av an ap _ _ ai aV _ ?side1 ?side2 ?side3 ?side4 A37.out).mono ?_); (case side1 => exact rc_ ((Kd.N_reads' ak.out).2.2)); (case side2 => exact (Kd.N_reads' ak.out).2.1); (case side3 => exact rc_ ((Kd.N_reads' ae.out).2.2)); (case side4 => exact (Kd.N_reads' ae.out).2.1); rintro e w47 ⟨rfl, hb⟩; have n0_ := am_ (Kd.N_below (rn_ ae.out) hb); have n1_ := am_ (Kd.N_below (rn_ ak.out) hb); have n2_ := am_ (blk_below (rb_ aa.out) hb); have n3_ := am_ (blk_below (rb_ ab.out) hb); have n4_ := am_ (below_step (b2_ HB.out al.out ao.out) hb); clear ae; clear ak; clear aa; clear ab; clear HB; have ae := n0_; have ak := n1_; have aa := n2_; have ab := n3_; have HB := n4_; clear n0_ n1_ n2_ n3_ n4_; (try clear hb); (try clear hb2); (try clear hk); (try clear hi)))
       go_meet
       case rel => exact ⟨_, (!aV), (by first | rfl | (simp; done) | (simp [*]; done)), H', ⟨by first | omega | exact Nat.le_refl _⟩, ⟨by refine rn_ ?_; exact Kd.N_mono ae.out (fun _ hk => ⟨hk.1.2, ⟨hk.1.1.2, hk.2⟩⟩)⟩, ⟨by refine rn_ ?_; exact Kd.N_mono ak.out (fun _ hk => ⟨hk.1.1, ⟨hk.1.2, hk.2⟩⟩)⟩, ⟨by refine rb_ ?_; exact aa.out⟩, ⟨by refine rb_ ?_; exact ab.out⟩, ⟨by exact zp48_0_ HB.out al.out ao.out⟩⟩
      ·replace c36 := Bool.eq_false_iff.mpr c36
       subst c36
       have H1 : (laws_FnRegexText.j0 k l0 false) = some r := by rw [if_neg (show ¬ (false = true) by decide)] at H; exact H
       clear H
       have H := H1
       clear H1
       have H' := am_ H
       clear H
       have eq := au.out
       have er := aQ.out
       have cL := ck_ (v := (.int .i64 an)) aa 0 rfl
       have cM := ck_ (v := (.string ap)) aa 1 rfl
       have cN := ck_ (v := (.slice aw ai.length ar)) aa 2 rfl
       have cO := blk_frozen aa.out 0
       have cP := blk_frozen aa.out 1
       have cQ := blk_frozen aa.out 2
       go_wp2_with (first | ((with_reducible refine gate_callee (f := 19) rfl ?_); refine gL_ (some 25) Try.func19 #[.agg #[.int .i64 an, .string ap, .slice aw ai.length ar]] ?_; (with_reducible refine (spec_FormatRegex.calls k an ap _ _ ai aO _ ?side1 ?side2 A18.out).mono ?_); (case side1 => refine (Kd.N_reads' (e := 29) (base := w.heap.size) (ok := fun k_ => (((True ∧ k_ ≠ aj) ∧ some k_ ≠ (.slice ay av.length az : Value).ownBlock) ∧ k_ ≠ ad)) (n := ai.length) (c := ar) ?_).2.2; exact (rn_ (Kd.N_mono (Kd.N_far (p := ⟨ad, 2, none⟩) (Kd.N_far (p := ⟨ad, 1, none⟩) (Kd.N_far (p := ⟨ad, 0, none⟩) (Kd.N_mono ae.out (fun k_ hk => (⟨hk, hk.2⟩ : _ ∧ k_ ≠ ad))) (fun _ hk => hk.2) (.int .i64 ax)) (fun _ hk => hk.2) (.string aA)) (fun _ hk => hk.2) (.slice ay av.length az)) (fun _ h_ => h_.1)))); (case side2 => exact (Kd.N_reads' ae.out).2.1); rintro e w50 ⟨rfl, hb⟩; refine ⟨_, rfl, ?_⟩; have n0_ := am_ (Kd.N_below (rn_ (Kd.N_mono (Kd.N_far (p := ⟨ad, 2, none⟩) (Kd.N_far (p := ⟨ad, 1, none⟩) (Kd.N_far (p := ⟨ad, 0, none⟩) (Kd.N_mono ae.out (fun k_ hk => (⟨hk, hk.2⟩ : _ ∧ k_ ≠ ad))) (fun _ hk => hk.2) (.int .i64 ax)) (fun _ hk => hk.2) (.string aA)) (fun _ hk => hk.2) (.slice ay av.length az)) (fun _ h_ => h_.1))) hb); have n1_ := am_ (Kd.N_below (rn_ (Kd.N_mono (Kd.N_far (p := ⟨ad, 2, none⟩) (Kd.N_far (p := ⟨ad, 1, none⟩) (Kd.N_far (p := ⟨ad, 0, none⟩) (Kd.N_mono ak.out (fun k_ hk => (⟨hk, hk.2⟩ : _ ∧ k_ ≠ ad))) (fun _ hk => hk.2) (.int .i64 ax)) (fun _ hk => hk.2) (.string aA)) (fun _ hk => hk.2) (.slice ay av.length az)) (fun _ h_ => h_.1))) hb); have n2_ := am_ (blk_below (g := aj) (o := .cells #[.int .i64 an, .string ap, .slice aw ai.length ar] 29 (0, 0)) (by refine rb_ ?_; refine blk_far ?_ au.out _; refine rb_ ?_; refine blk_far ?_ au.out _; refine rb_ ?_; refine blk_far ?_ au.out _; refine rb_ ?_; exact aa.out) hb); have n3_ := am_ (blk_below (g := ad) (o := .cells #[.int .i64 ax, .string aA, .slice ay av.length az] 29 (0, 0)) (by refine rb_ ?_; refine blk_put (cs := #[.int .i64 ax, .string aA, .slice none 0 0]) ?_ 2 _ rfl; refine rb_ ?_; refine blk_put (cs := #[.int .i64 ax, .string (⟨#[]⟩ : ByteArray), .slice none 0 0]) ?_ 1 _ rfl; refine rb_ ?_; refine blk_put (cs := #[.int .i64 0, .string (⟨#[]⟩ : ByteArray), .slice none 0 0]) ?_ 0 _ rfl; refine rb_ ?_; exact ab.out) hb); have n4_ := am_ (below_step (b2_ HB.out al.out ao.out) hb); clear ae; clear ak; clear aa; clear ab; clear HB; have ae := n0_; have ak := n1_; have aa := n2_; have ab := n3_; have HB := n4_; clear n0_ n1_ n2_ n3_ n4_; (try clear hb); (try clear hb2); (try clear hk); (try clear hi); have cR := ck_ (v := (.int .i64 an)) aa 0 rfl; have cS := ck_ (v := (.string ap)) aa 1 rfl; have cT := ck_ (v := (.slice aw ai.length ar)) aa 2 rfl; have cU := blk_frozen aa.out 0; have cV := blk_frozen aa.out 1; have cW := blk_frozen aa.out 2) | (go_at_call 17; (with_reducible refine (spec_IsValidRegex.calls k an ap _ _ ai aJ _ ?side1 ?side2 A20.out).mono ?_); (case side1 => exact rc_ ((Kd.N_reads' ae.out).2.2)); (case side2 => exact (Kd.N_reads' ae.out).2.1); rintro e w52 ⟨rfl, hb⟩; have n0_ := am_ (Kd.N_below (rn_ ae.out) hb); have n1_ := am_ (Kd.N_below (rn_ ak.out) hb); have n2_ := am_ (blk_below (rb_ aa.out) hb); have n3_ := am_ (blk_below (rb_ ab.out) hb); have n4_ := am_ (below_step (b2_ HB.out al.out ao.out) hb); clear ae; clear ak; clear aa; clear ab; clear HB; have ae := n0_; have ak := n1_; have aa := n2_; have ab := n3_; have HB := n4_; clear n0_ n1_ n2_ n3_ n4_; (try clear hb); (try clear hb2); (try clear hk); (try clear hi); have cX := ck_ (v := (.int .i64 an)) aa 0 rfl; have cY := ck_ (v := (.string ap)) aa 1 rfl; have cZ := ck_ (v := (.slice aw ai.length ar)) aa 2 rfl; have da := blk_frozen aa.out 0; have db := blk_frozen aa.out 1; have dc := blk_frozen aa.out 2) | (go_at_call 18; (with_reducible refine (impl_IsValidRegex.calls k an ap _ _ ai aN _ ?side1 ?side2 A27.out).mono ?_); (case side1 => exact rc_ ((Kd.N_reads' ae.out).2.2)); (case side2 => exact (Kd.N_reads' ae.out).2.1); rintro e w54 ⟨rfl, hb⟩; have n0_ := am_ (Kd.N_below (rn_ ae.out) hb); have n1_ := am_ (Kd.N_below (rn_ ak.out) hb); have n2_ := am_ (blk_below (rb_ aa.out) hb); have n3_ := am_ (blk_below (rb_ ab.out) hb); have n4_ := am_ (below_step (b2_ HB.out al.out ao.out) hb); clear ae; clear ak; clear aa; clear ab; clear HB; have ae := n0_; have ak := n1_; have aa := n2_; have ab := n3_; have HB := n4_; clear n0_ n1_ n2_ n3_ n4_; (try clear hb); (try clear hb2); (try clear hk); (try clear hi)))
       go_meet
       case rel => exact ⟨_, (false), (by first | rfl | (simp; done) | (simp [*]; done)), H', ⟨by first | omega | exact Nat.le_refl _⟩, ⟨by refine rn_ ?_; exact Kd.N_mono ae.out (fun _ hk => ⟨hk.1.2, ⟨hk.1.1.2, hk.2⟩⟩)⟩, ⟨by refine rn_ ?_; exact Kd.N_mono ak.out (fun _ hk => ⟨hk.1.1, ⟨hk.1.2, hk.2⟩⟩)⟩, ⟨by refine rb_ ?_; exact aa.out⟩, ⟨by refine rb_ ?_; exact ab.out⟩, ⟨by exact zp48_0_ HB.out al.out ao.out⟩⟩
   ·rw [if_neg c19] at H
    have c19b0 : (aM.toList == aO.toList) = false := beq_eq_false_iff_ne.mpr c19
    have c19b1 : (aM.toList != aO.toList) = true := bne_iff_ne.mpr c19
    (first | rw [c19b0] | (simp only [i64_w, i32_w]; rw [c19b0]) | skip)
    have H' := am_ H
    clear H
    have es := au.out
    have et := aQ.out
    have dd := ck_ (v := (.int .i64 an)) aa 0 rfl
    have de := ck_ (v := (.string ap)) aa 1 rfl
    have df := ck_ (v := (.slice aw ai.length ar)) aa 2 rfl
    have dg := blk_frozen aa.out 0
    have dh := blk_frozen aa.out 1
    have di := blk_frozen aa.out 2
    go_wp2_with (first | ((with_reducible refine gate_callee (f := 19) rfl ?_); refine gL_ (some 25) Try.func19 #[.agg #[.int .i64 an, .string ap, .slice aw ai.length ar]] ?_; (with_reducible refine (spec_FormatRegex.calls k an ap _ _ ai aO _ ?side1 ?side2 A18.out).mono ?_); (case side1 => refine (Kd.N_reads' (e := 29) (base := w.heap.size) (ok := fun k_ => (((True ∧ k_ ≠ aj) ∧ some k_ ≠ (.slice ay av.length az : Value).ownBlock) ∧ k_ ≠ ad)) (n := ai.length) (c := ar) ?_).2.2; exact (rn_ (Kd.N_mono (Kd.N_far (p := ⟨ad, 2, none⟩) (Kd.N_far (p := ⟨ad, 1, none⟩) (Kd.N_far (p := ⟨ad, 0, none⟩) (Kd.N_mono ae.out (fun k_ hk => (⟨hk, hk.2⟩ : _ ∧ k_ ≠ ad))) (fun _ hk => hk.2) (.int .i64 ax)) (fun _ hk => hk.2) (.string aA)) (fun _ hk => hk.2) (.slice ay av.length az)) (fun _ h_ => h_.1)))); (case side2 => exact (Kd.N_reads' ae.out).2.1); rintro e w57 ⟨rfl, hb⟩; refine ⟨_, rfl, ?_⟩; have n0_ := am_ (Kd.N_below (rn_ (Kd.N_mono (Kd.N_far (p := ⟨ad, 2, none⟩) (Kd.N_far (p := ⟨ad, 1, none⟩) (Kd.N_far (p := ⟨ad, 0, none⟩) (Kd.N_mono ae.out (fun k_ hk => (⟨hk, hk.2⟩ : _ ∧ k_ ≠ ad))) (fun _ hk => hk.2) (.int .i64 ax)) (fun _ hk => hk.2) (.string aA)) (fun _ hk => hk.2) (.slice ay av.length az)) (fun _ h_ => h_.1))) hb); have n1_ := am_ (Kd.N_below (rn_ (Kd.N_mono (Kd.N_far (p := ⟨ad, 2, none⟩) (Kd.N_far (p := ⟨ad, 1, none⟩) (Kd.N_far (p := ⟨ad, 0, none⟩) (Kd.N_mono ak.out (fun k_ hk => (⟨hk, hk.2⟩ : _ ∧ k_ ≠ ad))) (fun _ hk => hk.2) (.int .i64 ax)) (fun _ hk => hk.2) (.string aA)) (fun _ hk => hk.2) (.slice ay av.length az)) (fun _ h_ => h_.1))) hb); have n2_ := am_ (blk_below (g := aj) (o := .cells #[.int .i64 an, .string ap, .slice aw ai.length ar] 29 (0, 0)) (by refine rb_ ?_; refine blk_far ?_ au.out _; refine rb_ ?_; refine blk_far ?_ au.out _; refine rb_ ?_; refine blk_far ?_ au.out _; refine rb_ ?_; exact aa.out) hb); have n3_ := am_ (blk_below (g := ad) (o := .cells #[.int .i64 ax, .string aA, .slice ay av.length az] 29 (0, 0)) (by refine rb_ ?_; refine blk_put (cs := #[.int .i64 ax, .string aA, .slice none 0 0]) ?_ 2 _ rfl; refine rb_ ?_; refine blk_put (cs := #[.int .i64 ax, .string (⟨#[]⟩ : ByteArray), .slice none 0 0]) ?_ 1 _ rfl; refine rb_ ?_; refine blk_put (cs := #[.int .i64 0, .string (⟨#[]⟩ : ByteArray), .slice none 0 0]) ?_ 0 _ rfl; refine rb_ ?_; exact ab.out) hb); have n4_ := am_ (below_step (b2_ HB.out al.out ao.out) hb); clear ae; clear ak; clear aa; clear ab; clear HB; have ae := n0_; have ak := n1_; have aa := n2_; have ab := n3_; have HB := n4_; clear n0_ n1_ n2_ n3_ n4_; (try clear hb); (try clear hb2); (try clear hk); (try clear hi)))
    go_meet
    case rel => exact ⟨_, (true), (by first | rfl | (simp; done) | (simp [*]; done)), H', ⟨by first | omega | exact Nat.le_refl _⟩, ⟨by refine rn_ ?_; exact Kd.N_mono ae.out (fun _ hk => ⟨hk.1.2, ⟨hk.1.1.2, hk.2⟩⟩)⟩, ⟨by refine rn_ ?_; exact Kd.N_mono ak.out (fun _ hk => ⟨hk.1.1, ⟨hk.1.2, hk.2⟩⟩)⟩, ⟨by refine rb_ ?_; exact aa.out⟩, ⟨by refine rb_ ?_; exact ab.out⟩, ⟨by exact zp48_0_ HB.out al.out ao.out⟩⟩
  case rest =>
   clear HC7
   try clear c1
   try clear c2
   try clear p2
   try clear c3
   try clear c4
   try clear c5
   try clear c10
   try clear c15
   try clear c19
   try clear c19b0
   try clear c19b1
   try clear c20
   try clear c21
   try clear c21b0
   try clear c21b1
   try clear c21b2
   try clear c22
   try clear c28
   try clear c28b0
   try clear c28b1
   try clear c28b2
   try clear c29
   try clear c31
   try clear c32
   try clear c36
   try clear c38
   try clear c48
   try clear c55
   try clear bp
   try clear bq
   try clear br
   try clear bv
   try clear bw
   try clear bx
   try clear bC
   try clear bD
   try clear bE
   try clear bI
   try clear bJ
   try clear bK
   try clear bO
   try clear bP
   try clear bQ
   try clear bU
   try clear bV
   try clear bW
   try clear ca
   try clear cb
   try clear cc
   try clear cg
   try clear ch
   try clear ci
   try clear cm
   try clear cn
   try clear co
   try clear ct
   try clear cu
   try clear cv
   try clear cz
   try clear cA
   try clear cB
   try clear cF
   try clear cG
   try clear cH
   try clear cL
   try clear cM
   try clear cN
   try clear cR
   try clear cS
   try clear cT
   try clear cX
   try clear cY
   try clear cZ
   try clear dd
   try clear de
   try clear df
   try clear bs
   try clear bt
   try clear bu
   try clear bz
   try clear bA
   try clear bB
   try clear bF
   try clear bG
   try clear bH
   try clear bL
   try clear bM
   try clear bN
   try clear bR
   try clear bS
   try clear bT
   try clear bX
   try clear bY
   try clear bZ
   try clear cd
   try clear ce
   try clear cf
   try clear cj
   try clear ck
   try clear cl
   try clear cp
   try clear cq
   try clear cr
   try clear cw
   try clear cx
   try clear cy
   try clear cC
   try clear cD
   try clear cE
   try clear cI
   try clear cJ
   try clear cK
   try clear cO
   try clear cP
   try clear cQ
   try clear cU
   try clear cV
   try clear cW
   try clear da
   try clear db
   try clear dc
   try clear dg
   try clear dh
   try clear di
   obtain ⟨kq, bm, rfl, HA, HJ6, ag, ah, aa, ab, HB⟩ := hcut
   cases kq with
   | zero => exact absurd HA.out (by simp [laws_FnRegexText.j0])
   | succ kj6 =>
    have H := HA.out
    clear HA
    simp only [laws_FnRegexText.j0] at H
    by_cases c58 : bm = true
    ·subst c58
     have H1 : (some false) = some r := by rw [if_pos rfl] at H; exact H
     clear H
     have H := H1
     clear H1
     obtain rfl := Option.some.inj H
     exact absurd hR (by decide)
    ·replace c58 := Bool.eq_false_iff.mpr c58
     subst c58
     have H1 : ((spec_DrawParseRegex.f kj6 l0).bind fun aI => ((impl_ParseRegex.f aI).bind fun bt927 => ((spec_ParseRegex.f aI).bind fun bt934 => (if (bt927.2.2.2 == bt934.2.2.2) = true then (if bt927.2.2.2 = true then ((impl_FormatRegex.f kj6 bt927.1 bt927.2.1 bt927.2.2.1).bind fun be => (some (be.toList == aI.toList))) else (some true)) else (some false))))) = some r := by rw [if_neg (show ¬ (false = true) by decide)] at H; exact H
     clear H
     have H := H1
     clear H1
     replace H := Option.bind_eq_some_iff.mp H
     obtain ⟨aI, dn, H⟩ := H
     have A59 := am_ dn
     clear dn
     replace H := Option.bind_eq_some_iff.mp H
     obtain ⟨⟨aE, aF, aG, aZ⟩, dp, H⟩ := H
     have A60 := am_ dp
     clear dp
     replace H := Option.bind_eq_some_iff.mp H
     obtain ⟨⟨aX, ba, bb, aY⟩, dq, H⟩ := H
     have A61 := am_ dq
     clear dq
     by_cases c62 : (aZ == aY) = true
     ·rw [if_pos c62] at H
      have c62b0 : (aZ == aY) = true := c62
      (try (have c62b1 : decide (aZ = aY) = true := by simpa using c62))
      (try (have c62b2 : (aZ == aY) = true := by simpa using c62))
      clear c62
      by_cases c63 : aZ = true
      ·subst c63
       have H1 : ((impl_FormatRegex.f kj6 aE aF aG).bind fun be => (some (be.toList == aI.toList))) = some r := by rw [if_pos rfl] at H; exact H
       clear H
       have H := H1
       clear H1
       replace H := Option.bind_eq_some_iff.mp H
       obtain ⟨be, dr, H⟩ := H
       replace H : (some (be.toList == aI.toList)) = some r := H
       have A64 := am_ dr
       clear dr
       obtain rfl := Option.some.inj H
       simp only [Option.some.injEq, Prod.mk.injEq] at H
       obtain ⟨rfl⟩ := H
       go_wp2_with (first | ((with_reducible refine gate_callee (f := 33) rfl ?_); refine gL_ (some 49) Try.func33 #[.slice A0 l0.length c0] ?_; (with_reducible refine (spec_DrawParseRegex.calls kj6 _ _ l0 aI _ ?side1 ?side2 A59.out).mono ?_); (case side1 => exact rc_ (Kd.C_below HR0.out HB.out)); (case side2 => exact HC0.out); rintro e w65 ⟨rfl, hb⟩; refine ⟨_, rfl, ?_⟩; have n0_ := am_ (Kd.N_below (rn_ ag.out) hb); have n1_ := am_ (Kd.N_below (rn_ ah.out) hb); have n2_ := am_ (blk_below (rb_ aa.out) hb); have n3_ := am_ (blk_below (rb_ ab.out) hb); have n4_ := am_ (below_step (b2_ HB.out al.out ao.out) hb); clear ag; clear ah; clear aa; clear ab; clear HB; have ag := n0_; have ah := n1_; have aa := n2_; have ab := n3_; have HB := n4_; clear n0_ n1_ n2_ n3_ n4_; (try clear hb); (try clear hb2); (try clear hk); (try clear hi)) | ((with_reducible refine gate_callee (f := 22) rfl ?_); refine gL_ (some 52) Try.func22 #[.string aI] ?_; (with_reducible refine (impl_ParseRegex.calls aI aE aF aG true _ A60.out).mono ?_); rintro e w66 ⟨dw, rfl, ho0, hb⟩; refine ⟨_, rfl, ?_⟩; have n0_ := am_ (Kd.N_elder' (rn_ ag.out) (by first | exact Kd.N_base ho0 | exact Kd.R_base ho0) hb); have n1_ := am_ (Kd.N_elder' (rn_ ah.out) (by first | exact Kd.N_base ho0 | exact Kd.R_base ho0) hb); have n2_ := am_ (Kd.N_lower (Kd.N_mono (ok' := fun k_ => some k_ ≠ (.slice aw ai.length ar : Value).ownBlock ∧ some k_ ≠ (.slice ay av.length az : Value).ownBlock ∧ k_ ≠ aj ∧ k_ ≠ ad) (Kd.R_N (Kd.R_bound ho0)) (fun k_ hk_ => ⟨(Kd.fresh' (Kd.N_lt (rn_ ag.out)) k_ hk_.2.1), (Kd.fresh' (Kd.N_lt (rn_ ah.out)) k_ hk_.2.1), (Kd.freshB (g := aj) (o := .cells #[.int .i64 an, .string ap, .slice aw ai.length ar] 29 (0, 0)) (rb_ aa.out) k_ hk_.2.1), (Kd.freshB (g := ad) (o := .cells #[.int .i64 ax, .string aA, .slice ay av.length az] 29 (0, 0)) (rb_ ab.out) k_ hk_.2.1)⟩)) (below_size (b2_ HB.out al.out ao.out))); have n3_ := am_ (blk_below (rb_ aa.out) hb); have n4_ := am_ (blk_below (rb_ ab.out) hb); have n5_ := am_ (below_step (b2_ HB.out al.out ao.out) hb); clear ag; clear ah; clear aa; clear ab; clear HB; have ag := n0_; have ah := n1_; have aB := n2_; have aa := n3_; have ab := n4_; have HB := n5_; clear n0_ n1_ n2_ n3_ n4_ n5_; (try clear hb); (try clear hb2); (try clear hk); (try clear hi); (try clear ho0)) | ((with_reducible refine gate_dst (N := 8) rfl ?_); refine box_event ?hg (N := 8) ?hd (cs := #[.int .i64 0, .string (⟨#[]⟩ : ByteArray), .slice none 0 0]) (t := 29) ?hr ?_; (case hd => rfl); (case hg => rfl); (case hr => first | (go_simp; done) | (go_simp; rfl)); intro af hg w67 hbox hb; have n0_ := am_ (Kd.N_below (Kd.N_elderB (rn_ ag.out) af (Nat.le_of_eq hg.symm)) hb); have n1_ := am_ (Kd.N_below (Kd.N_elderB (rn_ ah.out) af (Nat.le_of_eq hg.symm)) hb); have n2_ := am_ (Kd.N_below (Kd.N_elderB (rn_ aB.out) af (Nat.le_of_eq hg.symm)) hb); have n3_ := am_ (blk_below (rb_ aa.out) hb); have n4_ := am_ (blk_below (rb_ ab.out) hb); have n5_ := am_ (below_step (b2_ HB.out al.out ao.out) hb); have n6_ := am_ (hbox); have n7_ := am_ ((by rw [hg]; exact (below_size (b2_ HB.out al.out ao.out)) : w.heap.size ≤ af)); have n8_ := am_ ((by rw [hg]; exact (below_size (b2_ HB.out al.out ao.out)) : w.heap.size ≤ af)); have n9_ := am_ ((by rw [hg]; exact Nat.ne_of_lt (blk_lt (rb_ aa.out)) : aj ≠ af)); have n10_ := am_ ((by rw [hg]; exact Nat.ne_of_gt (blk_lt (rb_ aa.out)) : af ≠ aj)); have n11_ := am_ ((by rw [hg]; exact Nat.ne_of_lt (blk_lt (rb_ ab.out)) : ad ≠ af)); have n12_ := am_ ((by rw [hg]; exact Nat.ne_of_gt (blk_lt (rb_ ab.out)) : af ≠ ad)); clear ag; clear ah; clear aB; clear aa; clear ab; clear HB; have ag := n0_; have ah := n1_; have aB := n2_; have aa := n3_; have ab := n4_; have HB := n5_; have aq := n6_; have ds := n7_; have aL := n8_; have aC := n9_; have bf := n10_; have aD := n11_; have bg := n12_; clear n0_ n1_ n2_ n3_ n4_ n5_ n6_ n7_ n8_ n9_ n10_ n11_ n12_; clear hb hbox hg; have eu := bf.out; have ev := aC.out; have ew := bg.out; have ex := aD.out; have dC := ck_ (v := (.int .i64 0)) aq 0 rfl; have dD := ck_ (v := (.string (⟨#[]⟩ : ByteArray))) aq 1 rfl; have dE := ck_ (v := (.slice none 0 0)) aq 2 rfl; have dF := blk_frozen aq.out 0; have dG := blk_frozen aq.out 1; have dH := blk_frozen aq.out 2; obtain ⟨aW, aU, dx⟩ := Kd.N_slice aB.out; subst dx) | ((with_reducible refine gate_callee (f := 21) rfl ?_); refine gL_ (some 57) Try.func21 #[.string aI] ?_; (with_reducible refine (spec_ParseRegex.calls aI aX ba bb aY _ A61.out).mono ?_); rintro e w72 ⟨dy, rfl, ho0, hb⟩; refine ⟨_, rfl, ?_⟩; have n0_ := am_ (Kd.N_elder' (rn_ (Kd.N_mono (Kd.N_far (p := ⟨af, 2, none⟩) (Kd.N_far (p := ⟨af, 1, none⟩) (Kd.N_far (p := ⟨af, 0, none⟩) (Kd.N_mono ag.out (fun k_ hk => (⟨hk, hk.2⟩ : _ ∧ k_ ≠ af))) (fun _ hk => hk.2) (.int .i64 aE)) (fun _ hk => hk.2) (.string aF)) (fun _ hk => hk.2) (.slice aW aG.length aU)) (fun _ h_ => h_.1))) (by first | exact Kd.N_base ho0 | exact Kd.R_base ho0) hb); have n1_ := am_ (Kd.N_elder' (rn_ (Kd.N_mono (Kd.N_far (p := ⟨af, 2, none⟩) (Kd.N_far (p := ⟨af, 1, none⟩) (Kd.N_far (p := ⟨af, 0, none⟩) (Kd.N_mono ah.out (fun k_ hk => (⟨hk, hk.2⟩ : _ ∧ k_ ≠ af))) (fun _ hk => hk.2) (.int .i64 aE)) (fun _ hk => hk.2) (.string aF)) (fun _ hk => hk.2) (.slice aW aG.length aU)) (fun _ h_ => h_.1))) (by first | exact Kd.N_base ho0 | exact Kd.R_base ho0) hb); have n2_ := am_ (Kd.N_elder' (rn_ (Kd.N_mono (Kd.N_far (p := ⟨af, 2, none⟩) (Kd.N_far (p := ⟨af, 1, none⟩) (Kd.N_far (p := ⟨af, 0, none⟩) (Kd.N_mono aB.out (fun k_ hk => (⟨hk, hk.2⟩ : _ ∧ k_ ≠ af))) (fun _ hk => hk.2) (.int .i64 aE)) (fun _ hk => hk.2) (.string aF)) (fun _ hk => hk.2) (.slice aW aG.length aU)) (fun _ h_ => h_.1))) (by first | exact Kd.N_base ho0 | exact Kd.R_base ho0) hb); have n3_ := am_ (Kd.N_lower (Kd.N_mono (ok' := fun k_ => some k_ ≠ (.slice aw ai.length ar : Value).ownBlock ∧ some k_ ≠ (.slice ay av.length az : Value).ownBlock ∧ some k_ ≠ (.slice aW aG.length aU : Value).ownBlock ∧ k_ ≠ aj ∧ k_ ≠ ad ∧ k_ ≠ af) (Kd.R_N (Kd.R_bound ho0)) (fun k_ hk_ => ⟨(Kd.fresh' (Kd.N_lt (rn_ (Kd.N_mono (Kd.N_far (p := ⟨af, 2, none⟩) (Kd.N_far (p := ⟨af, 1, none⟩) (Kd.N_far (p := ⟨af, 0, none⟩) (Kd.N_mono ag.out (fun k_ hk => (⟨hk, hk.2⟩ : _ ∧ k_ ≠ af))) (fun _ hk => hk.2) (.int .i64 aE)) (fun _ hk => hk.2) (.string aF)) (fun _ hk => hk.2) (.slice aW aG.length aU)) (fun _ h_ => h_.1)))) k_ hk_.2.1), (Kd.fresh' (Kd.N_lt (rn_ (Kd.N_mono (Kd.N_far (p := ⟨af, 2, none⟩) (Kd.N_far (p := ⟨af, 1, none⟩) (Kd.N_far (p := ⟨af, 0, none⟩) (Kd.N_mono ah.out (fun k_ hk => (⟨hk, hk.2⟩ : _ ∧ k_ ≠ af))) (fun _ hk => hk.2) (.int .i64 aE)) (fun _ hk => hk.2) (.string aF)) (fun _ hk => hk.2) (.slice aW aG.length aU)) (fun _ h_ => h_.1)))) k_ hk_.2.1), (Kd.fresh' (Kd.N_lt (rn_ (Kd.N_mono (Kd.N_far (p := ⟨af, 2, none⟩) (Kd.N_far (p := ⟨af, 1, none⟩) (Kd.N_far (p := ⟨af, 0, none⟩) (Kd.N_mono aB.out (fun k_ hk => (⟨hk, hk.2⟩ : _ ∧ k_ ≠ af))) (fun _ hk => hk.2) (.int .i64 aE)) (fun _ hk => hk.2) (.string aF)) (fun _ hk => hk.2) (.slice aW aG.length aU)) (fun _ h_ => h_.1)))) k_ hk_.2.1), (Kd.freshB (g := aj) (o := .cells #[.int .i64 an, .string ap, .slice aw ai.length ar] 29 (0, 0)) (by refine rb_ ?_; refine blk_far ?_ aC.out _; refine rb_ ?_; refine blk_far ?_ aC.out _; refine rb_ ?_; refine blk_far ?_ aC.out _; refine rb_ ?_; exact aa.out) k_ hk_.2.1), (Kd.freshB (g := ad) (o := .cells #[.int .i64 ax, .string aA, .slice ay av.length az] 29 (0, 0)) (by refine rb_ ?_; refine blk_far ?_ aD.out _; refine rb_ ?_; refine blk_far ?_ aD.out _; refine rb_ ?_; refine blk_far ?_ aD.out _; refine rb_ ?_; exact ab.out) k_ hk_.2.1), (Kd.freshB (g := af) (o := .cells #[.int .i64 aE, .string aF, .slice aW aG.length aU] 29 (0, 0)) (by refine rb_ ?_; refine blk_put (cs := #[.int .i64 aE, .string aF, .slice none 0 0]) ?_ 2 _ rfl; refine rb_ ?_; refine blk_put (cs := #[.int .i64 aE, .string (⟨#[]⟩ : ByteArray), .slice none 0 0]) ?_ 1 _ rfl; refine rb_ ?_; refine blk_put (cs := #[.int .i64 0, .string (⟨#[]⟩ : ByteArray), .slice none 0 0]) ?_ 0 _ rfl; refine rb_ ?_; exact aq.out) k_ hk_.2.1)⟩)) (below_size (b3_ HB.out al.out ao.out aL.out))); have n4_ := am_ (blk_below (g := aj) (o := .cells #[.int .i64 an, .string ap, .slice aw ai.length ar] 29 (0, 0)) (by refine rb_ ?_; refine blk_far ?_ aC.out _; refine rb_ ?_; refine blk_far ?_ aC.out _; refine rb_ ?_; refine blk_far ?_ aC.out _; refine rb_ ?_; exact aa.out) hb); have n5_ := am_ (blk_below (g := ad) (o := .cells #[.int .i64 ax, .string aA, .slice ay av.length az] 29 (0, 0)) (by refine rb_ ?_; refine blk_far ?_ aD.out _; refine rb_ ?_; refine blk_far ?_ aD.out _; refine rb_ ?_; refine blk_far ?_ aD.out _; refine rb_ ?_; exact ab.out) hb); have n6_ := am_ (blk_below (g := af) (o := .cells #[.int .i64 aE, .string aF, .slice aW aG.length aU] 29 (0, 0)) (by refine rb_ ?_; refine blk_put (cs := #[.int .i64 aE, .string aF, .slice none 0 0]) ?_ 2 _ rfl; refine rb_ ?_; refine blk_put (cs := #[.int .i64 aE, .string (⟨#[]⟩ : ByteArray), .slice none 0 0]) ?_ 1 _ rfl; refine rb_ ?_; refine blk_put (cs := #[.int .i64 0, .string (⟨#[]⟩ : ByteArray), .slice none 0 0]) ?_ 0 _ rfl; refine rb_ ?_; exact aq.out) hb); have n7_ := am_ (below_step (b3_ HB.out al.out ao.out aL.out) hb); clear ag; clear ah; clear aB; clear aa; clear ab; clear aq; clear HB; have ag := n0_; have ah := n1_; have aB := n2_; have aP := n3_; have aa := n4_; have ab := n5_; have aq := n6_; have HB := n7_; clear n0_ n1_ n2_ n3_ n4_ n5_ n6_ n7_; (try clear hb); (try clear hb2); (try clear hk); (try clear hi); (try clear ho0)) | ((with_reducible refine gate_dst (N := 10) rfl ?_); refine box_event ?hg (N := 10) ?hd (cs := #[.int .i64 0, .string (⟨#[]⟩ : ByteArray), .slice none 0 0]) (t := 29) ?hr ?_; (case hd => rfl); (case hg => rfl); (case hr => first | (go_simp; done) | (go_simp; rfl)); intro am hg w73 hbox hb; have n0_ := am_ (Kd.N_below (Kd.N_elderB (rn_ ag.out) am (Nat.le_of_eq hg.symm)) hb); have n1_ := am_ (Kd.N_below (Kd.N_elderB (rn_ ah.out) am (Nat.le_of_eq hg.symm)) hb); have n2_ := am_ (Kd.N_below (Kd.N_elderB (rn_ aB.out) am (Nat.le_of_eq hg.symm)) hb); have n3_ := am_ (Kd.N_below (Kd.N_elderB (rn_ aP.out) am (Nat.le_of_eq hg.symm)) hb); have n4_ := am_ (blk_below (rb_ aa.out) hb); have n5_ := am_ (blk_below (rb_ ab.out) hb); have n6_ := am_ (blk_below (rb_ aq.out) hb); have n7_ := am_ (below_step (b3_ HB.out al.out ao.out aL.out) hb); have n8_ := am_ (hbox); have n9_ := am_ ((by rw [hg]; exact (below_size (b3_ HB.out al.out ao.out aL.out)) : w.heap.size ≤ am)); have n10_ := am_ ((by rw [hg]; exact (below_size (b3_ HB.out al.out ao.out aL.out)) : w.heap.size ≤ am)); have n11_ := am_ ((by rw [hg]; exact Nat.ne_of_lt (blk_lt (rb_ aa.out)) : aj ≠ am)); have n12_ := am_ ((by rw [hg]; exact Nat.ne_of_gt (blk_lt (rb_ aa.out)) : am ≠ aj)); have n13_ := am_ ((by rw [hg]; exact Nat.ne_of_lt (blk_lt (rb_ ab.out)) : ad ≠ am)); have n14_ := am_ ((by rw [hg]; exact Nat.ne_of_gt (blk_lt (rb_ ab.out)) : am ≠ ad)); have n15_ := am_ ((by rw [hg]; exact Nat.ne_of_lt (blk_lt (rb_ aq.out)) : af ≠ am)); have n16_ := am_ ((by rw [hg]; exact Nat.ne_of_gt (blk_lt (rb_ aq.out)) : am ≠ af)); clear ag; clear ah; clear aB; clear aP; clear aa; clear ab; clear aq; clear HB; have ag := n0_; have ah := n1_; have aB := n2_; have aP := n3_; have aa := n4_; have ab := n5_; have aq := n6_; have HB := n7_; have aH := n8_; have dt := n9_; have bn := n10_; have aR := n11_; have bh := n12_; have aS := n13_; have bi := n14_; have aT := n15_; have bj := n16_; clear n0_ n1_ n2_ n3_ n4_ n5_ n6_ n7_ n8_ n9_ n10_ n11_ n12_ n13_ n14_ n15_ n16_; clear hb hbox hg; have ey := bh.out; have ez := aR.out; have eA := bi.out; have eB := aS.out; have eC := bj.out; have eD := aT.out; have dI := ck_ (v := (.int .i64 0)) aH 0 rfl; have dJ := ck_ (v := (.string (⟨#[]⟩ : ByteArray))) aH 1 rfl; have dK := ck_ (v := (.slice none 0 0)) aH 2 rfl; have dL := blk_frozen aH.out 0; have dM := blk_frozen aH.out 1; have dN := blk_frozen aH.out 2; obtain ⟨bk, bl, dz⟩ := Kd.N_slice aP.out; subst dz; have dO := ck_ (v := (.int .i64 aE)) aq 0 rfl; have dP := ck_ (v := (.string aF)) aq 1 rfl; have dQ := ck_ (v := (.slice aW aG.length aU)) aq 2 rfl; have dR := blk_frozen aq.out 0; have dS := blk_frozen aq.out 1; have dT := blk_frozen aq.out 2) | (go_at_call 20; (with_reducible refine (impl_FormatRegex.calls kj6 aE aF _ _ aG be _ ?side1 ?side2 A64.out).mono ?_); (case side1 => refine (Kd.N_reads' (e := 29) (base := w.heap.size) (ok := fun k_ => ((((some k_ ≠ (.slice aw ai.length ar : Value).ownBlock ∧ (some k_ ≠ (.slice ay av.length az : Value).ownBlock ∧ (k_ ≠ aj ∧ k_ ≠ ad))) ∧ k_ ≠ af) ∧ some k_ ≠ (.slice bk bb.length bl : Value).ownBlock) ∧ k_ ≠ am)) (n := aG.length) (c := aU) ?_).2.2; exact (rn_ (Kd.N_mono (Kd.N_far (p := ⟨am, 2, none⟩) (Kd.N_far (p := ⟨am, 1, none⟩) (Kd.N_far (p := ⟨am, 0, none⟩) (Kd.N_mono aB.out (fun k_ hk => (⟨hk, hk.2⟩ : _ ∧ k_ ≠ am))) (fun _ hk => hk.2) (.int .i64 aX)) (fun _ hk => hk.2) (.string ba)) (fun _ hk => hk.2) (.slice bk bb.length bl)) (fun _ h_ => h_.1)))); (case side2 => exact (Kd.N_reads' aB.out).2.1); rintro e w80 ⟨rfl, hb⟩; have n0_ := am_ (Kd.N_below (rn_ (Kd.N_mono (Kd.N_far (p := ⟨am, 2, none⟩) (Kd.N_far (p := ⟨am, 1, none⟩) (Kd.N_far (p := ⟨am, 0, none⟩) (Kd.N_mono ag.out (fun k_ hk => (⟨hk, hk.2⟩ : _ ∧ k_ ≠ am))) (fun _ hk => hk.2) (.int .i64 aX)) (fun _ hk => hk.2) (.string ba)) (fun _ hk => hk.2) (.slice bk bb.length bl)) (fun _ h_ => h_.1))) hb); have n1_ := am_ (Kd.N_below (rn_ (Kd.N_mono (Kd.N_far (p := ⟨am, 2, none⟩) (Kd.N_far (p := ⟨am, 1, none⟩) (Kd.N_far (p := ⟨am, 0, none⟩) (Kd.N_mono ah.out (fun k_ hk => (⟨hk, hk.2⟩ : _ ∧ k_ ≠ am))) (fun _ hk => hk.2) (.int .i64 aX)) (fun _ hk => hk.2) (.string ba)) (fun _ hk => hk.2) (.slice bk bb.length bl)) (fun _ h_ => h_.1))) hb); have n2_ := am_ (Kd.N_below (rn_ (Kd.N_mono (Kd.N_far (p := ⟨am, 2, none⟩) (Kd.N_far (p := ⟨am, 1, none⟩) (Kd.N_far (p := ⟨am, 0, none⟩) (Kd.N_mono aB.out (fun k_ hk => (⟨hk, hk.2⟩ : _ ∧ k_ ≠ am))) (fun _ hk => hk.2) (.int .i64 aX)) (fun _ hk => hk.2) (.string ba)) (fun _ hk => hk.2) (.slice bk bb.length bl)) (fun _ h_ => h_.1))) hb); have n3_ := am_ (Kd.N_below (rn_ (Kd.N_mono (Kd.N_far (p := ⟨am, 2, none⟩) (Kd.N_far (p := ⟨am, 1, none⟩) (Kd.N_far (p := ⟨am, 0, none⟩) (Kd.N_mono aP.out (fun k_ hk => (⟨hk, hk.2⟩ : _ ∧ k_ ≠ am))) (fun _ hk => hk.2) (.int .i64 aX)) (fun _ hk => hk.2) (.string ba)) (fun _ hk => hk.2) (.slice bk bb.length bl)) (fun _ h_ => h_.1))) hb); have n4_ := am_ (blk_below (g := aj) (o := .cells #[.int .i64 an, .string ap, .slice aw ai.length ar] 29 (0, 0)) (by refine rb_ ?_; refine blk_far ?_ aR.out _; refine rb_ ?_; refine blk_far ?_ aR.out _; refine rb_ ?_; refine blk_far ?_ aR.out _; refine rb_ ?_; exact aa.out) hb); have n5_ := am_ (blk_below (g := ad) (o := .cells #[.int .i64 ax, .string aA, .slice ay av.length az] 29 (0, 0)) (by refine rb_ ?_; refine blk_far ?_ aS.out _; refine rb_ ?_; refine blk_far ?_ aS.out _; refine rb_ ?_; refine blk_far ?_ aS.out _; refine rb_ ?_; exact ab.out) hb); have n6_ := am_ (blk_below (g := af) (o := .cells #[.int .i64 aE, .string aF, .slice aW aG.length aU] 29 (0, 0)) (by refine rb_ ?_; refine blk_far ?_ aT.out _; refine rb_ ?_; refine blk_far ?_ aT.out _; refine rb_ ?_; refine blk_far ?_ aT.out _; refine rb_ ?_; exact aq.out) hb); have n7_ := am_ (blk_below (g := am) (o := .cells #[.int .i64 aX, .string ba, .slice bk bb.length bl] 29 (0, 0)) (by refine rb_ ?_; refine blk_put (cs := #[.int .i64 aX, .string ba, .slice none 0 0]) ?_ 2 _ rfl; refine rb_ ?_; refine blk_put (cs := #[.int .i64 aX, .string (⟨#[]⟩ : ByteArray), .slice none 0 0]) ?_ 1 _ rfl; refine rb_ ?_; refine blk_put (cs := #[.int .i64 0, .string (⟨#[]⟩ : ByteArray), .slice none 0 0]) ?_ 0 _ rfl; refine rb_ ?_; exact aH.out) hb); have n8_ := am_ (below_step (b4_ HB.out al.out ao.out aL.out bn.out) hb); clear ag; clear ah; clear aB; clear aP; clear aa; clear ab; clear aq; clear aH; clear HB; have ag := n0_; have ah := n1_; have aB := n2_; have aP := n3_; have aa := n4_; have ab := n5_; have aq := n6_; have aH := n7_; have HB := n8_; clear n0_ n1_ n2_ n3_ n4_ n5_ n6_ n7_ n8_; (try clear hb); (try clear hb2); (try clear hk); (try clear hi)))
       go_ret
       exact ⟨by first | rfl | (simp [errW_none, errW_some] <;> rfl) | (simp [*, errW_none, errW_some] <;> rfl), by repeat (first | (with_reducible first | exact HB.out | apply below_alloc | apply pw_below_drewN | apply below_drew1 | refine below_set ?_ al.out | refine below_set ?_ ao.out | refine below_set ?_ aL.out | refine below_set ?_ bn.out) | exact HB.out)⟩
      ·replace c63 := Bool.eq_false_iff.mpr c63
       subst c63
       have H1 : (some true) = some r := by rw [if_neg (show ¬ (false = true) by decide)] at H; exact H
       clear H
       have H := H1
       clear H1
       obtain rfl := Option.some.inj H
       simp only [Option.some.injEq, Prod.mk.injEq] at H
       obtain ⟨rfl⟩ := H
       go_wp2_with (first | ((with_reducible refine gate_callee (f := 33) rfl ?_); refine gL_ (some 49) Try.func33 #[.slice A0 l0.length c0] ?_; (with_reducible refine (spec_DrawParseRegex.calls kj6 _ _ l0 aI _ ?side1 ?side2 A59.out).mono ?_); (case side1 => exact rc_ (Kd.C_below HR0.out HB.out)); (case side2 => exact HC0.out); rintro e w81 ⟨rfl, hb⟩; refine ⟨_, rfl, ?_⟩; have n0_ := am_ (Kd.N_below (rn_ ag.out) hb); have n1_ := am_ (Kd.N_below (rn_ ah.out) hb); have n2_ := am_ (blk_below (rb_ aa.out) hb); have n3_ := am_ (blk_below (rb_ ab.out) hb); have n4_ := am_ (below_step (b2_ HB.out al.out ao.out) hb); clear ag; clear ah; clear aa; clear ab; clear HB; have ag := n0_; have ah := n1_; have aa := n2_; have ab := n3_; have HB := n4_; clear n0_ n1_ n2_ n3_ n4_; (try clear hb); (try clear hb2); (try clear hk); (try clear hi)) | ((with_reducible refine gate_callee (f := 22) rfl ?_); refine gL_ (some 52) Try.func22 #[.string aI] ?_; (with_reducible refine (impl_ParseRegex.calls aI aE aF aG false _ A60.out).mono ?_); rintro e w82 ⟨dw, rfl, ho0, hb⟩; refine ⟨_, rfl, ?_⟩; have n0_ := am_ (Kd.N_elder' (rn_ ag.out) (by first | exact Kd.N_base ho0 | exact Kd.R_base ho0) hb); have n1_ := am_ (Kd.N_elder' (rn_ ah.out) (by first | exact Kd.N_base ho0 | exact Kd.R_base ho0) hb); have n2_ := am_ (Kd.N_lower (Kd.N_mono (ok' := fun k_ => some k_ ≠ (.slice aw ai.length ar : Value).ownBlock ∧ some k_ ≠ (.slice ay av.length az : Value).ownBlock ∧ k_ ≠ aj ∧ k_ ≠ ad) (Kd.R_N (Kd.R_bound ho0)) (fun k_ hk_ => ⟨(Kd.fresh' (Kd.N_lt (rn_ ag.out)) k_ hk_.2.1), (Kd.fresh' (Kd.N_lt (rn_ ah.out)) k_ hk_.2.1), (Kd.freshB (g := aj) (o := .cells #[.int .i64 an, .string ap, .slice aw ai.length ar] 29 (0, 0)) (rb_ aa.out) k_ hk_.2.1), (Kd.freshB (g := ad) (o := .cells #[.int .i64 ax, .string aA, .slice ay av.length az] 29 (0, 0)) (rb_ ab.out) k_ hk_.2.1)⟩)) (below_size (b2_ HB.out al.out ao.out))); have n3_ := am_ (blk_below (rb_ aa.out) hb); have n4_ := am_ (blk_below (rb_ ab.out) hb); have n5_ := am_ (below_step (b2_ HB.out al.out ao.out) hb); clear ag; clear ah; clear aa; clear ab; clear HB; have ag := n0_; have ah := n1_; have aB := n2_; have aa := n3_; have ab := n4_; have HB := n5_; clear n0_ n1_ n2_ n3_ n4_ n5_; (try clear hb); (try clear hb2); (try clear hk); (try clear hi); (try clear ho0)) | ((with_reducible refine gate_dst (N := 8) rfl ?_); refine box_event ?hg (N := 8) ?hd (cs := #[.int .i64 0, .string (⟨#[]⟩ : ByteArray), .slice none 0 0]) (t := 29) ?hr ?_; (case hd => rfl); (case hg => rfl); (case hr => first | (go_simp; done) | (go_simp; rfl)); intro af hg w83 hbox hb; have n0_ := am_ (Kd.N_below (Kd.N_elderB (rn_ ag.out) af (Nat.le_of_eq hg.symm)) hb); have n1_ := am_ (Kd.N_below (Kd.N_elderB (rn_ ah.out) af (Nat.le_of_eq hg.symm)) hb); have n2_ := am_ (Kd.N_below (Kd.N_elderB (rn_ aB.out) af (Nat.le_of_eq hg.symm)) hb); have n3_ := am_ (blk_below (rb_ aa.out) hb); have n4_ := am_ (blk_below (rb_ ab.out) hb); have n5_ := am_ (below_step (b2_ HB.out al.out ao.out) hb); have n6_ := am_ (hbox); have n7_ := am_ ((by rw [hg]; exact (below_size (b2_ HB.out al.out ao.out)) : w.heap.size ≤ af)); have n8_ := am_ ((by rw [hg]; exact (below_size (b2_ HB.out al.out ao.out)) : w.heap.size ≤ af)); have n9_ := am_ ((by rw [hg]; exact Nat.ne_of_lt (blk_lt (rb_ aa.out)) : aj ≠ af)); have n10_ := am_ ((by rw [hg]; exact Nat.ne_of_gt (blk_lt (rb_ aa.out)) : af ≠ aj)); have n11_ := am_ ((by rw [hg]; exact Nat.ne_of_lt (blk_lt (rb_ ab.out)) : ad ≠ af)); have n12_ := am_ ((by rw [hg]; exact Nat.ne_of_gt (blk_lt (rb_ ab.out)) : af ≠ ad)); clear ag; clear ah; clear aB; clear aa; clear ab; clear HB; have ag := n0_; have ah := n1_; have aB := n2_; have aa := n3_; have ab := n4_; have HB := n5_; have aq := n6_; have ds := n7_; have aL := n8_; have aC := n9_; have bf := n10_; have aD := n11_; have bg := n12_; clear n0_ n1_ n2_ n3_ n4_ n5_ n6_ n7_ n8_ n9_ n10_ n11_ n12_; clear hb hbox hg; have eE := bf.out; have eF := aC.out; have eG := bg.out; have eH := aD.out; have dU := ck_ (v := (.int .i64 0)) aq 0 rfl; have dV := ck_ (v := (.string (⟨#[]⟩ : ByteArray))) aq 1 rfl; have dW := ck_ (v := (.slice none 0 0)) aq 2 rfl; have dX := blk_frozen aq.out 0; have dY := blk_frozen aq.out 1; have dZ := blk_frozen aq.out 2; obtain ⟨bc, bd, dA⟩ := Kd.N_slice aB.out; subst dA) | ((with_reducible refine gate_callee (f := 21) rfl ?_); refine gL_ (some 57) Try.func21 #[.string aI] ?_; (with_reducible refine (spec_ParseRegex.calls aI aX ba bb aY _ A61.out).mono ?_); rintro e w88 ⟨dy, rfl, ho0, hb⟩; refine ⟨_, rfl, ?_⟩; have n0_ := am_ (Kd.N_elder' (rn_ (Kd.N_mono (Kd.N_far (p := ⟨af, 2, none⟩) (Kd.N_far (p := ⟨af, 1, none⟩) (Kd.N_far (p := ⟨af, 0, none⟩) (Kd.N_mono ag.out (fun k_ hk => (⟨hk, hk.2⟩ : _ ∧ k_ ≠ af))) (fun _ hk => hk.2) (.int .i64 aE)) (fun _ hk => hk.2) (.string aF)) (fun _ hk => hk.2) (.slice bc aG.length bd)) (fun _ h_ => h_.1))) (by first | exact Kd.N_base ho0 | exact Kd.R_base ho0) hb); have n1_ := am_ (Kd.N_elder' (rn_ (Kd.N_mono (Kd.N_far (p := ⟨af, 2, none⟩) (Kd.N_far (p := ⟨af, 1, none⟩) (Kd.N_far (p := ⟨af, 0, none⟩) (Kd.N_mono ah.out (fun k_ hk => (⟨hk, hk.2⟩ : _ ∧ k_ ≠ af))) (fun _ hk => hk.2) (.int .i64 aE)) (fun _ hk => hk.2) (.string aF)) (fun _ hk => hk.2) (.slice bc aG.length bd)) (fun _ h_ => h_.1))) (by first | exact Kd.N_base ho0 | exact Kd.R_base ho0) hb); have n2_ := am_ (Kd.N_elder' (rn_ (Kd.N_mono (Kd.N_far (p := ⟨af, 2, none⟩) (Kd.N_far (p := ⟨af, 1, none⟩) (Kd.N_far (p := ⟨af, 0, none⟩) (Kd.N_mono aB.out (fun k_ hk => (⟨hk, hk.2⟩ : _ ∧ k_ ≠ af))) (fun _ hk => hk.2) (.int .i64 aE)) (fun _ hk => hk.2) (.string aF)) (fun _ hk => hk.2) (.slice bc aG.length bd)) (fun _ h_ => h_.1))) (by first | exact Kd.N_base ho0 | exact Kd.R_base ho0) hb); have n3_ := am_ (Kd.N_lower (Kd.N_mono (ok' := fun k_ => some k_ ≠ (.slice aw ai.length ar : Value).ownBlock ∧ some k_ ≠ (.slice ay av.length az : Value).ownBlock ∧ some k_ ≠ (.slice bc aG.length bd : Value).ownBlock ∧ k_ ≠ aj ∧ k_ ≠ ad ∧ k_ ≠ af) (Kd.R_N (Kd.R_bound ho0)) (fun k_ hk_ => ⟨(Kd.fresh' (Kd.N_lt (rn_ (Kd.N_mono (Kd.N_far (p := ⟨af, 2, none⟩) (Kd.N_far (p := ⟨af, 1, none⟩) (Kd.N_far (p := ⟨af, 0, none⟩) (Kd.N_mono ag.out (fun k_ hk => (⟨hk, hk.2⟩ : _ ∧ k_ ≠ af))) (fun _ hk => hk.2) (.int .i64 aE)) (fun _ hk => hk.2) (.string aF)) (fun _ hk => hk.2) (.slice bc aG.length bd)) (fun _ h_ => h_.1)))) k_ hk_.2.1), (Kd.fresh' (Kd.N_lt (rn_ (Kd.N_mono (Kd.N_far (p := ⟨af, 2, none⟩) (Kd.N_far (p := ⟨af, 1, none⟩) (Kd.N_far (p := ⟨af, 0, none⟩) (Kd.N_mono ah.out (fun k_ hk => (⟨hk, hk.2⟩ : _ ∧ k_ ≠ af))) (fun _ hk => hk.2) (.int .i64 aE)) (fun _ hk => hk.2) (.string aF)) (fun _ hk => hk.2) (.slice bc aG.length bd)) (fun _ h_ => h_.1)))) k_ hk_.2.1), (Kd.fresh' (Kd.N_lt (rn_ (Kd.N_mono (Kd.N_far (p := ⟨af, 2, none⟩) (Kd.N_far (p := ⟨af, 1, none⟩) (Kd.N_far (p := ⟨af, 0, none⟩) (Kd.N_mono aB.out (fun k_ hk => (⟨hk, hk.2⟩ : _ ∧ k_ ≠ af))) (fun _ hk => hk.2) (.int .i64 aE)) (fun _ hk => hk.2) (.string aF)) (fun _ hk => hk.2) (.slice bc aG.length bd)) (fun _ h_ => h_.1)))) k_ hk_.2.1), (Kd.freshB (g := aj) (o := .cells #[.int .i64 an, .string ap, .slice aw ai.length ar] 29 (0, 0)) (by refine rb_ ?_; refine blk_far ?_ aC.out _; refine rb_ ?_; refine blk_far ?_ aC.out _; refine rb_ ?_; refine blk_far ?_ aC.out _; refine rb_ ?_; exact aa.out) k_ hk_.2.1), (Kd.freshB (g := ad) (o := .cells #[.int .i64 ax, .string aA, .slice ay av.length az] 29 (0, 0)) (by refine rb_ ?_; refine blk_far ?_ aD.out _; refine rb_ ?_; refine blk_far ?_ aD.out _; refine rb_ ?_; refine blk_far ?_ aD.out _; refine rb_ ?_; exact ab.out) k_ hk_.2.1), (Kd.freshB (g := af) (o := .cells #[.int .i64 aE, .string aF, .slice bc aG.length bd] 29 (0, 0)) (by refine rb_ ?_; refine blk_put (cs := #[.int .i64 aE, .string aF, .slice none 0 0]) ?_ 2 _ rfl; refine rb_ ?_; refine blk_put (cs := #[.int .i64 aE, .string (⟨#[]⟩ : ByteArray), .slice none 0 0]) ?_ 1 _ rfl; refine rb_ ?_; refine blk_put (cs := #[.int .i64 0, .string (⟨#[]⟩ : ByteArray), .slice none 0 0]) ?_ 0 _ rfl; refine rb_ ?_; exact aq.out) k_ hk_.2.1)⟩)) (below_size (b3_ HB.out al.out ao.out aL.out))); have n4_ := am_ (blk_below (g := aj) (o := .cells #[.int .i64 an, .string ap, .slice aw ai.length ar] 29 (0, 0)) (by refine rb_ ?_; refine blk_far ?_ aC.out _; refine rb_ ?_; refine blk_far ?_ aC.out _; refine rb_ ?_; refine blk_far ?_ aC.out _; refine rb_ ?_; exact aa.out) hb); have n5_ := am_ (blk_below (g := ad) (o := .cells #[.int .i64 ax, .string aA, .slice ay av.length az] 29 (0, 0)) (by refine rb_ ?_; refine blk_far ?_ aD.out _; refine rb_ ?_; refine blk_far ?_ aD.out _; refine rb_ ?_; refine blk_far ?_ aD.out _; refine rb_ ?_; exact ab.out) hb); have n6_ := am_ (blk_below (g := af) (o := .cells #[.int .i64 aE, .string aF, .slice bc aG.length bd] 29 (0, 0)) (by refine rb_ ?_; refine blk_put (cs := #[.int .i64 aE, .string aF, .slice none 0 0]) ?_ 2 _ rfl; refine rb_ ?_; refine blk_put (cs := #[.int .i64 aE, .string (⟨#[]⟩ : ByteArray), .slice none 0 0]) ?_ 1 _ rfl; refine rb_ ?_; refine blk_put (cs := #[.int .i64 0, .string (⟨#[]⟩ : ByteArray), .slice none 0 0]) ?_ 0 _ rfl; refine rb_ ?_; exact aq.out) hb); have n7_ := am_ (below_step (b3_ HB.out al.out ao.out aL.out) hb); clear ag; clear ah; clear aB; clear aa; clear ab; clear aq; clear HB; have ag := n0_; have ah := n1_; have aB := n2_; have aP := n3_; have aa := n4_; have ab := n5_; have aq := n6_; have HB := n7_; clear n0_ n1_ n2_ n3_ n4_ n5_ n6_ n7_; (try clear hb); (try clear hb2); (try clear hk); (try clear hi); (try clear ho0)) | ((with_reducible refine gate_dst (N := 10) rfl ?_); refine box_event ?hg (N := 10) ?hd (cs := #[.int .i64 0, .string (⟨#[]⟩ : ByteArray), .slice none 0 0]) (t := 29) ?hr ?_; (case hd => rfl); (case hg => rfl); (case hr => first | (go_simp; done) | (go_simp; rfl)); intro am hg w89 hbox hb; have n0_ := am_ (Kd.N_below (Kd.N_elderB (rn_ ag.out) am (Nat.le_of_eq hg.symm)) hb); have n1_ := am_ (Kd.N_below (Kd.N_elderB (rn_ ah.out) am (Nat.le_of_eq hg.symm)) hb); have n2_ := am_ (Kd.N_below (Kd.N_elderB (rn_ aB.out) am (Nat.le_of_eq hg.symm)) hb); have n3_ := am_ (Kd.N_below (Kd.N_elderB (rn_ aP.out) am (Nat.le_of_eq hg.symm)) hb); have n4_ := am_ (blk_below (rb_ aa.out) hb); have n5_ := am_ (blk_below (rb_ ab.out) hb); have n6_ := am_ (blk_below (rb_ aq.out) hb); have n7_ := am_ (below_step (b3_ HB.out al.out ao.out aL.out) hb); have n8_ := am_ (hbox); have n9_ := am_ ((by rw [hg]; exact (below_size (b3_ HB.out al.out ao.out aL.out)) : w.heap.size ≤ am)); have n10_ := am_ ((by rw [hg]; exact (below_size (b3_ HB.out al.out ao.out aL.out)) : w.heap.size ≤ am)); have n11_ := am_ ((by rw [hg]; exact Nat.ne_of_lt (blk_lt (rb_ aa.out)) : aj ≠ am)); have n12_ := am_ ((by rw [hg]; exact Nat.ne_of_gt (blk_lt (rb_ aa.out)) : am ≠ aj)); have n13_ := am_ ((by rw [hg]; exact Nat.ne_of_lt (blk_lt (rb_ ab.out)) : ad ≠ am)); have n14_ := am_ ((by rw [hg]; exact Nat.ne_of_gt (blk_lt (rb_ ab.out)) : am ≠ ad)); have n15_ := am_ ((by rw [hg]; exact Nat.ne_of_lt (blk_lt (rb_ aq.out)) : af ≠ am)); have n16_ := am_ ((by rw [hg]; exact Nat.ne_of_gt (blk_lt (rb_ aq.out)) : am ≠ af)); clear ag; clear ah; clear aB; clear aP; clear aa; clear ab; clear aq; clear HB; have ag := n0_; have ah := n1_; have aB := n2_; have aP := n3_; have aa := n4_; have ab := n5_; have aq := n6_; have HB := n7_; have aH := n8_; have dt := n9_; have bn := n10_; have aR := n11_; have bh := n12_; have aS := n13_; have bi := n14_; have aT := n15_; have bj := n16_; clear n0_ n1_ n2_ n3_ n4_ n5_ n6_ n7_ n8_ n9_ n10_ n11_ n12_ n13_ n14_ n15_ n16_; clear hb hbox hg; have eI := bh.out; have eJ := aR.out; have eK := bi.out; have eL := aS.out; have eM := bj.out; have eN := aT.out; have ea := ck_ (v := (.int .i64 0)) aH 0 rfl; have eb := ck_ (v := (.string (⟨#[]⟩ : ByteArray))) aH 1 rfl; have ec := ck_ (v := (.slice none 0 0)) aH 2 rfl; have ed := blk_frozen aH.out 0; have ee := blk_frozen aH.out 1; have ef := blk_frozen aH.out 2; obtain ⟨eQ, eR, dB⟩ := Kd.N_slice aP.out; subst dB))
       go_ret
       exact ⟨by first | rfl | (simp [errW_none, errW_some] <;> rfl) | (simp [*, errW_none, errW_some] <;> rfl), by repeat (first | (with_reducible first | exact HB.out | apply below_alloc | apply pw_below_drewN | apply below_drew1 | refine below_set ?_ al.out | refine below_set ?_ ao.out | refine below_set ?_ aL.out | refine below_set ?_ bn.out) | exact HB.out)⟩
     ·rw [if_neg c62] at H
      have c62b0 : (aZ == aY) = false := by simpa using c62
      (try (have c62b1 : decide (aZ = aY) = false := by simpa using c62))
      (try (have c62b2 : (aZ == aY) = false := by simpa using c62))
      (try (have c62b3 : ¬ (aZ = aY) := by simpa using c62))
      clear c62
      obtain rfl := Option.some.inj H
      exact absurd hR (by decide)
def laws_FnRegexText.Pure : Prop := ∀ (l0 : List Int), l0.length ≤ maxLen → l0.length * 1 ≤ 140737488351232 → (∀ x ∈ l0, (Lit.int .u8 x).wf = true) → ∃ k, laws_FnRegexText.f k l0 = some true
theorem laws_FnRegexText.walk (P : laws_FnRegexText.Pure) (a0 : Option Addr) (len0 cap0 : Nat) (z0 : List Int) (w : World) (w0 : (a0 = none ∧ len0 = 0 ∧ cap0 = 0 ∧ z0 = []) ∨ ∃ x, a0 = some x ∧ len0 ≤ cap0 ∧ cap0 ≤ maxLen ∧ z0.length = cap0 ∧ (∀ i, i < z0.length → w.cell? (x.add i) = some (.int .u8 (z0.getD i 0))) ∧ ∀ n ∈ z0, (Lit.int .u8 n).wf = true) (y0 : len0 * 1 ≤ 140737488351232) :
  Calls Try.prog 10 #[.slice a0 len0 cap0] w fun e w' => e = .returned (.bool true) ∧ Below w.heap.size w w' := by
 obtain ⟨l0, rfl, hr0, hm0, hw0, hc0⟩ := ReadsInt.ofRowC w0
 obtain ⟨k, h⟩ := P l0 hm0 y0 hw0
 refine (laws_FnRegexText.calls k _ _ l0 true w (Kd.C_of_reads (d := (0 : Int)) (h1 := fun _ => rfl) hr0) hc0 h rfl).mono ?_
 rintro e w' ⟨rfl, hd⟩
 exact ⟨rfl, hd⟩
end Go.Proofs.Ytldgkgdgcfllmaa.P
end
