/- The law FnExactIsFinite holds for every input. No condition. -/
import Derived.Test.YtpgdhpnmagmooaaQFnExactIsFinite2
import Derived.Test.YtpgdhpnmagmooaaQFnExactIsFinite5
import Derived.Test.YtpgdhpnmagmooaaQFnExactIsFinite3
import Derived.Test.YtpgdhpnmagmooaaQFnExactIsFinite4
import Derived.Test.YtpgdhpnmagmooaaRows
import Derived.WalkKit
import Derived.ProofKit
import Derived.OpenShut
import Derived.ShutString
import Derived.ChangeOld
import Derived.Below
import Derived.SizedLaws
import Derived.Lib.SmallJoins
import Derived.ChangeSlices
section
namespace Go.Proofs.Ytpgdhpnmagmooaa.P
open Go.RowKit Go.Proofs.YtpgdhpnmagmooaaW.PrintWords Go.Proofs.YtpgdhpnmagmooaaW.PrintLast Go.Proofs.YtpgdhpnmagmooaaW.PrintMore
attribute [local go_sem] max2_int min2_int max_two min_two max_three min_three max_four min_four
set_option linter.unusedVariables false
set_option linter.unusedSimpArgs false
def laws_FnExactIsFinite.f (k : Nat) (l0_0 : List Bool) (l0_1 : List (List Int)) : Option (Bool) := (laws_szDfa.f k l0_0 l0_1 1048576).bind fun au => (if au < 0 then (some true) else ((laws_toDfa.f k l0_0 l0_1).bind fun bt243 => ((spec_IsFinite.f k bt243.1 bt243.2).bind fun al => ((laws_toDfa.f k l0_0 l0_1).bind fun bt250 => ((impl_IsFinite.f k bt250.1 bt250.2).bind fun am => (if (am != al) = true then (some false) else ((laws_toDfa.f k l0_0 l0_1).bind fun bt258 => ((laws_eqDfa.f k bt250.1 bt250.2 bt258.1 bt258.2).bind fun aD => (if aD = true then (some true) else (some false))))))))))
theorem laws_FnExactIsFinite.mono : ∀ a0 a1 k, LeO (laws_FnExactIsFinite.f k a0 a1) (laws_FnExactIsFinite.f (k + 1) a0 a1) := by
 intro a0 a1 k
 unfold laws_FnExactIsFinite.f
 repeat' first
   | (with_reducible exact impl_IsFinite.mono _ _ _)
   | (with_reducible exact laws_eqDfa.mono _ _ _ _ _)
   | (with_reducible exact laws_szDfa.mono _ _ _ _)
   | (with_reducible exact laws_toDfa.mono _ _ _)
   | (with_reducible exact spec_IsFinite.mono _ _ _)
   | (with_reducible exact LeO.refl _)
   | (with_reducible exact LeO.none _)
   | (with_reducible refine LeO.ite ?_ ?_)
   | (with_reducible refine LeO.bind ?_ (fun _ => ?_))
   | exact impl_IsFinite.mono _ _ _
   | exact laws_eqDfa.mono _ _ _ _ _
   | exact laws_szDfa.mono _ _ _ _
   | exact laws_toDfa.mono _ _ _
   | exact spec_IsFinite.mono _ _ _
   | exact LeO.none _
   | refine LeO.ite ?_ ?_
   | refine LeO.bind ?_ (fun _ => ?_)
set_option maxHeartbeats 8000000 in
set_option maxRecDepth 100000 in
theorem laws_FnExactIsFinite.calls (k : Nat) (A0_0 : Option Addr) (c0_0 : Nat) (l0_0 : List Bool) (A0_1 : Option Addr) (c0_1 : Nat) (l0_1 : List (List Int)) (r : Bool) (w : World) (hr0_0 : Kd.C Kd.bool w A0_0 l0_0.length l0_0) (hc0_0 : l0_0.length ≤ c0_0) (hr0_1 : Kd.C (Kd.slice 3 (Kd.int .i64)) w A0_1 l0_1.length l0_1) (hc0_1 : l0_1.length ≤ c0_1) (h : laws_FnExactIsFinite.f k l0_0 l0_1 = some r) (hR : r = true) :
  Calls Try.prog 3 #[.agg #[.slice A0_0 l0_0.length c0_0, .slice A0_1 l0_1.length c0_1]] w fun e w' => e = .returned (.bool r) ∧ Below w.heap.size w w' := by
 have hu25 := Try.underlying25
 have hu28 := Try.underlying28
 have ax := am_ hr0_0
 have ay := am_ hc0_0
 clear hr0_0 hc0_0
 have az := am_ hr0_1
 have aA := am_ hc0_1
 clear hr0_1 hc0_1
 have HB := am_ (Below.refl w.heap.size w)
 have H : ((laws_szDfa.f k l0_0 l0_1 1048576).bind fun au => (if au < 0 then (some true) else ((laws_toDfa.f k l0_0 l0_1).bind fun bt243 => ((spec_IsFinite.f k bt243.1 bt243.2).bind fun al => ((laws_toDfa.f k l0_0 l0_1).bind fun bt250 => ((impl_IsFinite.f k bt250.1 bt250.2).bind fun am => (if (am != al) = true then (some false) else ((laws_toDfa.f k l0_0 l0_1).bind fun bt258 => ((laws_eqDfa.f k bt250.1 bt250.2 bt258.1 bt258.2).bind fun aD => (if aD = true then (some true) else (some false))))))))))) = some r := h
 clear h
 replace H := Option.bind_eq_some_iff.mp H
 obtain ⟨au, A20, H⟩ := H
 have A2 := am_ A20
 clear A20
 by_cases c3 : au < 0
 ·rw [if_pos c3] at H
  have c3b0 : decide (au < 0) = true := decide_eq_true c3
  clear c3
  obtain rfl := Option.some.inj H
  simp only [Option.some.injEq, Prod.mk.injEq] at H
  obtain ⟨rfl⟩ := H
  go_enter Try.func3, Try.ntmps3
  go_wp2_with (first | ((with_reducible refine gate_dst (N := 1) rfl ?_); refine box_event ?hg (N := 1) ?hd (cs := #[.slice A0_0 l0_0.length c0_0, .slice A0_1 l0_1.length c0_1]) (t := 25) ?hr ?_; (case hd => rfl); (case hg => rfl); (case hr => first | (go_simp; done) | (go_simp; rfl)); intro an hg w4 hbox hb; replace aa := am_ (hbox); replace aS := am_ ((by rw [hg]; exact (below_size (b0_ HB.out)) : w.heap.size ≤ an)); replace af := am_ ((by rw [hg]; exact (below_size (b0_ HB.out)) : w.heap.size ≤ an)); replace HB := am_ (below_step (b0_ HB.out) hb); clear hb hbox hg; have br := ck_ (v := (.slice A0_0 l0_0.length c0_0)) aa 0 rfl; have bs := ck_ (v := (.slice A0_1 l0_1.length c0_1)) aa 1 rfl; have bt := blk_frozen aa.out 0; have bu := blk_frozen aa.out 1) | ((with_reducible refine gate_callee (f := 6) rfl ?_); refine gL_ (some 9) Try.func6 #[.agg #[.slice A0_0 l0_0.length c0_0, .slice A0_1 l0_1.length c0_1], .int .i64 1048576] ?_; (with_reducible refine (laws_szDfa.calls k _ _ l0_0 _ _ l0_1 1048576 au _ ?side1 ?side2 ?side3 ?side4 A2.out).mono ?_); (case side1 => exact rc_ (Kd.C_below ax.out HB.out)); (case side2 => exact ay.out); (case side3 => exact rc_ (Kd.C_below az.out HB.out)); (case side4 => exact aA.out); rintro e w6 ⟨rfl, hb⟩; refine ⟨_, rfl, ?_⟩; have n0_ := am_ (blk_below (rb_ aa.out) hb); have n1_ := am_ (below_step (b1_ HB.out af.out) hb); clear aa; clear HB; have aa := n0_; have HB := n1_; clear n0_ n1_; (try clear hb); (try clear hb2); (try clear hk); (try clear hi)))
  go_ret
  exact ⟨by first | rfl | (simp [errW_none, errW_some] <;> rfl) | (simp [*, errW_none, errW_some] <;> rfl), by repeat (first | (with_reducible first | exact HB.out | apply below_alloc | apply pw_below_drewN | apply below_drew1 | refine below_set ?_ af.out) | exact HB.out)⟩
 ·rw [if_neg c3] at H
  have c3b0 : decide (au < 0) = false := decide_eq_false c3
  clear c3
  replace H := Option.bind_eq_some_iff.mp H
  obtain ⟨⟨aE, aF⟩, A70, H⟩ := H
  have A7 := am_ A70
  clear A70
  replace H := Option.bind_eq_some_iff.mp H
  obtain ⟨al, A80, H⟩ := H
  have A8 := am_ A80
  clear A80
  replace H := Option.bind_eq_some_iff.mp H
  obtain ⟨⟨aj, ak⟩, A90, H⟩ := H
  have A9 := am_ A90
  clear A90
  replace H := Option.bind_eq_some_iff.mp H
  obtain ⟨am, aJ, H⟩ := H
  have A10 := am_ aJ
  clear aJ
  by_cases c11 : (am != al) = true
  ·rw [if_pos c11] at H
   have c11b0 : (am != al) = true := c11
   (try (have c11b1 : decide (am = al) = false := by simpa using c11))
   (try (have c11b2 : (am == al) = false := by simpa using c11))
   (try (have c11b3 : ¬ (am = al) := by simpa using c11))
   clear c11
   obtain rfl := Option.some.inj H
   exact absurd hR (by decide)
  ·rw [if_neg c11] at H
   have c11b0 : (am != al) = false := by simpa using c11
   (try (have c11b1 : decide (am = al) = true := by simpa using c11))
   (try (have c11b2 : (am == al) = true := by simpa using c11))
   clear c11
   replace H := Option.bind_eq_some_iff.mp H
   obtain ⟨⟨aH, aI⟩, aK, H⟩ := H
   have A12 := am_ aK
   clear aK
   replace H := Option.bind_eq_some_iff.mp H
   obtain ⟨aD, aL, H⟩ := H
   replace H : (if aD = true then (some true) else (some false)) = some r := H
   have A13 := am_ aL
   clear aL
   by_cases c14 : aD = true
   ·subst c14
    have H1 : (some true) = some r := by rw [if_pos rfl] at H; exact H
    clear H
    have H := H1
    clear H1
    obtain rfl := Option.some.inj H
    simp only [Option.some.injEq, Prod.mk.injEq] at H
    obtain ⟨rfl⟩ := H
    go_enter Try.func3, Try.ntmps3
    try go_wp2_with (first | ((with_reducible refine gate_dst (N := 1) rfl ?_); refine box_event ?hg (N := 1) ?hd (cs := #[.slice A0_0 l0_0.length c0_0, .slice A0_1 l0_1.length c0_1]) (t := 25) ?hr ?_; (case hd => rfl); (case hg => rfl); (case hr => first | (go_simp; done) | (go_simp; rfl)); intro an hg w15 hbox hb; replace aa := am_ (hbox); replace aS := am_ ((by rw [hg]; exact (below_size (b0_ HB.out)) : w.heap.size ≤ an)); replace af := am_ ((by rw [hg]; exact (below_size (b0_ HB.out)) : w.heap.size ≤ an)); replace HB := am_ (below_step (b0_ HB.out) hb); clear hb hbox hg; have bb := ck_ (v := (.slice A0_0 l0_0.length c0_0)) aa 0 rfl; have bc := ck_ (v := (.slice A0_1 l0_1.length c0_1)) aa 1 rfl; have bd := blk_frozen aa.out 0; have be := blk_frozen aa.out 1) | ((with_reducible refine gate_callee (f := 6) rfl ?_); refine gL_ (some 9) Try.func6 #[.agg #[.slice A0_0 l0_0.length c0_0, .slice A0_1 l0_1.length c0_1], .int .i64 1048576] ?_; (with_reducible refine (laws_szDfa.calls k _ _ l0_0 _ _ l0_1 1048576 au _ ?side1 ?side2 ?side3 ?side4 A2.out).mono ?_); (case side1 => exact rc_ (Kd.C_below ax.out HB.out)); (case side2 => exact ay.out); (case side3 => exact rc_ (Kd.C_below az.out HB.out)); (case side4 => exact aA.out); rintro e w17 ⟨rfl, hb⟩; refine ⟨_, rfl, ?_⟩; have n0_ := am_ (blk_below (rb_ aa.out) hb); have n1_ := am_ (below_step (b1_ HB.out af.out) hb); clear aa; clear HB; have aa := n0_; have HB := n1_; clear n0_ n1_; (try clear hb); (try clear hb2); (try clear hk); (try clear hi); have bf := ck_ (v := (.slice A0_0 l0_0.length c0_0)) aa 0 rfl; have bg := ck_ (v := (.slice A0_1 l0_1.length c0_1)) aa 1 rfl; have bh := blk_frozen aa.out 0; have bi := blk_frozen aa.out 1) | ((with_reducible refine gate_callee (f := 8) rfl ?_); refine gL_ (some 13) Try.func8 #[.agg #[.slice A0_0 l0_0.length c0_0, .slice A0_1 l0_1.length c0_1]] ?_; (with_reducible refine (laws_toDfa.calls k _ _ l0_0 _ _ l0_1 aE aF _ ?side1 ?side2 ?side3 ?side4 A7.out).mono ?_); (case side1 => exact rc_ (Kd.C_below ax.out HB.out)); (case side2 => exact ay.out); (case side3 => exact rc_ (Kd.C_below az.out HB.out)); (case side4 => exact aA.out); rintro e w19 ⟨bz, bA, rfl, ho0, ho1, hb⟩; refine ⟨_, rfl, ?_⟩; have n0_ := am_ (Kd.R_lower ho0 (below_size (b1_ HB.out af.out))); have n1_ := am_ (Kd.S_lower ho1 (below_size (b1_ HB.out af.out))); have n2_ := am_ (blk_below (rb_ aa.out) hb); have n3_ := am_ (below_step (b1_ HB.out af.out) hb); clear aa; clear HB; have ad := n0_; have ae := n1_; have aa := n2_; have HB := n3_; clear n0_ n1_ n2_ n3_; (try clear hb); (try clear hb2); (try clear hk); (try clear hi); (try clear ho0); (try clear ho1); obtain ⟨aM, aN, aT⟩ := Kd.R_slice ad.out; subst aT; obtain ⟨aO, aP, aU⟩ := Kd.S_slice ae.out; subst aU) | ((with_reducible refine gate_callee (f := 7) rfl ?_); refine gL_ (some 14) Try.func7 #[.agg #[.slice aM aE.length aN, .slice aO aF.length aP]] ?_; (with_reducible refine (spec_IsFinite.calls k _ _ aE _ _ aF al _ ?side1 ?side2 ?side3 ?side4 A8.out).mono ?_); (case side1 => exact rc_ ((Kd.R_reads' ad.out).2.2)); (case side2 => exact (Kd.R_reads' ad.out).2.1); (case side3 => exact rc_ ((Kd.S_reads' ae.out).2.2)); (case side4 => exact (Kd.S_reads' ae.out).2.1); rintro e w22 ⟨rfl, hb⟩; refine ⟨_, rfl, ?_⟩; have n0_ := am_ (Kd.R_below (rr_ ad.out) hb); have n1_ := am_ (Kd.S_below (rs_ ae.out) hb); have n2_ := am_ (blk_below (rb_ aa.out) hb); have n3_ := am_ (below_step (b1_ HB.out af.out) hb); clear ad; clear ae; clear aa; clear HB; have ad := n0_; have ae := n1_; have aa := n2_; have HB := n3_; clear n0_ n1_ n2_ n3_; (try clear hb); (try clear hb2); (try clear hk); (try clear hi); have bj := ck_ (v := (.slice A0_0 l0_0.length c0_0)) aa 0 rfl; have bk := ck_ (v := (.slice A0_1 l0_1.length c0_1)) aa 1 rfl; have bl := blk_frozen aa.out 0; have bm := blk_frozen aa.out 1) | ((with_reducible refine gate_callee (f := 8) rfl ?_); refine gL_ (some 16) Try.func8 #[.agg #[.slice A0_0 l0_0.length c0_0, .slice A0_1 l0_1.length c0_1]] ?_; (with_reducible refine (laws_toDfa.calls k _ _ l0_0 _ _ l0_1 aj ak _ ?side1 ?side2 ?side3 ?side4 A9.out).mono ?_); (case side1 => exact rc_ (Kd.C_below ax.out HB.out)); (case side2 => exact ay.out); (case side3 => exact rc_ (Kd.C_below az.out HB.out)); (case side4 => exact aA.out); rintro e w24 ⟨bB, bC, rfl, ho0, ho1, hb⟩; refine ⟨_, rfl, ?_⟩; have n0_ := am_ (Kd.R_elder' (rr_ ad.out) (Kd.R_base ho0) hb); have n1_ := am_ (Kd.S_elder' (rs_ ae.out) (Kd.S_base ho1) hb); have n2_ := am_ (Kd.R_lower (Kd.R_new' ho0 (Kd.R_lt (rr_ ad.out))) (below_size (b1_ HB.out af.out))); have n3_ := am_ (Kd.S_lower (Kd.S_new' ho1 (Kd.S_lt (rs_ ae.out))) (below_size (b1_ HB.out af.out))); have n4_ := am_ (blk_below (rb_ aa.out) hb); have n5_ := am_ (below_step (b1_ HB.out af.out) hb); clear ad; clear ae; clear aa; clear HB; have ad := n0_; have ae := n1_; have ag := n2_; have ah := n3_; have aa := n4_; have HB := n5_; clear n0_ n1_ n2_ n3_ n4_ n5_; (try clear hb); (try clear hb2); (try clear hk); (try clear hi); (try clear ho0); (try clear ho1)) | ((with_reducible refine gate_dst (N := 5) rfl ?_); refine box_event ?hg (N := 5) ?hd (cs := #[.slice none 0 0, .slice none 0 0]) (t := 28) ?hr ?_; (case hd => rfl); (case hg => rfl); (case hr => first | (go_simp; done) | (go_simp; rfl)); intro ai hg w25 hbox hb; have n0_ := am_ (Kd.R_below (rr_ ad.out) hb); have n1_ := am_ (Kd.S_below (rs_ ae.out) hb); have n2_ := am_ (Kd.R_below (rr_ ag.out) hb); have n3_ := am_ (Kd.S_below (rs_ ah.out) hb); have n4_ := am_ (blk_below (rb_ aa.out) hb); have n5_ := am_ (below_step (b1_ HB.out af.out) hb); have n6_ := am_ (hbox); have n7_ := am_ ((by rw [hg]; exact (below_size (b1_ HB.out af.out)) : w.heap.size ≤ ai)); have n8_ := am_ ((by rw [hg]; exact (below_size (b1_ HB.out af.out)) : w.heap.size ≤ ai)); have n9_ := am_ ((by rw [hg]; exact Nat.ne_of_lt (blk_lt (rb_ aa.out)) : an ≠ ai)); have n10_ := am_ ((by rw [hg]; exact Nat.ne_of_gt (blk_lt (rb_ aa.out)) : ai ≠ an)); clear ad; clear ae; clear ag; clear ah; clear aa; clear HB; have ad := n0_; have ae := n1_; have ag := n2_; have ah := n3_; have aa := n4_; have HB := n5_; have ab := n6_; have bv := n7_; have aw := n8_; have av := n9_; have aG := n10_; clear n0_ n1_ n2_ n3_ n4_ n5_ n6_ n7_ n8_ n9_ n10_; clear hb hbox hg; obtain ⟨ap, ao, aV⟩ := Kd.R_slice ag.out; subst aV; have bw := aG.out; have bx := av.out; have bn := ck_ (v := (.slice none 0 0)) ab 0 rfl; have bo := ck_ (v := (.slice none 0 0)) ab 1 rfl; have bp := blk_frozen ab.out 0; have bq := blk_frozen ab.out 1; obtain ⟨ar, aq, aW⟩ := Kd.S_slice ah.out; subst aW) | ((with_reducible refine gate_callee (f := 9) rfl ?_); refine gL_ (some 18) Try.func9 #[.agg #[.slice ap aj.length ao, .slice ar ak.length aq]] ?_; (with_reducible refine (impl_IsFinite.calls k _ _ aj _ _ ak am _ ?side1 ?side2 ?side3 ?side4 A10.out).mono ?_); (case side1 => refine (Kd.R_reads' (e := 4) (base := w.heap.size) (ok := fun k_ => (True ∧ some k_ ≠ (.slice aM aE.length aN : Value).ownBlock)) (n := aj.length) (c := ao) ?_).2.2; exact (rr_ (Kd.R_mono (Kd.R_far (p := ⟨ai, 1, none⟩) (Kd.R_far (p := ⟨ai, 0, none⟩) (Kd.R_types ag.out ab.out (by decide)) (fun _ hk => hk.2) (.slice ap aj.length ao)) (fun _ hk => hk.2) (.slice ar ak.length aq)) (fun _ h_ => h_.1)))); (case side2 => exact (Kd.R_reads' ag.out).2.1); (case side3 => refine (Kd.S_reads' (e := 43) (base := w.heap.size) (ok := fun k_ => (True ∧ some k_ ≠ (.slice aO aF.length aP : Value).ownBlock)) (n := ak.length) (c := aq) ?_).2.2; exact (rs_ (Kd.S_mono (Kd.S_far (p := ⟨ai, 1, none⟩) (Kd.S_far (p := ⟨ai, 0, none⟩) (Kd.S_types ah.out ab.out (by decide)) (fun _ hk => hk.2) (.slice ap aj.length ao)) (fun _ hk => hk.2) (.slice ar ak.length aq)) (fun _ h_ => h_.1)))); (case side4 => exact (Kd.S_reads' ah.out).2.1); rintro e w30 ⟨rfl, hb⟩; refine ⟨_, rfl, ?_⟩; have n0_ := am_ (Kd.R_below (rr_ (Kd.R_mono (Kd.R_far (p := ⟨ai, 1, none⟩) (Kd.R_far (p := ⟨ai, 0, none⟩) (Kd.R_types ad.out ab.out (by decide)) (fun _ hk => hk.2) (.slice ap aj.length ao)) (fun _ hk => hk.2) (.slice ar ak.length aq)) (fun _ h_ => h_.1))) hb); have n1_ := am_ (Kd.S_below (rs_ (Kd.S_mono (Kd.S_far (p := ⟨ai, 1, none⟩) (Kd.S_far (p := ⟨ai, 0, none⟩) (Kd.S_types ae.out ab.out (by decide)) (fun _ hk => hk.2) (.slice ap aj.length ao)) (fun _ hk => hk.2) (.slice ar ak.length aq)) (fun _ h_ => h_.1))) hb); have n2_ := am_ (Kd.R_below (rr_ (Kd.R_mono (Kd.R_far (p := ⟨ai, 1, none⟩) (Kd.R_far (p := ⟨ai, 0, none⟩) (Kd.R_types ag.out ab.out (by decide)) (fun _ hk => hk.2) (.slice ap aj.length ao)) (fun _ hk => hk.2) (.slice ar ak.length aq)) (fun _ h_ => h_.1))) hb); have n3_ := am_ (Kd.S_below (rs_ (Kd.S_mono (Kd.S_far (p := ⟨ai, 1, none⟩) (Kd.S_far (p := ⟨ai, 0, none⟩) (Kd.S_types ah.out ab.out (by decide)) (fun _ hk => hk.2) (.slice ap aj.length ao)) (fun _ hk => hk.2) (.slice ar ak.length aq)) (fun _ h_ => h_.1))) hb); have n4_ := am_ (blk_below (g := an) (o := .cells #[.slice A0_0 l0_0.length c0_0, .slice A0_1 l0_1.length c0_1] 25 (0, 0)) (by refine rb_ ?_; refine blk_far ?_ av.out _; refine rb_ ?_; refine blk_far ?_ av.out _; refine rb_ ?_; exact aa.out) hb); have n5_ := am_ (blk_below (g := ai) (o := .cells #[.slice ap aj.length ao, .slice ar ak.length aq] 28 (0, 0)) (by refine rb_ ?_; refine blk_put (cs := #[.slice ap aj.length ao, .slice none 0 0]) ?_ 1 _ rfl; refine rb_ ?_; refine blk_put (cs := #[.slice none 0 0, .slice none 0 0]) ?_ 0 _ rfl; refine rb_ ?_; exact ab.out) hb); have n6_ := am_ (below_step (b2_ HB.out af.out aw.out) hb); clear ad; clear ae; clear ag; clear ah; clear aa; clear ab; clear HB; have ad := n0_; have ae := n1_; have ag := n2_; have ah := n3_; have aa := n4_; have ab := n5_; have HB := n6_; clear n0_ n1_ n2_ n3_ n4_ n5_ n6_; (try clear hb); (try clear hb2); (try clear hk); (try clear hi)))
    replace ad := am_ (Kd.R_drew ad.out)
    replace ae := am_ (Kd.S_drew ae.out)
    replace ag := am_ (Kd.R_drew ag.out)
    replace ah := am_ (Kd.S_drew ah.out)
    replace aa := am_ (blk_drew aa.out)
    replace ab := am_ (blk_drew ab.out)
    replace HB := am_ (below_drew1 HB.out)
    refine start_ (n := 5) (S := fun w' => w'.cell? ⟨ai, 0, none⟩ = some (.slice ap aj.length ao) ∧ w'.cell? ⟨ai, 1, none⟩ = some (.slice ar ak.length aq) ∧ w'.cell? ⟨an, 0, none⟩ = some (.slice A0_0 l0_0.length c0_0) ∧ w'.cell? ⟨an, 1, none⟩ = some (.slice A0_1 l0_1.length c0_1)) (ds := []) #[false, false, false, false, false] (by kernel_rfl) rfl rfl ⟨(blk_cell ab.out 0).trans rfl, (blk_cell ab.out 1).trans rfl, (blk_cell aa.out 0).trans rfl, (blk_cell aa.out 1).trans rfl⟩ (fun hHeld => ?_)
    generalize w30.drew = w31 at ad ae ag ah aa ab HB hHeld ⊢
    refine take_ (i := 0) (N := some 22) (v := ?_) (a' := ?_) #[true, false, false, false, false] rfl rfl (by kernel_rfl) (fun _ _ _ h => h) (Or.inl ⟨by rfl, ?_⟩) hHeld ?_ ?_
    rotate_left; (focus (rintro w' ⟨s0, s1, s2, s3⟩; go_simp; with_reducible rfl)); rotate_left; (focus (simp only [pn_, sz_, ss_, i64_w, i32_w]; rfl))
    refine take_ (i := 1) (N := some 23) (v := ?_) (a' := ?_) #[true, true, false, false, false] rfl rfl (by kernel_rfl) (fun _ _ _ h => h) (Or.inl ⟨by rfl, ?_⟩) hHeld ?_ ?_
    rotate_left; (focus (rintro w' ⟨s0, s1, s2, s3⟩; go_simp; with_reducible rfl)); rotate_left; (focus (simp only [pn_, sz_, ss_, i64_w, i32_w]; rfl))
    refine one_ (i := 2) (N := some 24) #[true, true, true, false, false] rfl rfl (by kernel_rfl) (by decide) (fun K hK => ?_)
    refine gO_ Try.func8 #[.agg #[.slice A0_0 l0_0.length c0_0, .slice A0_1 l0_1.length c0_1]] ?_
    with_reducible refine (laws_toDfa.calls k _ _ l0_0 _ _ l0_1 aH aI _ ?side1 ?side2 ?side3 ?side4 A12.out).mono ?_
    (case side1 => exact rc_ (Kd.C_below ax.out HB.out))
    (case side2 => exact ay.out)
    (case side3 => exact rc_ (Kd.C_below az.out HB.out))
    (case side4 => exact aA.out)
    rintro e w32 ⟨bD, bE, rfl, ho0, ho1, hb⟩
    refine ⟨_, rfl, ?_⟩
    replace aB := am_ (Kd.R_lower (Kd.R_new' (Kd.R_new' ho0 (Kd.R_lt (rr_ ad.out))) (Kd.R_lt (rr_ ag.out))) (below_size (b2_ HB.out af.out aw.out)))
    replace ad := am_ (Kd.R_elder' (rr_ ad.out) (Kd.R_base ho0) hb)
    replace ag := am_ (Kd.R_elder' (rr_ ag.out) (Kd.R_base ho0) hb)
    replace aC := am_ (Kd.S_lower (Kd.S_new' (Kd.S_new' ho1 (Kd.S_lt (rs_ ae.out))) (Kd.S_lt (rs_ ah.out))) (below_size (b2_ HB.out af.out aw.out)))
    replace ae := am_ (Kd.S_elder' (rs_ ae.out) (Kd.S_base ho1) hb)
    replace ah := am_ (Kd.S_elder' (rs_ ah.out) (Kd.S_base ho1) hb)
    replace aa := am_ (blk_below (rb_ aa.out) hb)
    replace ab := am_ (blk_below (rb_ ab.out) hb)
    replace HB := am_ (below_step (b2_ HB.out af.out aw.out) hb)
    (try clear hb)
    (try clear hb2)
    (try clear hk)
    (try clear hi)
    (try clear ho0)
    (try clear ho1)
    obtain ⟨aX, aY, aQ⟩ := Kd.R_slice aB.out
    (first | subst aQ | (injection aQ with f1_ f2_ f3_; have f4_ := f1_.symm; have f5_ := f3_.symm; clear f1_ f2_ f3_; subst f4_; subst f5_))
    obtain ⟨aZ, ba, aR⟩ := Kd.S_slice aC.out
    (first | subst aR | (injection aR with f1_ f2_ f3_; have f4_ := f1_.symm; have f5_ := f3_.symm; clear f1_ f2_ f3_; subst f4_; subst f5_))
    refine hK.out _ _ ⟨(blk_cell ab.out 0).trans rfl, (blk_cell ab.out 1).trans rfl, (blk_cell aa.out 0).trans rfl, (blk_cell aa.out 1).trans rfl⟩ (fun hHeld => ?_)
    clear hK K
    refine norm_ (a' := ?_) ?_ ?_
    rotate_left
    ·show Act.put _ (some 24) _ = _
     simp only [pn_, sz_, ss_, i64_w, i32_w]
     rfl
    refine one_ (i := 3) (N := some 25) #[true, true, true, true, false] rfl rfl (by kernel_rfl) (by decide) (fun K hK => ?_)
    refine gO_ Try.func10 #[.agg #[.slice ap aj.length ao, .slice ar ak.length aq], .agg #[.slice aX aH.length aY, .slice aZ aI.length ba]] ?_
    with_reducible refine (laws_eqDfa.calls k _ _ aj _ _ ak _ _ aH _ _ aI true _ ?side1 ?side2 ?side3 ?side4 ?side5 ?side6 ?side7 ?side8 A13.out).mono ?_
    (case side1 => exact rc_ ((Kd.R_reads' ag.out).2.2))
    (case side2 => exact (Kd.R_reads' ag.out).2.1)
    (case side3 => exact rc_ ((Kd.S_reads' ah.out).2.2))
    (case side4 => exact (Kd.S_reads' ah.out).2.1)
    (case side5 => exact rc_ ((Kd.R_reads' aB.out).2.2))
    (case side6 => exact (Kd.R_reads' aB.out).2.1)
    (case side7 => exact rc_ ((Kd.S_reads' aC.out).2.2))
    (case side8 => exact (Kd.S_reads' aC.out).2.1)
    rintro e w35 ⟨rfl, hb⟩
    refine ⟨_, rfl, ?_⟩
    replace ad := am_ (Kd.R_below (rr_ ad.out) hb)
    replace ae := am_ (Kd.S_below (rs_ ae.out) hb)
    replace ag := am_ (Kd.R_below (rr_ ag.out) hb)
    replace ah := am_ (Kd.S_below (rs_ ah.out) hb)
    replace aB := am_ (Kd.R_below (rr_ aB.out) hb)
    replace aC := am_ (Kd.S_below (rs_ aC.out) hb)
    replace aa := am_ (blk_below (rb_ aa.out) hb)
    replace ab := am_ (blk_below (rb_ ab.out) hb)
    replace HB := am_ (below_step (b2_ HB.out af.out aw.out) hb)
    (try clear hb)
    (try clear hb2)
    (try clear hk)
    (try clear hi)
    refine hK.out _ _ ⟨(blk_cell ab.out 0).trans rfl, (blk_cell ab.out 1).trans rfl, (blk_cell aa.out 0).trans rfl, (blk_cell aa.out 1).trans rfl⟩ (fun hHeld => ?_)
    clear hK K
    refine norm_ (a' := ?_) ?_ ?_
    rotate_left
    ·show Act.put _ (some 25) _ = _
     simp only [pn_, sz_, ss_, i64_w, i32_w]
     rfl
    refine pure_ (i := 4) (N := some 26) (v := ?_) (a' := ?_) #[true, true, true, true, true] rfl rfl (by kernel_rfl) (fun _ _ _ h => h) (Or.inl ⟨by rfl, ?_⟩) ?_ ?_
    rotate_left; (focus (intro w'; go_simp; with_reducible rfl)); rotate_left; (focus (simp only [pn_, sz_, ss_, i64_w, i32_w]; rfl))
    refine done_ (by kernel_rfl) ?_
    try go_wp2
    go_ret
    exact ⟨by first | rfl | (simp [errW_none, errW_some] <;> rfl) | (simp [*, errW_none, errW_some] <;> rfl), by repeat (first | (with_reducible first | exact HB.out | apply below_alloc | apply pw_below_drewN | apply below_drew1 | refine below_set ?_ af.out | refine below_set ?_ aw.out) | exact HB.out)⟩
   ·replace c14 := Bool.eq_false_iff.mpr c14
    subst c14
    have H1 : (some false) = some r := by rw [if_neg (show ¬ (false = true) by decide)] at H; exact H
    clear H
    have H := H1
    clear H1
    obtain rfl := Option.some.inj H
    exact absurd hR (by decide)
end Go.Proofs.Ytpgdhpnmagmooaa.P
end
section
namespace Go.Proofs.Ytpgdhpnmagmooaa.St
open Go.Proofs.Ytpgdhpnmagmooaa Rk
def FnExactIsFinite : Prop := ∀ (l0_0 : List Bool) (l0_1 : List (List Int)), (rowsOf (fun _ => True)) l0_0 → (rowsOf (rowsOf (wfI .i64))) l0_1 → ∃ k, P.laws_FnExactIsFinite.f k l0_0 l0_1 = some true
end Go.Proofs.Ytpgdhpnmagmooaa.St
end
section
namespace Go.Proofs.Ytpgdhpnmagmooaa.Rc
open Go.RowKit Go.Proofs.Ytpgdhpnmagmooaa Go.Proofs.Ytpgdhpnmagmooaa.P Go.Proofs.Ytpgdhpnmagmooaa.Pl Go.Proofs.Ytpgdhpnmagmooaa.Wk Go.Proofs.YtpgdhpnmagmooaaW.PrintWords Go.Proofs.YtpgdhpnmagmooaaW.PrintLast Go.Proofs.YtpgdhpnmagmooaaW.PrintMore
set_option linter.unusedVariables false
set_option linter.unusedSimpArgs false
theorem at_rd {l : List Int} {q : Nat} (h : q < l.length) : rd l (q : Int) = at_ l q := by
  rw [rd_get l q h]
  unfold at_
  rw [List.getD_eq_getElem?_getD, List.getElem?_eq_getElem h]
  rfl
theorem clX_good {n : Nat} {l : List Int} (hl : Good n l) {q x : Nat} (hq : q < n) (hx : x < n) : Good n (clX l q x) := by
  unfold clX
  split
  · have hs := fun p => at_set (l := l) (q := q) (by rw [hl.1]; exact hq) (Go.bits .or .u64 (at_ l q) (at_ l x)) p
    refine ⟨by rw [List.length_set]; exact hl.1, fun p hp => ?_⟩
    rw [hs]; split
    · exact (or_bits (hl.2 q hq) (hl.2 x hx)).1
    · exact hl.2 p hp
  · exact hl
theorem clR_good {n : Nat} {q : Nat} (hq : q < n) : ∀ (d x : Nat) (l : List Int), x + d = n → Good n l → Good n (clR l q d x)
  | 0, x, l, h, hl => hl
  | d + 1, x, l, h, hl => clR_good hq d (x + 1) (clX l q x) (by omega) (clX_good hl hq (by omega))
theorem clQ_good {n : Nat} : ∀ (d q : Nat) (l : List Int), q + d = n → Good n l → Good n (clQ n l d q)
  | 0, q, l, h, hl => hl
  | d + 1, q, l, h, hl => clQ_good d (q + 1) _ (by omega) (clR_good (by omega) n 0 l (by omega) hl)
theorem cl_l4 {n : Nat} (hn : n ≤ 40) {res : List Int} (q : Nat) (hq : q < n) (r : Int) : ∀ (d i : Nat) (l : List Int), i + d = n → Good n l →
    (∀ l', l' = clR l q d i → Ev (fun k => impl_closure.l3 k l' (n : Int) r (n : Int) ((q + 1 : Nat) : Int)) res) →
    Ev (fun k => impl_closure.l4 k l (q : Int) (n : Int) r (n : Int) (q : Int) (n : Int) (i : Int)) res
  | 0, i, l, hi, hl, h => by
    refine next ?_
    simp only [impl_closure.l4, if_neg (show ¬ (i : Int) < (n : Int) by omega), up1 (show q < 9223372036854775807 by omega)]
    exact h l rfl
  | d + 1, i, l, hi, hl, h => by
    refine next ?_
    have e1 := at_rd (l := l) (q := q) (by rw [hl.1]; exact hq)
    have e2 := at_rd (l := l) (q := i) (by rw [hl.1]; omega)
    have hb := bit_test (hl.2 q hq) (q := i) (by omega)
    simp only [impl_closure.l4, if_pos (show (i : Int) < (n : Int) by omega), if_pos (show (0 : Int) ≤ (q : Int) by omega), if_pos (show (q : Int) < (l.length : Int) by rw [hl.1]; omega), if_pos (show (0 : Int) ≤ (i : Int) by omega), e1, e2, Int.toNat_natCast, up1 (show i < 9223372036854775807 by omega)]
    by_cases hbit : bit (at_ l q) i = true
    · simp only [if_pos (hb.2 hbit), if_pos (show (i : Int) < (l.length : Int) by rw [hl.1]; omega)]
      have e3 : clX l q i = l.set q (Go.bits .or .u64 (at_ l q) (at_ l i)) := by rw [clX, if_pos hbit]
      rw [← e3]
      exact cl_l4 hn q hq r d (i + 1) (clX l q i) (by omega) (clX_good hl hq (by omega)) (fun l' e => h l' (by rw [e, clR]))
    · simp only [if_neg (fun e => hbit (hb.1 e))]
      have e3 : clX l q i = l := by rw [clX, if_neg hbit]
      exact cl_l4 hn q hq r d (i + 1) l (by omega) hl (fun l' e => h l' (by rw [e, clR, e3]))
theorem cl_l3 {n : Nat} (hn : n ≤ 40) {res : List Int} (r : Nat) (hr : r < 1000) : ∀ (d q : Nat) (l : List Int), q + d = n → Good n l →
    (∀ l', l' = clQ n l d q → Ev (fun k => impl_closure.l2 k l' (n : Int) ((r + 1 : Nat) : Int)) res) →
    Ev (fun k => impl_closure.l3 k l (n : Int) (r : Int) (n : Int) (q : Int)) res
  | 0, q, l, hi, hl, h => by
    refine next ?_
    simp only [impl_closure.l3, if_neg (show ¬ (q : Int) < (n : Int) by omega), up1 (show r < 9223372036854775807 by omega)]
    exact h l rfl
  | d + 1, q, l, hi, hl, h => by
    refine next ?_
    simp only [impl_closure.l3, if_pos (show (q : Int) < (n : Int) by omega), hl.1]
    refine cl_l4 hn q (by omega) r n 0 l (by omega) hl (fun l' e => ?_)
    subst e
    exact cl_l3 hn r hr d (q + 1) _ (by omega) (clR_good (by omega) n 0 l (by omega) hl) (fun l' e => h l' (by rw [e, clQ]))
theorem cl_l2 {n : Nat} (hn : n ≤ 40) : ∀ (d r : Nat) (l : List Int), r + d = n → Good n l → Ev (fun k => impl_closure.l2 k l (n : Int) (r : Int)) (clN n d l)
  | 0, r, l, hi, hl => by
    refine next ?_
    simp only [impl_closure.l2, if_neg (show ¬ (r : Int) < (n : Int) by omega)]
    exact Ev.now _
  | d + 1, r, l, hi, hl => by
    refine next ?_
    simp only [impl_closure.l2, if_pos (show (r : Int) < (n : Int) by omega), hl.1]
    refine cl_l3 hn r (by omega) n 0 l (by omega) hl (fun l' e => ?_)
    subst e
    exact cl_l2 hn d (r + 1) _ (by omega) (clQ_good n 0 l (by omega) hl)
theorem cl_l1 {n : Nat} (hn : n ≤ 40) (nxt : List (List Int)) (row : List Int) (hrow : ∀ y ∈ row, 0 ≤ y ∧ y < (n : Int)) (hlen : row.length ≤ 1000) (q : Nat) (hq : q < n) : ∀ (d i : Nat) (l : List Int), i + d = row.length → Good n l →
    ∃ l', Good n l' ∧ (∀ p, p ≠ q → at_ l' p = at_ l p) ∧ (∀ y : Nat, bit (at_ l' q) y = true ↔ bit (at_ l q) y = true ∨ (y : Int) ∈ row.drop i) ∧
      ∀ res, Ev (fun k => impl_closure.l0 k l' nxt (n : Int) ((q + 1 : Nat) : Int)) res → Ev (fun k => impl_closure.l1 k l (q : Int) nxt (n : Int) (q : Int) row (row.length : Int) (i : Int)) res
  | 0, i, l, hi, hl => by
    refine ⟨l, hl, fun _ _ => rfl, fun y => ?_, fun res h => ?_⟩
    · rw [List.drop_eq_nil_of_le (by omega)]; simp
    · refine next ?_
      simp only [impl_closure.l1, if_neg (show ¬ (i : Int) < (row.length : Int) by omega), up1 (show q < 9223372036854775807 by omega)]
      exact h
  | d + 1, i, l, hi, hl => by
    have hil : i < row.length := by omega
    have hy := hrow row[i] (List.getElem_mem _)
    obtain ⟨z, hz⟩ : ∃ z : Nat, row[i] = (z : Int) := ⟨row[i].toNat, by omega⟩
    have e1 := at_rd (l := l) (q := q) (by rw [hl.1]; exact hq)
    obtain ⟨b1, b2⟩ := bit_or (hl.2 q hq) (q := z) (by omega)
    have hs := fun p => at_set (l := l) (q := q) (by rw [hl.1]; exact hq) (Go.bits .or .u64 (at_ l q) (shl .u64 1 (z : Int))) p
    obtain ⟨l', g1, g2, g3, g4⟩ := cl_l1 hn nxt row hrow hlen q hq d (i + 1) (l.set q (Go.bits .or .u64 (at_ l q) (shl .u64 1 (z : Int)))) (by omega) ⟨by rw [List.length_set]; exact hl.1, fun p hp => by
      rw [hs]; split
      · exact b1
      · exact hl.2 p hp⟩
    refine ⟨l', g1, fun p hp => ?_, fun y => ?_, fun res h => ?_⟩
    · rw [g2 p hp, hs, if_neg hp]
    · rw [g3, hs, if_pos rfl, b2, List.drop_eq_getElem_cons hil, hz, List.mem_cons, Bool.or_eq_true, decide_eq_true_iff, or_assoc]
      have : y = z ↔ (y : Int) = (z : Int) := by omega
      rw [this]
    · refine next ?_
      simp only [impl_closure.l1, if_pos (show (i : Int) < (row.length : Int) by omega), if_pos (show (0 : Int) ≤ (i : Int) by omega), if_pos (show (0 : Int) ≤ (q : Int) by omega), if_pos (show (q : Int) < (l.length : Int) by rw [hl.1]; omega), rd_get row i hil, hz, if_pos (show (0 : Int) ≤ (z : Int) by omega), e1, Int.toNat_natCast, up1 (show i < 9223372036854775807 by omega)]
      exact g4 res h
theorem cl_l0 {acc : List Bool} {nxt : List (List Int)} (hv : validD acc nxt = true) {n : Nat} (hna : n = acc.length) (hnn : n = nxt.length) (hn : n ≤ 40) : ∀ (d i : Nat) (l : List Int), i + d = n → Good n l → (∀ p y : Nat, p < n → (bit (at_ l p) y = true ↔ p < i ∧ (y : Int) ∈ rd_L1 nxt p)) →
    ∃ l', Good n l' ∧ (∀ p y : Nat, p < n → (bit (at_ l' p) y = true ↔ (y : Int) ∈ rd_L1 nxt p)) ∧ ∀ res, Ev (fun k => impl_closure.l2 k l' (n : Int) 0) res → Ev (fun k => impl_closure.l0 k l nxt (n : Int) (i : Int)) res
  | 0, i, l, hi, hl, hb => by
    refine ⟨l, hl, fun p y hp => ?_, fun res h => ?_⟩
    · rw [hb p y hp]
      exact ⟨fun h => h.2, fun h => ⟨by omega, h⟩⟩
    · refine next ?_
      simp only [impl_closure.l0, if_neg (show ¬ (i : Int) < (n : Int) by omega), hl.1]
      exact h
  | d + 1, i, l, hi, hl, hb => by
    have hin : i < n := by omega
    have hrow : ∀ y ∈ rd_L1 nxt (i : Int), 0 ≤ y ∧ y < (n : Int) := fun y hy => by
      obtain ⟨j, hj, rfl⟩ := List.getElem_of_mem hy
      have hl3 := (next_range hv (i : Int) (by omega) (by omega) 0 (by omega) (by omega)).1
      have := next_range hv (i : Int) (by omega) (by omega) (j : Int) (by omega) (by omega)
      rw [rd_get _ j hj] at this
      rw [hna]
      exact this.2
    have hl3 := (next_range hv (i : Int) (by omega) (by omega) 0 (by omega) (by omega)).1
    obtain ⟨l1, g1, g2, g3, g4⟩ := cl_l1 hn nxt (rd_L1 nxt (i : Int)) hrow (by omega) i hin (rd_L1 nxt (i : Int)).length 0 l (by omega) hl
    obtain ⟨l', k1, k2, k3⟩ := cl_l0 hv hna hnn hn d (i + 1) l1 (by omega) g1 (fun p y hp => by
      by_cases e : p = i
      · subst e
        rw [g3, hb p y hp, List.drop_zero]
        constructor
        · rintro (⟨h, _⟩ | h)
          · omega
          · exact ⟨by omega, h⟩
        · rintro ⟨_, h⟩; exact Or.inr h
      · rw [g2 p e, hb p y hp]
        constructor
        · rintro ⟨h1, h2⟩; exact ⟨by omega, h2⟩
        · rintro ⟨h1, h2⟩; exact ⟨by omega, h2⟩)
    refine ⟨l', k1, k2, fun res h => ?_⟩
    refine next ?_
    simp only [impl_closure.l0, if_pos (show (i : Int) < (n : Int) by omega), if_pos (show (0 : Int) ≤ (i : Int) by omega), if_pos (show (i : Int) < (nxt.length : Int) by omega)]
    exact g4 res (k3 res h)
theorem closure_ev {acc : List Bool} {nxt : List (List Int)} (hv : validD acc nxt = true) {n : Nat} (hna : n = acc.length) (hnn : n = nxt.length) (hn : n ≤ 40) :
    ∃ far, Ev (fun k => impl_closure.f k acc nxt) far ∧ Good n far ∧ ∀ q y : Nat, q < n → (bit (at_ far q) y = true ↔ ∃ r, Rn (rd_L1 nxt) q r y) := by
  have hz : Good n (List.replicate n 0) := ⟨List.length_replicate, fun q hq => by
    unfold at_
    rw [List.getD_eq_getElem?_getD, List.getElem?_replicate]
    split <;> exact ⟨by decide, by decide⟩⟩
  have hz0 : ∀ p : Nat, at_ (List.replicate n 0) p = 0 := fun p => by
    unfold at_
    rw [List.getD_eq_getElem?_getD, List.getElem?_replicate]
    split <;> rfl
  obtain ⟨l', k1, k2, k3⟩ := cl_l0 hv hna hnn hn n 0 (List.replicate n 0) (by omega) hz (fun p y hp => by
    rw [hz0, bit_zero]
    exact ⟨fun h => Bool.noConfusion h, fun h => absurd h.1 (by omega)⟩)
  have hr : ∀ x, 0 ≤ x → x < (n : Int) → ∀ y ∈ rd_L1 nxt x, 0 ≤ y ∧ y < (n : Int) := fun x h0 h1 y hy => by
    obtain ⟨j, hj, rfl⟩ := List.getElem_of_mem hy
    have hl3 := (next_range hv x h0 (by omega) 0 (by omega) (by omega)).1
    have := next_range hv x h0 (by omega) (j : Int) (by omega) (by omega)
    rw [rd_get _ j hj] at this
    rw [hna]
    exact this.2
  have hne : ∀ x, 0 ≤ x → x < (n : Int) → rd_L1 nxt x ≠ [] := fun x h0 h1 e => by
    have hl3 := (next_range hv x h0 (by omega) 0 (by omega) (by omega)).1
    rw [e] at hl3
    cases hl3
  refine ⟨clN n n l', ?_, ?_, fun q y hq => cl_full hr hne k1 k2 q y hq⟩
  · simp only [impl_closure.f, ← hnn, if_pos (show (0 : Int) ≤ (n : Int) by omega), Int.toNat_natCast, if_pos (show n ≤ 35184372088832 by omega)]
    exact k3 _ (cl_l2 hn n 0 l' (by omega) k1)
  · exact (clN_ok (R := fun _ _ => True) (fun _ _ _ _ _ => trivial) n l' k1 (fun q hq y h => ⟨by
      have := hr q (by omega) (by omega) _ ((k2 q y hq).1 h)
      omega, trivial⟩)).1
end Go.Proofs.Ytpgdhpnmagmooaa.Rc
end
section
namespace Go.Proofs.Ytpgdhpnmagmooaa.Rc
open Go.RowKit Go.Proofs.Ytpgdhpnmagmooaa Go.Proofs.Ytpgdhpnmagmooaa.P Go.Proofs.Ytpgdhpnmagmooaa.Pl Go.Proofs.Ytpgdhpnmagmooaa.Wk Go.Proofs.YtpgdhpnmagmooaaW.PrintWords Go.Proofs.YtpgdhpnmagmooaaW.PrintLast Go.Proofs.YtpgdhpnmagmooaaW.PrintMore
set_option linter.unusedVariables false
set_option linter.unusedSimpArgs false
theorem find_l0 (l : List Int) (y : Int) (hl : l.length ≤ 1000) : ∀ d i : Nat, i + d = l.length → ∃ v, Ev (fun k => spec_l5Find.l0 k l y (i : Int)) v ∧ (v ≥ 0 ↔ y ∈ l.drop i)
  | 0, i, h => ⟨-1, by
    refine next ?_
    simp only [spec_l5Find.l0, if_neg (show ¬ (i : Int) < (l.length : Int) by omega)]
    exact Ev.now _, by rw [List.drop_eq_nil_of_le (by omega)]; simp⟩
  | d + 1, i, h => by
    have hi : i < l.length := by omega
    have hd := List.drop_eq_getElem_cons hi
    by_cases e : l[i] = y
    · refine ⟨i, ?_, ?_⟩
      · refine next ?_
        simp only [spec_l5Find.l0, if_pos (show (i : Int) < (l.length : Int) by omega), if_pos (show (0 : Int) ≤ (i : Int) by omega), rd_get l i hi, if_pos e]
        exact Ev.now _
      · rw [hd, e]; simp;
    · obtain ⟨v, h1, h2⟩ := find_l0 l y hl d (i + 1) (by omega)
      refine ⟨v, ?_, ?_⟩
      · refine next ?_
        simp only [spec_l5Find.l0, if_pos (show (i : Int) < (l.length : Int) by omega), if_pos (show (0 : Int) ≤ (i : Int) by omega), rd_get l i hi, if_neg e, up1 (show i < 9223372036854775807 by omega)]
        exact h1
      · rw [h2, hd, List.mem_cons]
        exact ⟨Or.inr, fun h => h.resolve_left (fun h => e h.symm)⟩
theorem any_l0 (a : List Bool) (n : List (List Int)) (l : List Int) (hr : ∀ z ∈ l, 0 ≤ z ∧ z < (a.length : Int)) (hl : l.length ≤ 1000) : ∀ d i : Nat, i + d = l.length → ∃ b, Ev (fun k => spec_l6Any.l0 k l (i : Int) a n) b ∧ (b = true ↔ ∃ p ∈ l.drop i, rdOf false a p = true)
  | 0, i, h => ⟨false, by
    refine next ?_
    simp only [spec_l6Any.l0, if_neg (show ¬ (i : Int) < (l.length : Int) by omega)]
    exact Ev.now _, by rw [List.drop_eq_nil_of_le (by omega)]; simp⟩
  | d + 1, i, h => by
    have hi : i < l.length := by omega
    have hd := List.drop_eq_getElem_cons hi
    have hz := hr l[i] (List.getElem_mem _)
    by_cases e : rdOf false a l[i] = true
    · refine ⟨true, ?_, ?_⟩
      · refine next ?_
        simp only [spec_l6Any.l0, if_pos (show (i : Int) < (l.length : Int) by omega), if_pos (show (0 : Int) ≤ (i : Int) by omega), rd_get l i hi, if_pos hz.1, if_pos hz.2, if_pos e]
        exact Ev.now _
      · exact ⟨fun _ => ⟨l[i], by rw [hd]; exact List.mem_cons_self, e⟩, fun _ => rfl⟩
    · obtain ⟨b, h1, h2⟩ := any_l0 a n l hr hl d (i + 1) (by omega)
      refine ⟨b, ?_, ?_⟩
      · refine next ?_
        simp only [spec_l6Any.l0, if_pos (show (i : Int) < (l.length : Int) by omega), if_pos (show (0 : Int) ≤ (i : Int) by omega), rd_get l i hi, if_pos hz.1, if_pos hz.2, if_neg e, up1 (show i < 9223372036854775807 by omega)]
        exact h1
      · rw [h2, hd]
        constructor
        · rintro ⟨p, hp, h⟩; exact ⟨p, List.mem_cons_of_mem _ hp, h⟩
        · rintro ⟨p, hp, h⟩
          rcases List.mem_cons.1 hp with rfl | hp
          · exact absurd h e
          · exact ⟨p, hp, h⟩
theorem acc_l0 (a : List Bool) (s : Int) (hs : U64 s) (ha : a.length ≤ 40) : ∀ d i : Nat, i + d = a.length → ∃ b, Ev (fun k => impl_accepting.l0 k s a (a.length : Int) (i : Int)) b ∧ (b = true ↔ ∃ p : Nat, i ≤ p ∧ p < a.length ∧ rdOf false a (p : Int) = true ∧ bit s p = true)
  | 0, i, h => ⟨false, by
    refine next ?_
    simp only [impl_accepting.l0, if_neg (show ¬ (i : Int) < (a.length : Int) by omega)]
    exact Ev.now _, ⟨fun h => Bool.noConfusion h, fun ⟨p, h1, h2, _⟩ => by omega⟩⟩
  | d + 1, i, h => by
    have hb := bit_test hs (q := i) (by omega)
    obtain ⟨b, h1, h2⟩ := acc_l0 a s hs ha d (i + 1) (by omega)
    have step : ¬ (rdOf false a (i : Int) = true ∧ bit s i = true) → (b = true ↔ ∃ p : Nat, i ≤ p ∧ p < a.length ∧ rdOf false a (p : Int) = true ∧ bit s p = true) := fun hn => by
      rw [h2]
      constructor
      · rintro ⟨p, g1, g2, g3⟩; exact ⟨p, by omega, g2, g3⟩
      · rintro ⟨p, g1, g2, g3⟩
        by_cases e : p = i
        · subst e; exact absurd g3 hn
        · exact ⟨p, by omega, g2, g3⟩
    by_cases e : rdOf false a (i : Int) = true
    · by_cases e2 : bit s i = true
      · refine ⟨true, ?_, ⟨fun _ => ⟨i, Nat.le_refl _, by omega, e, e2⟩, fun _ => rfl⟩⟩
        refine next ?_
        simp only [impl_accepting.l0, if_pos (show (i : Int) < (a.length : Int) by omega), if_pos (show (0 : Int) ≤ (i : Int) by omega), if_pos e, if_pos (hb.2 e2)]
        exact Ev.now _
      · refine ⟨b, ?_, step (fun h => e2 h.2)⟩
        refine next ?_
        simp only [impl_accepting.l0, if_pos (show (i : Int) < (a.length : Int) by omega), if_pos (show (0 : Int) ≤ (i : Int) by omega), if_pos e, if_neg (fun h => e2 (hb.1 h)), up1 (show i < 9223372036854775807 by omega)]
        exact h1
    · refine ⟨b, ?_, step (fun h => e h.1)⟩
      refine next ?_
      simp only [impl_accepting.l0, if_pos (show (i : Int) < (a.length : Int) by omega), if_pos (show (0 : Int) ≤ (i : Int) by omega), if_neg e, up1 (show i < 9223372036854775807 by omega)]
      exact h1
theorem impl_l0 {a : List Bool} {nx : List (List Int)} {far : List Int} (hl : Good a.length far) (ha : a.length ≤ 40) : ∀ d i : Nat, i + d = a.length →
    ∃ b, Ev (fun k => impl_IsFinite.l0 k far (far.length : Int) (i : Int) a nx) b ∧ (b = false ↔ ∃ q : Nat, i ≤ q ∧ q < a.length ∧ (q = 0 ∨ bit (at_ far 0) q = true) ∧ bit (at_ far q) q = true ∧ ∃ p : Nat, p < a.length ∧ rdOf false a (p : Int) = true ∧ bit (at_ far q) p = true)
  | 0, i, h => ⟨true, by
    refine next ?_
    simp only [impl_IsFinite.l0, if_neg (show ¬ (i : Int) < (far.length : Int) by rw [hl.1]; omega)]
    exact Ev.now _, ⟨fun h => Bool.noConfusion h, fun ⟨q, h1, h2, _⟩ => by omega⟩⟩
  | d + 1, i, h => by
    have hi : i < a.length := by omega
    have hif : (i : Int) < (far.length : Int) := by rw [hl.1]; omega
    have e1 := at_rd (l := far) (q := i) (by rw [hl.1]; exact hi)
    have e0 : rd far 0 = at_ far 0 := at_rd (l := far) (q := 0) (by rw [hl.1]; omega)
    have hb := bit_test (hl.2 i hi) (q := i) (by omega)
    have hb0 := bit_test (hl.2 0 (by omega)) (q := i) (by omega)
    obtain ⟨c, c1, c2⟩ := acc_l0 a (at_ far i) (hl.2 i hi) ha a.length 0 (by omega)
    have c1 : Ev (fun k => impl_accepting.f k a nx (at_ far i)) c := by
      simp only [impl_accepting.f]
      exact c1
    obtain ⟨b, h1, h2⟩ := impl_l0 (nx := nx) hl ha d (i + 1) (by omega)
    have hu := up1 (show i < 9223372036854775807 by omega)
    have step : ¬ ((i = 0 ∨ bit (at_ far 0) i = true) ∧ bit (at_ far i) i = true ∧ c = true) → (b = false ↔ ∃ q : Nat, i ≤ q ∧ q < a.length ∧ (q = 0 ∨ bit (at_ far 0) q = true) ∧ bit (at_ far q) q = true ∧ ∃ p : Nat, p < a.length ∧ rdOf false a (p : Int) = true ∧ bit (at_ far q) p = true) := fun hn => by
      rw [h2]
      constructor
      · rintro ⟨q, g1, g2⟩; exact ⟨q, by omega, g2⟩
      · rintro ⟨q, g1, g2, g3, g4, p, g5, g6⟩
        by_cases e : q = i
        · subst e; exact absurd ⟨g3, g4, c2.2 ⟨p, Nat.zero_le _, g5, g6⟩⟩ hn
        · exact ⟨q, by omega, g2, g3, g4, p, g5, g6⟩
    have found : (i = 0 ∨ bit (at_ far 0) i = true) → bit (at_ far i) i = true → c = true → ((false : Bool) = false ↔ ∃ q : Nat, i ≤ q ∧ q < a.length ∧ (q = 0 ∨ bit (at_ far 0) q = true) ∧ bit (at_ far q) q = true ∧ ∃ p : Nat, p < a.length ∧ rdOf false a (p : Int) = true ∧ bit (at_ far q) p = true) := fun g1 g2 g3 => by
      obtain ⟨p, _, p1, p2⟩ := c2.1 g3
      exact ⟨fun _ => ⟨i, Nat.le_refl _, hi, g1, g2, p, p1, p2⟩, fun _ => rfl⟩
    by_cases z : i = 0
    · subst z
      by_cases f2 : bit (at_ far 0) 0 = true
      · cases c with
        | true =>
          refine ⟨false, ?_, found (Or.inl rfl) f2 rfl⟩
          refine next ?_
          simp only [impl_IsFinite.l0, if_pos hif, if_pos (show ((0 : Nat) : Int) = 0 from rfl), if_pos (show (0 : Int) ≤ ((0 : Nat) : Int) by omega), e1, if_pos (hb.2 f2)]
          refine Ev.bind c1 ?_
          simp only [if_true]
          exact Ev.now _
        | false =>
          refine ⟨b, ?_, step (fun h => Bool.noConfusion h.2.2)⟩
          refine next ?_
          simp only [impl_IsFinite.l0, if_pos hif, if_pos (show ((0 : Nat) : Int) = 0 from rfl), if_pos (show (0 : Int) ≤ ((0 : Nat) : Int) by omega), e1, if_pos (hb.2 f2), hu]
          refine Ev.bind c1 ?_
          simp only [Bool.false_eq_true, if_false]
          exact h1
      · refine ⟨b, ?_, step (fun h => f2 h.2.1)⟩
        refine next ?_
        simp only [impl_IsFinite.l0, if_pos hif, if_pos (show ((0 : Nat) : Int) = 0 from rfl), if_pos (show (0 : Int) ≤ ((0 : Nat) : Int) by omega), e1, if_neg (fun h => f2 (hb.1 h)), hu]
        exact h1
    · have zi : ¬ (i : Int) = 0 := by omega
      have f0 : (0 : Int) < (far.length : Int) := by omega
      by_cases f1 : bit (at_ far 0) i = true
      · by_cases f2 : bit (at_ far i) i = true
        · cases c with
          | true =>
            refine ⟨false, ?_, found (Or.inr f1) f2 rfl⟩
            refine next ?_
            simp only [impl_IsFinite.l0, if_pos hif, if_neg zi, if_pos f0, if_pos (show (0 : Int) ≤ (i : Int) by omega), e0, e1, if_pos (hb0.2 f1), if_pos (hb.2 f2)]
            refine Ev.bind c1 ?_
            simp only [if_true]
            exact Ev.now _
          | false =>
            refine ⟨b, ?_, step (fun h => Bool.noConfusion h.2.2)⟩
            refine next ?_
            simp only [impl_IsFinite.l0, if_pos hif, if_neg zi, if_pos f0, if_pos (show (0 : Int) ≤ (i : Int) by omega), e0, e1, if_pos (hb0.2 f1), if_pos (hb.2 f2), hu]
            refine Ev.bind c1 ?_
            simp only [Bool.false_eq_true, if_false]
            exact h1
        · refine ⟨b, ?_, step (fun h => f2 h.2.1)⟩
          refine next ?_
          simp only [impl_IsFinite.l0, if_pos hif, if_neg zi, if_pos f0, if_pos (show (0 : Int) ≤ (i : Int) by omega), e0, e1, if_pos (hb0.2 f1), if_neg (fun h => f2 (hb.1 h)), hu]
          exact h1
      · refine ⟨b, ?_, step (fun h => h.1.elim (fun e => z e) f1)⟩
        refine next ?_
        simp only [impl_IsFinite.l0, if_pos hif, if_neg zi, if_pos f0, if_pos (show (0 : Int) ≤ (i : Int) by omega), e0, if_neg (fun h => f1 (hb0.1 h)), hu]
        exact h1
theorem spec_l0 {a : List Bool} {nx : List (List Int)} (ha : a.length ≤ 40) {Lf : Int → List Int} (hf : ∀ z, 0 ≤ z → z < (a.length : Int) → spec_l7Reach.f a nx z = some (Lf z) ∧ (∀ y ∈ Lf z, 0 ≤ y ∧ y < (a.length : Int)) ∧ (Lf z).length ≤ 40) (Z : List Int) (hZ : ∀ z ∈ Z, 0 ≤ z ∧ z < (a.length : Int)) (hZl : Z.length ≤ 1000) : ∀ d i : Nat, i + d = Z.length →
    ∃ b, Ev (fun k => spec_IsFinite.l0 k Z (i : Int) a nx) b ∧ (b = false ↔ ∃ z ∈ Z.drop i, z ∈ Lf z ∧ ∃ p ∈ Lf z, rdOf false a p = true)
  | 0, i, h => ⟨true, by
    refine next ?_
    simp only [spec_IsFinite.l0, if_neg (show ¬ (i : Int) < (Z.length : Int) by omega)]
    exact Ev.now _, by rw [List.drop_eq_nil_of_le (by omega)]; simp⟩
  | d + 1, i, h => by
    have hi : i < Z.length := by omega
    have hd := List.drop_eq_getElem_cons hi
    have hz := hZ Z[i] (List.getElem_mem _)
    obtain ⟨z, ez⟩ : ∃ z, z = Z[i] := ⟨_, rfl⟩
    rw [← ez] at hz hd
    obtain ⟨f1, f2, f3⟩ := hf z hz.1 hz.2
    obtain ⟨v, v1, v2⟩ := find_l0 (Lf z) z (by omega) (Lf z).length 0 (by omega)
    obtain ⟨c, c1, c2⟩ := any_l0 a nx (Lf z) f2 (by omega) (Lf z).length 0 (by omega)
    rw [List.drop_zero] at v2 c2
    have v1 : Ev (fun k => spec_l5Find.f k (Lf z) z) v := by simp only [spec_l5Find.f]; exact v1
    have c1 : Ev (fun k => spec_l6Any.f k a nx (Lf z)) c := by simp only [spec_l6Any.f]; exact c1
    obtain ⟨b, h1, h2⟩ := spec_l0 ha hf Z hZ hZl d (i + 1) (by omega)
    have hu := up1 (show i < 9223372036854775807 by omega)
    have hrd : rd Z (i : Int) = z := by rw [rd_get Z i hi, ez]
    have step : ¬ (z ∈ Lf z ∧ c = true) → (b = false ↔ ∃ z ∈ Z.drop i, z ∈ Lf z ∧ ∃ p ∈ Lf z, rdOf false a p = true) := fun hn => by
      rw [h2, hd]
      constructor
      · rintro ⟨y, g1, g2⟩; exact ⟨y, List.mem_cons_of_mem _ g1, g2⟩
      · rintro ⟨y, g1, g2, g3⟩
        rcases List.mem_cons.1 g1 with rfl | g1
        · exact absurd ⟨g2, c2.2 g3⟩ hn
        · exact ⟨y, g1, g2, g3⟩
    by_cases e : v ≥ 0
    · cases c with
      | true =>
        refine ⟨false, ?_, ⟨fun _ => ⟨z, by rw [hd]; exact List.mem_cons_self, v2.1 e, c2.1 rfl⟩, fun _ => rfl⟩⟩
        refine next ?_
        simp only [spec_IsFinite.l0, if_pos (show (i : Int) < (Z.length : Int) by omega), if_pos (show (0 : Int) ≤ (i : Int) by omega), hrd, f1, Option.bind_some]
        refine Ev.bind v1 ?_
        simp only [if_pos e]
        refine Ev.bind c1 ?_
        simp only [if_true]
        exact Ev.now _
      | false =>
        refine ⟨b, ?_, step (fun h => Bool.noConfusion h.2)⟩
        refine next ?_
        simp only [spec_IsFinite.l0, if_pos (show (i : Int) < (Z.length : Int) by omega), if_pos (show (0 : Int) ≤ (i : Int) by omega), hrd, f1, Option.bind_some, hu]
        refine Ev.bind v1 ?_
        simp only [if_pos e]
        refine Ev.bind c1 ?_
        simp only [Bool.false_eq_true, if_false]
        exact h1
    · refine ⟨b, ?_, step (fun h => e (v2.2 h.1))⟩
      refine next ?_
      simp only [spec_IsFinite.l0, if_pos (show (i : Int) < (Z.length : Int) by omega), if_pos (show (0 : Int) ≤ (i : Int) by omega), hrd, f1, Option.bind_some, hu]
      refine Ev.bind v1 ?_
      simp only [if_neg e]
      exact h1
theorem bool_same {b c : Bool} (h : b = false ↔ c = false) : b = c := by
  cases b <;> cases c <;> simp_all
theorem fin_both (a : List Bool) (nx : List (List Int)) (h1 : a.length ≤ 1048576) (h2 : nx.length ≤ 1048576) : ∃ b, Ev (fun k => spec_IsFinite.f k a nx) b ∧ Ev (fun k => impl_IsFinite.f k a nx) b := by
  simp only [spec_IsFinite.f, impl_IsFinite.f, impl_IsValidDfa.f, Option.bind_some]
  by_cases hv : validD a nx = true
  · have hv2 := hv
    simp only [validD, Bool.and_eq_true, decide_eq_true_eq] at hv2
    obtain ⟨⟨⟨ha1, ha⟩, hn⟩, -⟩ := hv2
    have hr : ∀ x, 0 ≤ x → x < (a.length : Int) → ∀ y ∈ rd_L1 nx x, 0 ≤ y ∧ y < (a.length : Int) := row_range hv
    have hne : ∀ x, 0 ≤ x → x < (a.length : Int) → rd_L1 nx x ≠ [] := fun x h0 h1 e => by
      have hl3 := (next_range hv x h0 h1 0 (by omega) (by omega)).1
      rw [e] at hl3
      cases hl3
    have hL : ∀ z, 0 ≤ z → z < (a.length : Int) → ∃ L, itR (rd_L1 nx) 41 (puts (rd_L1 nx z) []) = some L ∧ Asc L ∧ (∀ y ∈ L, 0 ≤ y ∧ y < (a.length : Int)) ∧ ∀ y, y ∈ L ↔ ∃ r, Rn (rd_L1 nx) z r y := fun z z0 z1 => by
      obtain ⟨L, e1, e2, e3, e4⟩ := reach_ok hr ⟨z0, z1⟩ (hne z z0 z1) 41 (by omega)
      exact ⟨L, e1, e2, fun y hy => (e3 y hy).1, fun y => ⟨fun hy => by obtain ⟨_, r, _, h⟩ := e3 y hy; exact ⟨r, h⟩, fun ⟨r, h⟩ => e4 r y h⟩⟩
    obtain ⟨Lf, hLf⟩ : ∃ Lf : Int → List Int, ∀ z, Lf z = (itR (rd_L1 nx) 41 (puts (rd_L1 nx z) [])).getD [] := ⟨_, fun _ => rfl⟩
    have hLs : ∀ z, 0 ≤ z → z < (a.length : Int) → spec_l7Reach.f a nx z = some (Lf z) ∧ Asc (Lf z) ∧ (∀ y ∈ Lf z, 0 ≤ y ∧ y < (a.length : Int)) ∧ ∀ y, y ∈ Lf z ↔ ∃ r, Rn (rd_L1 nx) z r y := fun z z0 z1 => by
      obtain ⟨L, e1, e2⟩ := hL z z0 z1
      have : Lf z = L := by rw [hLf, e1]; rfl
      rw [this]
      refine ⟨?_, e2⟩
      rw [spec_l7Reach.f, if_pos ⟨hv, hn, ha, z0, z1⟩, e1]
    have hl40 : ∀ z, 0 ≤ z → z < (a.length : Int) → (Lf z).length ≤ 40 := fun z z0 z1 => by
      obtain ⟨_, h1, h2, _⟩ := hLs z z0 z1
      have := asc_len (Lf z) 0 a.length h1 (by omega) h2
      omega
    obtain ⟨far, c1, c2, c3⟩ := closure_ev hv rfl hn.symm ha
    obtain ⟨b, i1, i2⟩ := impl_l0 (nx := nx) c2 ha a.length 0 (by omega)
    obtain ⟨r0, r1, r2, r3⟩ := hLs 0 (by omega) (by omega)
    have hZ : ∀ z ∈ putI 0 (Lf 0), 0 ≤ z ∧ z < (a.length : Int) := fun z hz => by
      rcases (putI_mem 0 (Lf 0) z).1 hz with h | rfl
      · exact r2 z h
      · exact ⟨by omega, by omega⟩
    have hZl := asc_len (putI 0 (Lf 0)) 0 a.length (putI_asc 0 _ r1) (by omega) hZ
    obtain ⟨b', s1, s2⟩ := spec_l0 (nx := nx) ha (Lf := Lf) (fun z z0 z1 => ⟨(hLs z z0 z1).1, (hLs z z0 z1).2.2.1, hl40 z z0 z1⟩) (putI 0 (Lf 0)) hZ (by omega) (putI 0 (Lf 0)).length 0 (by omega)
    have hbb : b' = b := bool_same (by
      rw [s2, i2, List.drop_zero, fin_iff hr (by omega) (acc := rdOf false a) (L := Lf) (fun z z0 z1 => (hLs z z0 z1).2.2.2) (B := fun q y => bit (at_ far q) y) c3]
      constructor
      · rintro ⟨q, g⟩; exact ⟨q, Nat.zero_le _, g⟩
      · rintro ⟨q, _, g⟩; exact ⟨q, g⟩)
    refine ⟨b, ?_, ?_⟩
    · refine Ev.bind (spec_valid a nx h1 h2) ?_
      simp only [hv, if_true, r0, Option.bind_some]
      refine Ev.bind (put_ev (Lf 0) 0 (by have := hl40 0 (by omega) (by omega); omega)) ?_
      rw [← hbb]
      exact s1
    · simp only [hv, if_true]
      exact Ev.bind c1 i1
  · have hv : validD a nx = false := by simpa using hv
    refine ⟨false, ?_, ?_⟩
    · refine Ev.bind (spec_valid a nx h1 h2) ?_
      simp only [hv, Bool.false_eq_true, if_false]
      exact Ev.now _
    · simp only [hv, Bool.false_eq_true, if_false]
      exact Ev.now _
end Go.Proofs.Ytpgdhpnmagmooaa.Rc
end
section
namespace Go.Proofs.Ytpgdhpnmagmooaa.Pl
open Go.RowKit Go.Proofs.Ytpgdhpnmagmooaa.P Go.Proofs.YtpgdhpnmagmooaaW.PrintWords Go.Proofs.YtpgdhpnmagmooaaW.PrintLast Go.Proofs.YtpgdhpnmagmooaaW.PrintMore Wk Rk
set_option linter.unusedVariables false
set_option linter.unusedSimpArgs false
theorem pureFnExactIsFinite : St.FnExactIsFinite := by
  intro a n wa wn
  refine Ev.rounds ?_
  simp only [laws_FnExactIsFinite.f]
  obtain ⟨r, hr, _, _, hsz⟩ := szDfa a n wa.1 wn.1 (lens wn) 1048576 (by omega) (by omega)
  refine Ev.bind hr ?_
  by_cases h : r < 0
  · simp only [if_pos h]
    exact Ev.now _
  · obtain ⟨s1, s2, s3⟩ := hsz (by omega)
    simp only [if_neg h]
    obtain ⟨b, b1, b2⟩ := Rc.fin_both a n s1 s2
    refine Ev.bind (toDfa a n s1 s2 s3) (Ev.bind b1 (Ev.bind (toDfa a n s1 s2 s3) (Ev.bind b2 ?_)))
    simp only [bne_self_eq_false, Bool.false_eq_true, if_false]
    refine Ev.bind (toDfa a n s1 s2 s3) (Ev.bind (sameDfa a n a n s1 s2 s3) ?_)
    simp only [decide_true, Bool.and_self, if_true]
    exact Ev.now _
end Go.Proofs.Ytpgdhpnmagmooaa.Pl
end
section
namespace Go.Proofs.Ytpgdhpnmagmooaa.Pure
theorem FnExactIsFinite : St.FnExactIsFinite := Pl.pureFnExactIsFinite
end Go.Proofs.Ytpgdhpnmagmooaa.Pure
end
section
namespace Go.Proofs.Ytpgdhpnmagmooaa.fnExactIsFinite
open Go.ChangeShapes Go.WideShapes Go.ChangeAt Go.RowKit Go.Proofs.Ytpgdhpnmagmooaa.Rk Go.Proofs.YtpgdhpnmagmooaaW.PrintWords
open Go.ChangeMaps (open_string shut_string)
set_option linter.unusedVariables false
theorem own : ownKnob Try.prog.godebug = none := by kernel_rfl
theorem laidOut : laidOutB Try.prog = true := by kernel_rfl
set_option maxRecDepth 100000 in
theorem lifted (os : Os) (started : os.Started) (H : Type) (enc : TypeId × Value → H) :
    ReturnsInHanded {} Try.checked os 3 .any (Rows.fnExactIsFiniteSpec.pre6 enc Try.prog Try.f3 Rows.fnExactIsFiniteRow.domain false) (Rows.fnExactIsFiniteSpec.post enc Try.prog Try.f3 false true false false) := by
  refine returnsInHanded_of_change_sized (C := Try.checked) own started (by kernel_rfl) Try.func3
    (ChangeSpec.witness6 (enc := enc) (C := Try.checked) false ⟨#[], #[.agg #[.slice none 0 0, .slice none 0 0]], []⟩ 8 (by kernel_rfl) (by kernel_rfl) (by kernel_rfl) (by kernel_rfl)) ?_
  intro W base args ds gs before hval0 hW hcnd hsz0 _
  have hsz : (DataW.weightsEach Try.prog (Try.f3.params.toList ++ Rows.fnExactIsFiniteSpec.plain.varTypes Try.prog) (ds ++ gs)).all (· ≤ reachBytes) = true := hsz0
  have hval : ∀ (j : Nat) t v, Try.f3.params[j]? = some t → args[j]? = some v → Value.okWide Try.prog W .any base t v := hval0
  have hW' := hW
  obtain ⟨p, q, hA0, hV, rfl, hfz, hnd⟩ := hW
  have hA : DataW.TrodAll enc Try.prog W 0 (fun _ => true) true Try.f3.params.toList args.toList ds p := hA0
  rw [Try.params3] at hA hval hsz
  obtain ⟨v0, vs0, d0, ds0, p0, q0, hargs, rfl, rfl, h0, r0⟩ := trodAll_cons hA
  obtain ⟨rfl, rfl, rfl⟩ := trodAll_nil r0
  obtain rfl : args = #[v0] := by cases args; simp_all
  obtain ⟨rfl, rfl⟩ := trodVars_none hV
  have k0 := h0
  have lt0 : ∀ x ∈ p0, x.block < W.heap.size := by obtain ⟨m, hm⟩ := k0; exact DataW.trod_lt m _ _ _ hm
  obtain ⟨u0_0, u0_1, y0_0, y0_1, n0, rfl, rfl, _, g0_0, g0_1⟩ := Go.Joins.open_agg2 Try.underlying25 (by kernel_rfl) (by kernel_rfl) (hval 0 25 v0 rfl rfl) h0
  obtain ⟨l0_0, aa, w0_0⟩ := (opens_slice (K := Kd.bool) 4 Try.underlying22 (by kernel_rfl) rfl (opens_bool Try.underlying4)) _ _ _ g0_0
  obtain ⟨A0_0, c0_0, rfl, hc0_0, hr0_0⟩ := slice_of aa
  obtain ⟨l0_1, ab, w0_1⟩ := (opens_slice (K := (Kd.slice 3 (Kd.int .i64))) 43 Try.underlying23 (by kernel_rfl) rfl (opens_slice (K := (Kd.int .i64)) 3 Try.underlying43 (by kernel_rfl) rfl (opens_int Try.underlying3))) _ _ _ g0_1
  obtain ⟨A0_1, c0_1, rfl, hc0_1, hr0_1⟩ := slice_of ab
  clear hA0 hval0 hsz0 hsz
  obtain ⟨k, hk⟩ := Pure.FnExactIsFinite l0_0 l0_1 w0_0 w0_1
  refine (P.laws_FnExactIsFinite.calls k A0_0 c0_0 l0_0 A0_1 c0_1 l0_1 true W hr0_0 hc0_0 hr0_1 hc0_1 hk rfl).mono fun e W' hh => ?_
  obtain ⟨he, bel0⟩ := hh
  have bel : Below W.heap.size W W' := bel0
  subst he
  exact ⟨_, rfl, _, _, _, [], _, [], hW', trodAll_mk1 (shut_bool Try.underlying4 _), (trodAll_cons_mk (Below.trod laidOut (by kernel_rfl) (of_decide_eq_true (by kernel_rfl)) k0 bel lt0) trodAll_mk0), rfl, bel.frame _, fun h => by cases h⟩
theorem over : Rows.fnExactIsFiniteRow.holds Try.pinned (OpenSpec.ofChange Rows.fnExactIsFiniteSpec) :=
  OpenClaim.holds_of_wide 3 Try.f3 rfl rfl rfl rfl rfl rfl rfl ⟨rfl, rfl, rfl, rfl, rfl⟩ rfl rfl rfl rfl rfl (by kernel_rfl) Try.func3 (by kernel_rfl)
    (of_decide_eq_true (by kernel_rfl)) (by unfold Func.isWrapper; first | (rw [if_pos (by decide +kernel)]; kernel_rfl) | (rw [if_neg (by decide +kernel)]; exact ⟨rfl, rfl⟩))
    (fun os started H enc _ => lifted os started H enc)
theorem proved : Rows.FnExactIsFiniteSaid := over
#print axioms proved
end Go.Proofs.Ytpgdhpnmagmooaa.fnExactIsFinite
namespace Go.Proofs.Ytpgdhpnmagmooaa
theorem fnExactIsFinite_holds : Rows.FnExactIsFiniteSaid := fnExactIsFinite.proved
end Go.Proofs.Ytpgdhpnmagmooaa
end
