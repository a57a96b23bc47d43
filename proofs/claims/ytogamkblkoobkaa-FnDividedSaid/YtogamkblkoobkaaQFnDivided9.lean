/- Texts of the proof of FnDivided, put together. No condition. -/
import Derived.Test.YtogamkblkoobkaaQFnDivided2
import Derived.Test.YtogamkblkoobkaaQFnDivided5
import Derived.Test.YtogamkblkoobkaaQFnDivided4
import Derived.Test.YtogamkblkoobkaaQFnDivided8
import Derived.Test.YtogamkblkoobkaaQFnDivided3
import Derived.Shelf.Abstract
import Derived.Lib.Walk
set_option linter.unusedVariables false
set_option linter.unusedSimpArgs false
section
namespace Go.Proofs.Ytogamkblkoobkaa.P
open Go.RowKit Go.Proofs.YtogamkblkoobkaaW.PrintWords Go.Proofs.YtogamkblkoobkaaW.PrintLast Go.Proofs.YtogamkblkoobkaaW.PrintMore
attribute [local go_sem] max2_int min2_int max_two min_two max_three min_three max_four min_four
def spec_l5Fits.f (k:Nat) (l0_0:List Bool) (l0_1:List (List Int)):Option (List Bool × (List (List Int)) × Bool):=(spec_l5Minimal.f k l0_0 l0_1).bind fun bt282=>((spec_IsValidDfa.f k bt282.1 bt282.2).bind fun aE=>(if aE=true then (some (bt282.1,bt282.2,true)) else (some (([]:List Bool),([]:List (List Int)),false))))
theorem spec_l5Fits.mono:∀ a0 a1 k,LeO (spec_l5Fits.f k a0 a1) (spec_l5Fits.f (k+1) a0 a1):=by
 intro a0 a1 k
 unfold spec_l5Fits.f
 repeat' first
  | (with_reducible exact spec_IsValidDfa.mono _ _ _)
  | (with_reducible exact spec_l5Minimal.mono _ _ _)
  | (with_reducible exact LeO.refl _)
  | (with_reducible exact LeO.none _)
  | (with_reducible refine LeO.ite ?_ ?_)
  | (with_reducible refine LeO.bind ?_ (fun _=>?_))
  | exact spec_IsValidDfa.mono _ _ _
  | exact spec_l5Minimal.mono _ _ _
  | exact LeO.none _
  | refine LeO.ite ?_ ?_
  | refine LeO.bind ?_ (fun _=>?_)
set_option maxHeartbeats 8000000 in
set_option maxRecDepth 100000 in
theorem spec_l5Fits.calls (k:Nat) (A0_0:Option Addr) (c0_0:Nat) (l0_0:List Bool) (A0_1:Option Addr) (c0_1:Nat) (l0_1:List (List Int)) (r1:List Bool) (r2:List (List Int)) (r3:Bool) (w:World) (hr0_0:Kd.C Kd.bool w A0_0 l0_0.length l0_0) (hc0_0:l0_0.length≤c0_0) (hr0_1:Kd.C (Kd.slice 3 (Kd.int .i64)) w A0_1 l0_1.length l0_1) (hc0_1:l0_1.length≤c0_1) (h:spec_l5Fits.f k l0_0 l0_1=some (r1,r2,r3)) :
  Calls Try.prog 64 #[.agg #[.slice A0_0 l0_0.length c0_0,.slice A0_1 l0_1.length c0_1]] w fun e w'=>∃ v0_ v1_:Value,e = .returned (.tuple #[.agg #[v0_,v1_],.bool r3])∧Kd.R Kd.bool 4 w' w.heap.size (fun _=>True) v0_ r1∧Kd.S (Kd.slice 3 (Kd.int .i64)) 67 w' w.heap.size (fun _=>True) v1_ r2∧Below w.heap.size w w':=by
 have hu27:=Try.underlying27
 have aF:=am_ hr0_0
 have aG:=am_ hc0_0
 clear hr0_0 hc0_0
 have aH:=am_ hr0_1
 have aI:=am_ hc0_1
 clear hr0_1 hc0_1
 have HB:=am_ (Below.refl w.heap.size w)
 have H:((spec_l5Minimal.f k l0_0 l0_1).bind fun bt282=>((spec_IsValidDfa.f k bt282.1 bt282.2).bind fun aE=>(if aE=true then (some (bt282.1,bt282.2,true)) else (some (([]:List Bool),([]:List (List Int)),false)))))=some (r1,r2,r3):=h
 clear h
 replace H:=Option.bind_eq_some_iff.mp H
 obtain ⟨⟨ah,ak⟩,A20,H⟩:=H
 have A2:=am_ A20
 clear A20
 replace H:=Option.bind_eq_some_iff.mp H
 obtain ⟨aE,A30,H⟩:=H
 have A3:=am_ A30
 clear A30
 by_cases c4:aE=true
 ·subst c4
  have H1:(some (ah,ak,true))=some (r1,r2,r3):=by rw [if_pos rfl] at H;exact H
  clear H
  have H:=H1
  clear H1
  simp only [Option.some.injEq,Prod.mk.injEq] at H
  obtain ⟨rfl,rfl,rfl⟩:=H
  go_enter Try.func64,Try.ntmps64
  go_wp2_with (first | ((with_reducible refine gate_dst (N:=1) rfl ?_);refine box_event ?hg (N:=1) ?hd (cs:=#[.slice A0_0 l0_0.length c0_0,.slice A0_1 l0_1.length c0_1]) (t:=27) ?hr ?_;(case hd=>rfl);(case hg=>rfl);(case hr=>first | (go_simp;done) | (go_simp;rfl));intro am hg w5 hbox hb;replace aa:=am_ (hbox);replace aJ:=am_ ((by rw [hg];exact (below_size (b0_ HB.out)):w.heap.size≤am));replace af:=am_ ((by rw [hg];exact (below_size (b0_ HB.out)):w.heap.size≤am));replace HB:=am_ (below_step (b0_ HB.out) hb);clear hb hbox hg) | ((with_reducible refine gate_dst (N:=2) rfl ?_);refine box_event ?hg (N:=2) ?hd (cs:=#[.slice none 0 0,.slice none 0 0]) (t:=27) ?hr ?_;(case hd=>rfl);(case hg=>rfl);(case hr=>first | (go_simp;done) | (go_simp;rfl));intro ag hg w6 hbox hb;have n0_:=am_ (blk_below (rb_ aa.out) hb);have n1_:=am_ (below_step (b1_ HB.out af.out) hb);have n2_:=am_ (hbox);have n3_:=am_ ((by rw [hg];exact (below_size (b1_ HB.out af.out)):w.heap.size≤ag));have n4_:=am_ ((by rw [hg];exact (below_size (b1_ HB.out af.out)):w.heap.size≤ag));have n5_:=am_ ((by rw [hg];exact Nat.ne_of_lt (blk_lt (rb_ aa.out)):am ≠ ag));have n6_:=am_ ((by rw [hg];exact Nat.ne_of_gt (blk_lt (rb_ aa.out)):ag ≠ am));clear aa;clear HB;have aa:=n0_;have HB:=n1_;have ab:=n2_;have aK:=n3_;have al:=n4_;have av:=n5_;have aw:=n6_;clear n0_ n1_ n2_ n3_ n4_ n5_ n6_;clear hb hbox hg;have bF:=av.out;have bG:=aw.out;have bq:=ck_ (v:=(.slice A0_0 l0_0.length c0_0)) aa 0 rfl;have br:=ck_ (v:=(.slice A0_1 l0_1.length c0_1)) aa 1 rfl;have bs:=blk_frozen aa.out 0;have bt:=blk_frozen aa.out 1) | ((with_reducible refine gate_callee (f:=94) rfl ?_);refine gL_ (some 6) Try.func94 #[.agg #[.slice A0_0 l0_0.length c0_0,.slice A0_1 l0_1.length c0_1]] ?_;(with_reducible refine (spec_l5Minimal.calls k _ _ l0_0 _ _ l0_1 ah ak _ ?side1 ?side2 ?side3 ?side4 A2.out).mono ?_);(case side1=>exact rc_ (Kd.C_below aF.out HB.out));(case side2=>exact aG.out);(case side3=>exact rc_ (Kd.C_below aH.out HB.out));(case side4=>exact aI.out);rintro e w9 ⟨aM,aN,rfl,ho0,ho1,hb⟩;refine ⟨_,rfl,?_⟩;have n0_:=am_ (Kd.R_lower ho0 (below_size (b2_ HB.out af.out al.out)));have n1_:=am_ (Kd.S_lower ho1 (below_size (b2_ HB.out af.out al.out)));have n2_:=am_ (blk_below (rb_ aa.out) hb);have n3_:=am_ (blk_below (rb_ ab.out) hb);have n4_:=am_ (below_step (b2_ HB.out af.out al.out) hb);clear aa;clear ab;clear HB;have ai:=n0_;have aj:=n1_;have aa:=n2_;have ab:=n3_;have HB:=n4_;clear n0_ n1_ n2_ n3_ n4_;(try clear hb);(try clear hb2);(try clear hk);(try clear hi);(try clear ho0);(try clear ho1)) | ((with_reducible refine gate_dst (N:=4) rfl ?_);refine box_event ?hg (N:=4) ?hd (cs:=#[.slice none 0 0,.slice none 0 0]) (t:=27) ?hr ?_;(case hd=>rfl);(case hg=>rfl);(case hr=>first | (go_simp;done) | (go_simp;rfl));intro ad hg w10 hbox hb;have n0_:=am_ (Kd.R_below (rr_ ai.out) hb);have n1_:=am_ (Kd.S_below (rs_ aj.out) hb);have n2_:=am_ (blk_below (rb_ aa.out) hb);have n3_:=am_ (blk_below (rb_ ab.out) hb);have n4_:=am_ (below_step (b2_ HB.out af.out al.out) hb);have n5_:=am_ (hbox);have n6_:=am_ ((by rw [hg];exact (below_size (b2_ HB.out af.out al.out)):w.heap.size≤ad));have n7_:=am_ ((by rw [hg];exact (below_size (b2_ HB.out af.out al.out)):w.heap.size≤ad));have n8_:=am_ ((by rw [hg];exact Nat.ne_of_lt (blk_lt (rb_ aa.out)):am ≠ ad));have n9_:=am_ ((by rw [hg];exact Nat.ne_of_gt (blk_lt (rb_ aa.out)):ad ≠ am));have n10_:=am_ ((by rw [hg];exact Nat.ne_of_lt (blk_lt (rb_ ab.out)):ag ≠ ad));have n11_:=am_ ((by rw [hg];exact Nat.ne_of_gt (blk_lt (rb_ ab.out)):ad ≠ ag));clear ai;clear aj;clear aa;clear ab;clear HB;have ai:=n0_;have aj:=n1_;have aa:=n2_;have ab:=n3_;have HB:=n4_;have ae:=n5_;have aL:=n6_;have aC:=n7_;have an:=n8_;have ax:=n9_;have ao:=n10_;have ay:=n11_;clear n0_ n1_ n2_ n3_ n4_ n5_ n6_ n7_ n8_ n9_ n10_ n11_;clear hb hbox hg;obtain ⟨aq,ap,aO⟩:=Kd.R_slice ai.out;subst aO;have bu:=ax.out;have bv:=an.out;have bw:=ay.out;have bx:=ao.out;have aS:=ck_ (v:=(.slice none 0 0)) ae 0 rfl;have aT:=ck_ (v:=(.slice none 0 0)) ae 1 rfl;have aU:=blk_frozen ae.out 0;have aV:=blk_frozen ae.out 1;obtain ⟨au,ar,aP⟩:=Kd.S_slice aj.out;subst aP) | ((with_reducible refine gate_callee (f:=35) rfl ?_);refine gL_ (some 8) Try.func35 #[.agg #[.slice aq ah.length ap,.slice au ak.length ar]] ?_;(with_reducible refine (spec_IsValidDfa.calls k _ _ ah _ _ ak true _ ?side1 ?side2 ?side3 ?side4 A3.out).mono ?_);(case side1=>refine (Kd.R_reads' (e:=4) (base:=w.heap.size) (ok:=fun k_=>True) (n:=ah.length) (c:=ap) ?_).2.2;exact (rr_ (Kd.R_mono (Kd.R_far (p:=⟨ad,1,none⟩) (Kd.R_far (p:=⟨ad,0,none⟩) (Kd.R_types ai.out ae.out (by decide)) (fun _ hk=>hk.2) (.slice aq ah.length ap)) (fun _ hk=>hk.2) (.slice au ak.length ar)) (fun _ h_=>h_.1))));(case side2=>exact (Kd.R_reads' ai.out).2.1);(case side3=>refine (Kd.S_reads' (e:=67) (base:=w.heap.size) (ok:=fun k_=>True) (n:=ak.length) (c:=ar) ?_).2.2;exact (rs_ (Kd.S_mono (Kd.S_far (p:=⟨ad,1,none⟩) (Kd.S_far (p:=⟨ad,0,none⟩) (Kd.S_types aj.out ae.out (by decide)) (fun _ hk=>hk.2) (.slice aq ah.length ap)) (fun _ hk=>hk.2) (.slice au ak.length ar)) (fun _ h_=>h_.1))));(case side4=>exact (Kd.S_reads' aj.out).2.1);rintro e w16 ⟨rfl,hb⟩;refine ⟨_,rfl,?_⟩;have n0_:=am_ (Kd.R_below (rr_ (Kd.R_mono (Kd.R_far (p:=⟨ad,1,none⟩) (Kd.R_far (p:=⟨ad,0,none⟩) (Kd.R_types ai.out ae.out (by decide)) (fun _ hk=>hk.2) (.slice aq ah.length ap)) (fun _ hk=>hk.2) (.slice au ak.length ar)) (fun _ h_=>h_.1))) hb);have n1_:=am_ (Kd.S_below (rs_ (Kd.S_mono (Kd.S_far (p:=⟨ad,1,none⟩) (Kd.S_far (p:=⟨ad,0,none⟩) (Kd.S_types aj.out ae.out (by decide)) (fun _ hk=>hk.2) (.slice aq ah.length ap)) (fun _ hk=>hk.2) (.slice au ak.length ar)) (fun _ h_=>h_.1))) hb);have n2_:=am_ (blk_below (g:=am) (o:=.cells #[.slice A0_0 l0_0.length c0_0,.slice A0_1 l0_1.length c0_1] 27 (0,0)) (by refine rb_ ?_;refine blk_far ?_ an.out _;refine rb_ ?_;refine blk_far ?_ an.out _;refine rb_ ?_;exact aa.out) hb);have n3_:=am_ (blk_below (g:=ag) (o:=.cells #[.slice none 0 0,.slice none 0 0] 27 (0,0)) (by refine rb_ ?_;refine blk_far ?_ ao.out _;refine rb_ ?_;refine blk_far ?_ ao.out _;refine rb_ ?_;exact ab.out) hb);have n4_:=am_ (blk_below (g:=ad) (o:=.cells #[.slice aq ah.length ap,.slice au ak.length ar] 27 (0,0)) (by refine rb_ ?_;refine blk_put (cs:=#[.slice aq ah.length ap,.slice none 0 0]) ?_ 1 _ rfl;refine rb_ ?_;refine blk_put (cs:=#[.slice none 0 0,.slice none 0 0]) ?_ 0 _ rfl;refine rb_ ?_;exact ae.out) hb);have n5_:=am_ (below_step (b3_ HB.out af.out al.out aC.out) hb);clear ai;clear aj;clear aa;clear ab;clear ae;clear HB;have ai:=n0_;have aj:=n1_;have aa:=n2_;have ab:=n3_;have ae:=n4_;have HB:=n5_;clear n0_ n1_ n2_ n3_ n4_ n5_;(try clear hb);(try clear hb2);(try clear hk);(try clear hi);have aW:=ck_ (v:=(.slice aq ah.length ap)) ae 0 rfl;have aX:=ck_ (v:=(.slice au ak.length ar)) ae 1 rfl;have aY:=blk_frozen ae.out 0;have aZ:=blk_frozen ae.out 1;have ba:=ck_ (v:=(.slice none 0 0)) ab 0 rfl;have bb:=ck_ (v:=(.slice none 0 0)) ab 1 rfl;have bc:=blk_frozen ab.out 0;have bd:=blk_frozen ab.out 1))
  refine bodyPost_ret (results_ct rfl _ _ ag 27 #[.slice aq ah.length ap,.slice au ak.length ar] (0,0) _ rfl (by refine rb_ ?_;refine blk_put (cs:=#[.slice aq ah.length ap,.slice none 0 0]) ?_ 1 _ rfl;refine rb_ ?_;refine blk_put (cs:=#[.slice none 0 0,.slice none 0 0]) ?_ 0 _ rfl;refine rb_ ?_;exact ab.out) Try.underlying27 rfl (by kernel_rfl)) rfl ?_
  exact ⟨_,_,by first | rfl | (simp [errW_none,errW_some] <;> rfl) | (simp [*,errW_none,errW_some] <;> rfl),by refine rr_ ?_;exact Kd.R_mono (Kd.R_far (p:=⟨ag,1,none⟩) (Kd.R_far (p:=⟨ag,0,none⟩) (Kd.R_types ai.out ab.out (by decide)) (fun _ hk=>hk.2) (.slice aq ah.length ap)) (fun _ hk=>hk.2) (.slice au ak.length ar)) (fun _ hk=>trivial),by refine rs_ ?_;exact Kd.S_mono (Kd.S_far (p:=⟨ag,1,none⟩) (Kd.S_far (p:=⟨ag,0,none⟩) (Kd.S_types aj.out ab.out (by decide)) (fun _ hk=>hk.2) (.slice aq ah.length ap)) (fun _ hk=>hk.2) (.slice au ak.length ar)) (fun _ hk=>trivial),by repeat (first | (with_reducible first | exact HB.out | apply below_alloc | apply pw_below_drewN | apply below_drew1 | refine below_set ?_ af.out | refine below_set ?_ al.out | refine below_set ?_ aC.out) | exact HB.out)⟩
 ·replace c4:=Bool.eq_false_iff.mpr c4
  subst c4
  have H1:(some (([]:List Bool),([]:List (List Int)),false))=some (r1,r2,r3):=by rw [if_neg (show ¬ (false=true) by decide)] at H;exact H
  clear H
  have H:=H1
  clear H1
  simp only [Option.some.injEq,Prod.mk.injEq] at H
  obtain ⟨rfl,rfl,rfl⟩:=H
  go_enter Try.func64,Try.ntmps64
  go_wp2_with (first | ((with_reducible refine gate_dst (N:=1) rfl ?_);refine box_event ?hg (N:=1) ?hd (cs:=#[.slice A0_0 l0_0.length c0_0,.slice A0_1 l0_1.length c0_1]) (t:=27) ?hr ?_;(case hd=>rfl);(case hg=>rfl);(case hr=>first | (go_simp;done) | (go_simp;rfl));intro am hg w19 hbox hb;replace aa:=am_ (hbox);replace aJ:=am_ ((by rw [hg];exact (below_size (b0_ HB.out)):w.heap.size≤am));replace af:=am_ ((by rw [hg];exact (below_size (b0_ HB.out)):w.heap.size≤am));replace HB:=am_ (below_step (b0_ HB.out) hb);clear hb hbox hg) | ((with_reducible refine gate_dst (N:=2) rfl ?_);refine box_event ?hg (N:=2) ?hd (cs:=#[.slice none 0 0,.slice none 0 0]) (t:=27) ?hr ?_;(case hd=>rfl);(case hg=>rfl);(case hr=>first | (go_simp;done) | (go_simp;rfl));intro ag hg w20 hbox hb;have n0_:=am_ (blk_below (rb_ aa.out) hb);have n1_:=am_ (below_step (b1_ HB.out af.out) hb);have n2_:=am_ (hbox);have n3_:=am_ ((by rw [hg];exact (below_size (b1_ HB.out af.out)):w.heap.size≤ag));have n4_:=am_ ((by rw [hg];exact (below_size (b1_ HB.out af.out)):w.heap.size≤ag));have n5_:=am_ ((by rw [hg];exact Nat.ne_of_lt (blk_lt (rb_ aa.out)):am ≠ ag));have n6_:=am_ ((by rw [hg];exact Nat.ne_of_gt (blk_lt (rb_ aa.out)):ag ≠ am));clear aa;clear HB;have aa:=n0_;have HB:=n1_;have ab:=n2_;have aK:=n3_;have al:=n4_;have av:=n5_;have aw:=n6_;clear n0_ n1_ n2_ n3_ n4_ n5_ n6_;clear hb hbox hg;have bz:=av.out;have bA:=aw.out;have be:=ck_ (v:=(.slice A0_0 l0_0.length c0_0)) aa 0 rfl;have bf:=ck_ (v:=(.slice A0_1 l0_1.length c0_1)) aa 1 rfl;have bg:=blk_frozen aa.out 0;have bh:=blk_frozen aa.out 1) | ((with_reducible refine gate_callee (f:=94) rfl ?_);refine gL_ (some 6) Try.func94 #[.agg #[.slice A0_0 l0_0.length c0_0,.slice A0_1 l0_1.length c0_1]] ?_;(with_reducible refine (spec_l5Minimal.calls k _ _ l0_0 _ _ l0_1 ah ak _ ?side1 ?side2 ?side3 ?side4 A2.out).mono ?_);(case side1=>exact rc_ (Kd.C_below aF.out HB.out));(case side2=>exact aG.out);(case side3=>exact rc_ (Kd.C_below aH.out HB.out));(case side4=>exact aI.out);rintro e w23 ⟨aM,aN,rfl,ho0,ho1,hb⟩;refine ⟨_,rfl,?_⟩;have n0_:=am_ (Kd.R_lower ho0 (below_size (b2_ HB.out af.out al.out)));have n1_:=am_ (Kd.S_lower ho1 (below_size (b2_ HB.out af.out al.out)));have n2_:=am_ (blk_below (rb_ aa.out) hb);have n3_:=am_ (blk_below (rb_ ab.out) hb);have n4_:=am_ (below_step (b2_ HB.out af.out al.out) hb);clear aa;clear ab;clear HB;have ai:=n0_;have aj:=n1_;have aa:=n2_;have ab:=n3_;have HB:=n4_;clear n0_ n1_ n2_ n3_ n4_;(try clear hb);(try clear hb2);(try clear hk);(try clear hi);(try clear ho0);(try clear ho1)) | ((with_reducible refine gate_dst (N:=4) rfl ?_);refine box_event ?hg (N:=4) ?hd (cs:=#[.slice none 0 0,.slice none 0 0]) (t:=27) ?hr ?_;(case hd=>rfl);(case hg=>rfl);(case hr=>first | (go_simp;done) | (go_simp;rfl));intro ad hg w24 hbox hb;have n0_:=am_ (Kd.R_below (rr_ ai.out) hb);have n1_:=am_ (Kd.S_below (rs_ aj.out) hb);have n2_:=am_ (blk_below (rb_ aa.out) hb);have n3_:=am_ (blk_below (rb_ ab.out) hb);have n4_:=am_ (below_step (b2_ HB.out af.out al.out) hb);have n5_:=am_ (hbox);have n6_:=am_ ((by rw [hg];exact (below_size (b2_ HB.out af.out al.out)):w.heap.size≤ad));have n7_:=am_ ((by rw [hg];exact (below_size (b2_ HB.out af.out al.out)):w.heap.size≤ad));have n8_:=am_ ((by rw [hg];exact Nat.ne_of_lt (blk_lt (rb_ aa.out)):am ≠ ad));have n9_:=am_ ((by rw [hg];exact Nat.ne_of_gt (blk_lt (rb_ aa.out)):ad ≠ am));have n10_:=am_ ((by rw [hg];exact Nat.ne_of_lt (blk_lt (rb_ ab.out)):ag ≠ ad));have n11_:=am_ ((by rw [hg];exact Nat.ne_of_gt (blk_lt (rb_ ab.out)):ad ≠ ag));clear ai;clear aj;clear aa;clear ab;clear HB;have ai:=n0_;have aj:=n1_;have aa:=n2_;have ab:=n3_;have HB:=n4_;have ae:=n5_;have aL:=n6_;have aC:=n7_;have an:=n8_;have ax:=n9_;have ao:=n10_;have ay:=n11_;clear n0_ n1_ n2_ n3_ n4_ n5_ n6_ n7_ n8_ n9_ n10_ n11_;clear hb hbox hg;obtain ⟨aA,az,aQ⟩:=Kd.R_slice ai.out;subst aQ;have bB:=ax.out;have bC:=an.out;have bD:=ay.out;have bE:=ao.out;have bi:=ck_ (v:=(.slice none 0 0)) ae 0 rfl;have bj:=ck_ (v:=(.slice none 0 0)) ae 1 rfl;have bk:=blk_frozen ae.out 0;have bl:=blk_frozen ae.out 1;obtain ⟨aD,aB,aR⟩:=Kd.S_slice aj.out;subst aR) | ((with_reducible refine gate_callee (f:=35) rfl ?_);refine gL_ (some 8) Try.func35 #[.agg #[.slice aA ah.length az,.slice aD ak.length aB]] ?_;(with_reducible refine (spec_IsValidDfa.calls k _ _ ah _ _ ak false _ ?side1 ?side2 ?side3 ?side4 A3.out).mono ?_);(case side1=>refine (Kd.R_reads' (e:=4) (base:=w.heap.size) (ok:=fun k_=>True) (n:=ah.length) (c:=az) ?_).2.2;exact (rr_ (Kd.R_mono (Kd.R_far (p:=⟨ad,1,none⟩) (Kd.R_far (p:=⟨ad,0,none⟩) (Kd.R_types ai.out ae.out (by decide)) (fun _ hk=>hk.2) (.slice aA ah.length az)) (fun _ hk=>hk.2) (.slice aD ak.length aB)) (fun _ h_=>h_.1))));(case side2=>exact (Kd.R_reads' ai.out).2.1);(case side3=>refine (Kd.S_reads' (e:=67) (base:=w.heap.size) (ok:=fun k_=>True) (n:=ak.length) (c:=aB) ?_).2.2;exact (rs_ (Kd.S_mono (Kd.S_far (p:=⟨ad,1,none⟩) (Kd.S_far (p:=⟨ad,0,none⟩) (Kd.S_types aj.out ae.out (by decide)) (fun _ hk=>hk.2) (.slice aA ah.length az)) (fun _ hk=>hk.2) (.slice aD ak.length aB)) (fun _ h_=>h_.1))));(case side4=>exact (Kd.S_reads' aj.out).2.1);rintro e w30 ⟨rfl,hb⟩;refine ⟨_,rfl,?_⟩;have n0_:=am_ (Kd.R_below (rr_ (Kd.R_mono (Kd.R_far (p:=⟨ad,1,none⟩) (Kd.R_far (p:=⟨ad,0,none⟩) (Kd.R_types ai.out ae.out (by decide)) (fun _ hk=>hk.2) (.slice aA ah.length az)) (fun _ hk=>hk.2) (.slice aD ak.length aB)) (fun _ h_=>h_.1))) hb);have n1_:=am_ (Kd.S_below (rs_ (Kd.S_mono (Kd.S_far (p:=⟨ad,1,none⟩) (Kd.S_far (p:=⟨ad,0,none⟩) (Kd.S_types aj.out ae.out (by decide)) (fun _ hk=>hk.2) (.slice aA ah.length az)) (fun _ hk=>hk.2) (.slice aD ak.length aB)) (fun _ h_=>h_.1))) hb);have n2_:=am_ (blk_below (g:=am) (o:=.cells #[.slice A0_0 l0_0.length c0_0,.slice A0_1 l0_1.length c0_1] 27 (0,0)) (by refine rb_ ?_;refine blk_far ?_ an.out _;refine rb_ ?_;refine blk_far ?_ an.out _;refine rb_ ?_;exact aa.out) hb);have n3_:=am_ (blk_below (g:=ag) (o:=.cells #[.slice none 0 0,.slice none 0 0] 27 (0,0)) (by refine rb_ ?_;refine blk_far ?_ ao.out _;refine rb_ ?_;refine blk_far ?_ ao.out _;refine rb_ ?_;exact ab.out) hb);have n4_:=am_ (blk_below (g:=ad) (o:=.cells #[.slice aA ah.length az,.slice aD ak.length aB] 27 (0,0)) (by refine rb_ ?_;refine blk_put (cs:=#[.slice aA ah.length az,.slice none 0 0]) ?_ 1 _ rfl;refine rb_ ?_;refine blk_put (cs:=#[.slice none 0 0,.slice none 0 0]) ?_ 0 _ rfl;refine rb_ ?_;exact ae.out) hb);have n5_:=am_ (below_step (b3_ HB.out af.out al.out aC.out) hb);clear ai;clear aj;clear aa;clear ab;clear ae;clear HB;have ai:=n0_;have aj:=n1_;have aa:=n2_;have ab:=n3_;have ae:=n4_;have HB:=n5_;clear n0_ n1_ n2_ n3_ n4_ n5_;(try clear hb);(try clear hb2);(try clear hk);(try clear hi);have bm:=ck_ (v:=(.slice none 0 0)) ab 0 rfl;have bn:=ck_ (v:=(.slice none 0 0)) ab 1 rfl;have bo:=blk_frozen ab.out 0;have bp:=blk_frozen ab.out 1))
  refine bodyPost_ret (results_ct rfl _ _ ag 27 #[.slice none 0 0,.slice none 0 0] (0,0) _ rfl (by refine rb_ ?_;refine blk_put (cs:=#[.slice none 0 0,.slice none 0 0]) ?_ 1 _ rfl;refine rb_ ?_;refine blk_put (cs:=#[.slice none 0 0,.slice none 0 0]) ?_ 0 _ rfl;refine rb_ ?_;exact ab.out) Try.underlying27 rfl (by kernel_rfl)) rfl ?_
  exact ⟨_,_,by first | rfl | (simp [errW_none,errW_some] <;> rfl) | (simp [*,errW_none,errW_some] <;> rfl),by first | exact Kd.R_nil _ _ _ _ _ | exact Kd.N_nil _ _ _ _ _ | exact Kd.V_nil _ _ _ _ _ | exact Kd.Q_nil _ _ _ _ _ | exact Kd.S_nil _ _ _ _ _,by first | exact Kd.S_nil _ _ _ _ _ | exact Kd.N_nil _ _ _ _ _ | exact Kd.V_nil _ _ _ _ _ | exact Kd.Q_nil _ _ _ _ _ | exact Kd.R_nil _ _ _ _ _,by repeat (first | (with_reducible first | exact HB.out | apply below_alloc | apply pw_below_drewN | apply below_drew1 | refine below_set ?_ af.out | refine below_set ?_ al.out | refine below_set ?_ aC.out) | exact HB.out)⟩
end Go.Proofs.Ytogamkblkoobkaa.P
end
section
namespace Go.Proofs.Ytogamkblkoobkaa.Can
open Go.RowKit Go.Proofs.Ytogamkblkoobkaa Go.Proofs.Ytogamkblkoobkaa.P Go.Proofs.Ytogamkblkoobkaa.Wk Go.Proofs.Ytogamkblkoobkaa.Lg Go.Proofs.Ytogamkblkoobkaa.Pl Go.Proofs.Ytogamkblkoobkaa.Mp Go.Proofs.Ytogamkblkoobkaa.Bf Go.Proofs.Ytogamkblkoobkaa.Mn Go.Proofs.YtogamkblkoobkaaW.PrintWords Go.Proofs.YtogamkblkoobkaaW.PrintLast Go.Proofs.YtogamkblkoobkaaW.PrintMore
section
variable {a b:List Bool} {n m:List (List Int)} {kind:Int}
theorem spec_fit {A:List Bool} {M:List (List Int)} (h1:1≤A.length) (h2:A.length≤1000000) (h3:Rows3 A.length M):Ev (fun k=>spec_l5Fits.f k A M) (fitD A M):=by
 simp only [spec_l5Fits.f]
 refine Ev.bind (min_same (fits_rows h3) h1 (by omega)) ?_
 have hc:=(min_can (fits_rows h3) (st:=0) (by omega)).facts
 have hl:=minD_len (fits_rows h3) (st:=0) (by omega)
 unfold fitD
 generalize minD A M 0=mm at hc hl ⊢
 refine Ev.bind (spec_valid _ _ (by omega) (by omega)) ?_
 by_cases h:mm.1.length≤40
 ·have hv:=valid_of hc.1 h hc.2.1
  simp only [hv,if_true,if_pos h]
  exact Ev.now _
 ·have hv:validD mm.1 mm.2=false:=by
   cases hv:validD mm.1 mm.2 with
   | false=>rfl
   | true=>exact absurd (validD_facts hv).2.1 h
  simp only [hv,Bool.false_eq_true,if_false,if_neg h]
  exact Ev.now _
end
end Go.Proofs.Ytogamkblkoobkaa.Can
end
section
namespace Go.Proofs.Ytogamkblkoobkaa.Wk
open Go.RowKit Go.Shelf Go.Proofs.Ytogamkblkoobkaa.P Go.Proofs.Ytogamkblkoobkaa.Pl Go.Proofs.Ytogamkblkoobkaa.Mp Go.Proofs.Ytogamkblkoobkaa.Bf Go.Proofs.Ytogamkblkoobkaa.Mn Go.Proofs.Ytogamkblkoobkaa.Lg Go.Proofs.Ytogamkblkoobkaa.Can Go.Proofs.YtogamkblkoobkaaW.PrintWords Go.Proofs.YtogamkblkoobkaaW.PrintLast Go.Proofs.YtogamkblkoobkaaW.PrintMore
section
variable {w w' w2:World} {okl okr:Nat→Prop} {vl:Value} {g6 g9:Nat} {L:List Int} {A:List Bool} {M:List (List Int)} {u0 u1 b0 b1:Value}
end
end Go.Proofs.Ytogamkblkoobkaa.Wk
end
section
namespace Go.Proofs.Ytogamkblkoobkaa.P
open Go.RowKit Go.Proofs.YtogamkblkoobkaaW.PrintWords Go.Proofs.YtogamkblkoobkaaW.PrintLast Go.Proofs.YtogamkblkoobkaaW.PrintMore
attribute [local go_sem] max2_int min2_int max_two min_two max_three min_three max_four min_four
end Go.Proofs.Ytogamkblkoobkaa.P
end
section
namespace Go.Proofs.Ytogamkblkoobkaa.P
open Go.RowKit Go.Proofs.YtogamkblkoobkaaW.PrintWords Go.Proofs.YtogamkblkoobkaaW.PrintLast Go.Proofs.YtogamkblkoobkaaW.PrintMore
attribute [local go_sem] max2_int min2_int max_two min_two max_three min_three max_four min_four
def laws_big.f (l0:List Int):Option (Bool):=some (decide ((l0.length:Int) > 1048576))
set_option maxHeartbeats 8000000 in
set_option maxRecDepth 100000 in
theorem laws_big.calls (A0:Option Addr) (c0:Nat) (l0:List Int) (r:Bool) (w:World) (hr0:Kd.C (Kd.int .u8) w A0 l0.length l0) (hc0:l0.length≤c0) (h:laws_big.f l0=some r) :
  Calls Try.prog 27 #[.slice A0 l0.length c0] w fun e w'=>e = .returned (.bool r)∧Drawn0 w w':=by
 have HR0:=am_ hr0
 have HC0:=am_ hc0
 clear hr0 hc0
 have H:(some (decide ((l0.length:Int) > 1048576)))=some r:=h
 clear h
 obtain rfl:=Option.some.inj H
 simp only [Option.some.injEq,Prod.mk.injEq] at H
 obtain ⟨rfl⟩:=H
 go_enter Try.func27,Try.ntmps27
 go_wp2
 go_ret
 exact ⟨by first | rfl | (simp;done) | (simp [*];done),by repeat (first | exact Drawn0.refl _ | apply Drawn0.step)⟩
def IsS125 (w0 W:World) (g:Nat) (f0:List Int) (f1:Int) (f2:Int):Prop:=∃ A0 c0,W.heap[g]? = some (.cells #[.slice A0 f0.length c0,.int .i64 f1,.int .i64 f2] 125 (0,0))∧w0.heap.size≤g∧Kd.C (Kd.int .u8) w0 A0 f0.length f0
theorem IsS125.grown {w0 W:World} {g:Nat} {f0:List Int} {f1:Int} {f2:Int} {W1:World} {row:Option Nat} (h:IsS125 w0 W g f0 f1 f2) (hw:W.grownBy W1 row) (hne:some g ≠ row):IsS125 w0 W1 g f0 f1 f2:=by
 obtain ⟨A0,c0,hb,hg,hr0⟩:=h
 exact ⟨A0,c0,blk_grown hb hw hne,hg,hr0⟩
theorem IsS125.kept {w0 W:World} {g:Nat} {f0:List Int} {f1:Int} {f2:Int} {W1:World} {S:Nat→Prop} (h:IsS125 w0 W g f0 f1 f2) (hk:Kept W W1 S) (hne:¬ S g):IsS125 w0 W1 g f0 f1 f2:=by
 obtain ⟨A0,c0,hb,hg,hr0⟩:=h
 exact ⟨A0,c0,blk_kept hb hk hne,hg,hr0⟩
theorem IsS125.below {w0 W:World} {g:Nat} {f0:List Int} {f1:Int} {f2:Int} {W1:World} (h:IsS125 w0 W g f0 f1 f2) (hw:Below W.heap.size W W1):IsS125 w0 W1 g f0 f1 f2:=h.grown (grown_of_below hw none) (by simp)
theorem IsS125.alloc {w0 W:World} {g:Nat} {f0:List Int} {f1:Int} {f2:Int} (h:IsS125 w0 W g f0 f1 f2) (o:Obj):IsS125 w0 (W.alloc o) g f0 f1 f2:=h.below (below_alloc (Below.refl _ _) o)
theorem IsS125.drewN {w0 W:World} {g:Nat} {f0:List Int} {f1:Int} {f2:Int} (h:IsS125 w0 W g f0 f1 f2) (m:Nat):IsS125 w0 (W.drewN m) g f0 f1 f2:=h
theorem IsS125.drew {w0 W:World} {g:Nat} {f0:List Int} {f1:Int} {f2:Int} (h:IsS125 w0 W g f0 f1 f2):IsS125 w0 W.drew g f0 f1 f2:=h
theorem IsS125.at_ {w0 W:World} {g:Nat} {f0:List Int} {f1:Int} {f2:Int} {w':World} {m:Nat} (hq:W.drewN m=w') (h:IsS125 w0 W g f0 f1 f2):IsS125 w0 w' g f0 f1 f2:=by subst hq;exact IsS125.drewN h m
theorem IsS125.apart {w0 W:World} {g:Nat} {f0:List Int} {f1:Int} {f2:Int} {α:Type} {d:Kd α} {e:Nat} {base:Nat} {ok:Nat→Prop} {v:Value} {xs:List α} (h:IsS125 w0 W g f0 f1 f2) (ho:d.R e W base ok v xs) (ht:∀ q,q ∈ e :: d.E→q ≠ 125):d.R e W base (fun k=>ok k∧k ≠ g) v xs:=by
 obtain ⟨A0,c0,hb,hg,hr0⟩:=h
 exact Kd.R_types ho hb ht
theorem IsS125.own_ne {w0 W:World} {g:Nat} {f0:List Int} {f1:Int} {f2:Int} {α:Type} {d:Kd α} {e:Nat} {base:Nat} {ok:Nat→Prop} {v:Value} {xs:List α} (h:IsS125 w0 W g f0 f1 f2) (ho:d.R e W base ok v xs) (ht:e ≠ 125):some g ≠ v.ownBlock:=by
 obtain ⟨A0,c0,hb,hg,hr0⟩:=h
 exact Kd.R_ne ho hb ht
theorem IsS125.apartS {w0 W:World} {g:Nat} {f0:List Int} {f1:Int} {f2:Int} {α:Type} {d:Kd α} {e:Nat} {base:Nat} {ok:Nat→Prop} {v:Value} {xs:List α} (h:IsS125 w0 W g f0 f1 f2) (ho:d.S e W base ok v xs) (ht:∀ q,q ∈ e :: d.E→q ≠ 125):d.S e W base (fun k=>ok k∧k ≠ g) v xs:=by
 obtain ⟨A0,c0,hb,hg,hr0⟩:=h
 exact Kd.S_types ho hb ht
theorem IsS125.own_neS {w0 W:World} {g:Nat} {f0:List Int} {f1:Int} {f2:Int} {α:Type} {d:Kd α} {e:Nat} {base:Nat} {ok:Nat→Prop} {v:Value} {xs:List α} (h:IsS125 w0 W g f0 f1 f2) (ho:d.S e W base ok v xs) (ht:e ≠ 125):some g ≠ v.ownBlock:=by
 obtain ⟨A0,c0,hb,hg,hr0⟩:=h
 exact Kd.S_ne ho hb ht
theorem IsS125.lt {w0 W:World} {g:Nat} {f0:List Int} {f1:Int} {f2:Int} (h:IsS125 w0 W g f0 f1 f2):g<W.heap.size:=by
 obtain ⟨A0,c0,hb,hg,hr0⟩:=h
 exact blk_lt hb
theorem IsS125.ge {w0 W:World} {g:Nat} {f0:List Int} {f1:Int} {f2:Int} (h:IsS125 w0 W g f0 f1 f2):w0.heap.size≤g:=by
 obtain ⟨A0,c0,hb,hg,hr0⟩:=h
 exact hg
theorem IsS125.ne_blk {w0 W:World} {g:Nat} {f0:List Int} {f1:Int} {f2:Int} {a:Nat} {cs:Array Value} {t:TypeId} {fr:Nat × Nat} (h:IsS125 w0 W g f0 f1 f2) (hb2:W.heap[a]? = some (.cells cs t fr)) (ht:t ≠ 125):g ≠ a:=by
 obtain ⟨A0,c0,hb,hg,hr0⟩:=h
 rintro rfl
 rw [hb] at hb2
 injection hb2 with hb2
 injection hb2 with _ ht2
 exact ht ht2.symm
theorem IsS125.far {w0 W:World} {g:Nat} {f0:List Int} {f1:Int} {f2:Int} {p:Addr} (h:IsS125 w0 W g f0 f1 f2) (hne:g ≠ p.block) (u:Value):IsS125 w0 (W.setCell p u) g f0 f1 f2:=by
 obtain ⟨A0,c0,hb,hg,hr0⟩:=h
 exact ⟨A0,c0,blk_far hb hne u,hg,hr0⟩
theorem cellS125_0 {W:World} {g:Nat} {A0:Option Addr} {c0:Nat} {f0:List Int} {f1:Int} {f2:Int} (h:W.heap[g]? = some (.cells #[.slice A0 f0.length c0,.int .i64 f1,.int .i64 f2] 125 (0,0))):W.cell? ⟨g,0,none⟩=some (.slice A0 f0.length c0):=(blk_cell h 0).trans rfl
theorem cellS125_1 {W:World} {g:Nat} {A0:Option Addr} {c0:Nat} {f0:List Int} {f1:Int} {f2:Int} (h:W.heap[g]? = some (.cells #[.slice A0 f0.length c0,.int .i64 f1,.int .i64 f2] 125 (0,0))):W.cell? ⟨g,1,none⟩=some (.int .i64 f1):=(blk_cell h 1).trans rfl
theorem IsS125.set_1 {w0 W:World} {g:Nat} {f0:List Int} {f1:Int} {f2:Int} (h:IsS125 w0 W g f0 f1 f2) (x:Int):IsS125 w0 (W.setCell ⟨g,1,none⟩ (.int .i64 x)) g f0 x f2:=by
 obtain ⟨A0,c0,hb,hg,hr0⟩:=h
 exact ⟨A0,c0,by simpa using blk_set hb 1 (.int .i64 x),hg,hr0⟩
theorem cellS125_2 {W:World} {g:Nat} {A0:Option Addr} {c0:Nat} {f0:List Int} {f1:Int} {f2:Int} (h:W.heap[g]? = some (.cells #[.slice A0 f0.length c0,.int .i64 f1,.int .i64 f2] 125 (0,0))):W.cell? ⟨g,2,none⟩=some (.int .i64 f2):=(blk_cell h 2).trans rfl
theorem IsS125.set_2 {w0 W:World} {g:Nat} {f0:List Int} {f1:Int} {f2:Int} (h:IsS125 w0 W g f0 f1 f2) (x:Int):IsS125 w0 (W.setCell ⟨g,2,none⟩ (.int .i64 x)) g f0 f1 x:=by
 obtain ⟨A0,c0,hb,hg,hr0⟩:=h
 exact ⟨A0,c0,by simpa using blk_set hb 2 (.int .i64 x),hg,hr0⟩
theorem IsS125.new (w0 W:World) (A0:Option Addr) (c0:Nat) (f0:List Int) (f1:Int) (f2:Int) (hB:Below w0.heap.size w0 W) (hr0:Kd.C (Kd.int .u8) w0 A0 f0.length f0):IsS125 w0 (W.alloc (.cells #[.slice A0 f0.length c0,.int .i64 f1,.int .i64 f2] 125)) W.heap.size f0 f1 f2:=⟨A0,c0,by simpa using heap_alloc_new W _,hB.size,hr0⟩
def spec_l1New.l0:Nat→List Int→Int→Int→Option (List Int × Int × Int)
 | 0,_,_,_=>none
 | k+1,x0,x3,x4=>if x4<(x0.length:Int) then (if x4<4000 then (if 0≤x4 then (spec_l1New.l0 k x0 (Go.bits .and .i64 (wrap64 ((wrap64 ((wrap64 (x3 * 131))+(wrap64 (rd x0 x4))))+7)) 1073741823) (wrap64 (x4+1))) else (none)) else (some (x0,0,x3))) else (some (x0,0,x3))
def spec_l1New.f (k:Nat) (l0:List Int):Option (List Int × Int × Int):=spec_l1New.l0 k l0 (wrap64 (26583+(l0.length:Int))) 0
theorem spec_l1New.mono_l:∀ k,(∀ y0 y1 y2,LeO (spec_l1New.l0 k y0 y1 y2) (spec_l1New.l0 (k+1) y0 y1 y2))
 | 0=>fun _ _ _ r h=>by simp [spec_l1New.l0] at h
 | k+1=>by
  have ih0:=spec_l1New.mono_l k
  ·intro y0 y1 y2
   unfold spec_l1New.l0
   repeat' first
   | (with_reducible exact ih0 _ _ _)
   | (with_reducible exact LeO.refl _)
   | (with_reducible exact LeO.none _)
   | (with_reducible refine LeO.ite ?_ ?_)
   | (with_reducible refine LeO.bind ?_ (fun _=>?_))
   | exact ih0 _ _ _
   | exact LeO.none _
   | refine LeO.ite ?_ ?_
   | refine LeO.bind ?_ (fun _=>?_)
theorem spec_l1New.mono:∀ a0 k,LeO (spec_l1New.f k a0) (spec_l1New.f (k+1) a0):=by
 intro a0 k
 have ih0:=spec_l1New.mono_l k
 unfold spec_l1New.f
 repeat' first
  | (with_reducible exact ih0 _ _ _)
  | (with_reducible exact LeO.refl _)
  | (with_reducible exact LeO.none _)
  | (with_reducible refine LeO.ite ?_ ?_)
  | (with_reducible refine LeO.bind ?_ (fun _=>?_))
  | exact ih0 _ _ _
  | exact LeO.none _
  | refine LeO.ite ?_ ?_
  | refine LeO.bind ?_ (fun _=>?_)
theorem zp35_0_ {p q:Prop} (h:p) (c:p→q:=by intro h_;repeat (first | (with_reducible first | exact h_ | apply below_alloc | apply pw_below_drewN | apply below_drew1) | exact h_)):q:=c h
theorem zp35_1_ {p q g1:Prop} (h:p) (h1:g1) (c:p→g1→q:=by intro h_ h1_;repeat (first | (with_reducible first | exact h_ | apply below_alloc | apply pw_below_drewN | apply below_drew1 | refine below_set ?_ h1_) | exact h_)):q:=c h h1
theorem zp35_2_ {p q:Prop} (h:p) (c:p→q:=by intro h_;repeat (first | (with_reducible first | exact h_ | apply IsS125.alloc | apply IsS125.drewN | apply IsS125.drew | apply IsS125.set_1 | apply IsS125.set_2) | exact h_)):q:=c h
theorem zp35_3_ {p q:Prop} (h:p) (c:p→q:=by intro h_;repeat (first | (with_reducible first | exact h_ | apply KeepBut.set_ | apply keep_drewN | apply keep_drew | apply keep_alloc) | exact h_)):q:=c h
set_option maxHeartbeats 8000000 in
set_option maxRecDepth 100000 in
theorem spec_l1New.calls (k:Nat) (A0:Option Addr) (c0:Nat) (l0:List Int) (r1:List Int) (r2:Int) (r3:Int) (w0 w:World) (hB:Below w0.heap.size w0 w) (hr0:Kd.C (Kd.int .u8) w0 A0 l0.length l0) (hc0:l0.length≤c0) (h:spec_l1New.f k l0=some (r1,r2,r3)) :
  Calls Try.prog 85 #[.slice A0 l0.length c0] w fun e w'=>∃ g_:Nat,e = .returned (.pointer (some ⟨g_,0,none⟩))∧IsS125 w0 w' g_ r1 r2 r3∧Below w0.heap.size w0 w'∧Below w.heap.size w w':=by
 have hu125:=Try.underlying125
 have HR0:=am_ hr0
 have HC0:=am_ hc0
 clear hr0 hc0
 have HBW:=am_ (Below.refl w.heap.size w)
 have HW0:=am_ hB.size
 have HB:=am_ hB
 clear hB
 have H:(spec_l1New.l0 k l0 (wrap64 (26583+(l0.length:Int))) 0)=some (r1,r2,r3):=h
 clear h
 have H':=am_ H
 clear H
 go_enter Try.func85,Try.ntmps85
 go_wp2
 go_loopg [3,4] k (fun kq v3 v4 w'=>∃ (ad:Int) (aa:Int),v3 = .int .i64 ad∧v4 = .int .i64 aa∧Aside0 (spec_l1New.l0 kq l0 ad aa=some (r1,r2,r3))∧Aside0 (kq≤k)∧Aside0 (Below w0.heap.size w0 w')∧Aside0 (Below w.heap.size w w'))
 case atStart=>exact ⟨(wrap64 (26583+(l0.length:Int))),(0),(by first | rfl | (simp;done) | (simp [*];done)),(by first | rfl | (simp;done) | (simp [*];done)),H',⟨Nat.le_refl _⟩,⟨by exact zp35_0_ HB.out⟩,⟨by exact zp35_0_ HBW.out⟩⟩
 case round =>
  clear H'
  obtain ⟨ad,aa,rfl,rfl,HA,HK1,HB,HBW⟩:=hrel
  cases gk with
  | zero=>exact absurd HA.out (by simp [spec_l1New.l0])
  | succ k1 =>
   have H:=HA.out
   clear HA
   simp only [spec_l1New.l0] at H
   by_cases c2:aa<(l0.length:Int)
   ·rw [if_pos c2] at H
    have c2b0:decide (aa<(l0.length:Int))=true:=decide_eq_true c2
    clear c2
    by_cases c3:aa<4000
    ·rw [if_pos c3] at H
     have c3b0:decide (aa<4000)=true:=decide_eq_true c3
     clear c3
     by_cases c4:0≤aa
     ·rw [if_pos c4] at H
      have c4b0:decide (0≤aa)=true:=decide_eq_true c4
      clear c4
      have H':=am_ H
      clear H
      have p423:0≤(aa:Int):=of_decide_eq_true ah_
      have q423:aa<(l0.length:Int):=of_decide_eq_true ah_
      obtain ⟨aU,e423,ag⟩:=Kd.at_int HR0.out aa p423 q423
      cases e423
      replace ag:=pw_cell_below HB.out ag
      replace p423:=eq_true p423
      replace q423:=eq_true q423
      go_wp2
      go_roundg k1
      case measure=>have:=HK1.out;omega
      case rel=>exact ⟨(Go.bits .and .i64 (wrap64 ((wrap64 ((wrap64 (ad * 131))+(wrap64 (rd l0 aa))))+7)) 1073741823),(wrap64 (aa+1)),(by first | rfl | (simp;done) | (simp [*];done)),(by first | rfl | (simp;done) | (simp [*];done)),H',⟨by have:=HK1.out;omega⟩,⟨by exact zp35_0_ HB.out⟩,⟨by exact zp35_0_ HBW.out⟩⟩
     ·rw [if_neg c4] at H
      exact absurd H (by simp)
    ·rw [if_neg c3] at H
     have c3b0:decide (aa<4000)=false:=decide_eq_false c3
     clear c3
     simp only [Option.some.injEq,Prod.mk.injEq] at H
     obtain ⟨rfl,rfl,rfl⟩:=H
     go_wp2_with (first | ((with_reducible refine gate_dst (N:=31) rfl ?_);refine box_event ?hg (N:=31) ?hd (cs:=#[.slice A0 l0.length c0,.int .i64 0,.int .i64 ad]) (t:=125) ?hr ?_;(case hd=>rfl);(case hg=>rfl);(case hr=>first | (go_simp;done) | (go_simp;rfl));intro ae hg w5 hbox hb;have n0_:=am_ (below_step HBW.out hb);have n1_:=am_ (below_step (b0_ HB.out) hb);have n2_:=am_ (hbox);have n3_:=am_ ((by rw [hg];exact (below_size (b0_ HBW.out)):w.heap.size≤ae));have n4_:=am_ ((Nat.le_trans HW0.out (by rw [hg];exact (below_size (b0_ HBW.out)):w.heap.size≤ae):w0.heap.size≤ae));clear HBW;clear HB;have HBW:=n0_;have HB:=n1_;have aw:=n2_;have ax:=n3_;have ah:=n4_;clear n0_ n1_ n2_ n3_ n4_;clear hb hbox hg))
     go_ret
     exact ⟨_,rfl,(show IsS125 w0 _ ae l0 0 ad from ⟨_,_,by refine rb_ ?_;exact aw.out,ah.out,HR0.out⟩),by exact zp35_1_ HB.out ah.out,by exact zp35_1_ HBW.out ax.out⟩
   ·rw [if_neg c2] at H
    have c2b0:decide (aa<(l0.length:Int))=false:=decide_eq_false c2
    clear c2
    simp only [Option.some.injEq,Prod.mk.injEq] at H
    obtain ⟨rfl,rfl,rfl⟩:=H
    go_wp2_with (first | ((with_reducible refine gate_dst (N:=31) rfl ?_);refine box_event ?hg (N:=31) ?hd (cs:=#[.slice A0 l0.length c0,.int .i64 0,.int .i64 ad]) (t:=125) ?hr ?_;(case hd=>rfl);(case hg=>rfl);(case hr=>first | (go_simp;done) | (go_simp;rfl));intro af hg w6 hbox hb;have n0_:=am_ (below_step HBW.out hb);have n1_:=am_ (below_step (b0_ HB.out) hb);have n2_:=am_ (hbox);have n3_:=am_ ((by rw [hg];exact (below_size (b0_ HBW.out)):w.heap.size≤af));have n4_:=am_ ((Nat.le_trans HW0.out (by rw [hg];exact (below_size (b0_ HBW.out)):w.heap.size≤af):w0.heap.size≤af));clear HBW;clear HB;have HBW:=n0_;have HB:=n1_;have ay:=n2_;have az:=n3_;have ai:=n4_;clear n0_ n1_ n2_ n3_ n4_;clear hb hbox hg))
    go_ret
    exact ⟨_,rfl,(show IsS125 w0 _ af l0 0 ad from ⟨_,_,by refine rb_ ?_;exact ay.out,ai.out,HR0.out⟩),by exact zp35_1_ HB.out ai.out,by exact zp35_1_ HBW.out az.out⟩
def spec_l1Byte.f (s0_0:List Int) (s0_1:Int) (s0_2:Int):Option (Int × Int × Int):=if s0_1<(s0_0.length:Int) then (if 0≤s0_1 then (some (Go.bits .and .i64 (wrap64 ((Go.bits .and .i64 (Go.bits .xor .i64 ((wrap64 ((wrap64 (s0_2 * 6364136223846793005))+1442695040888963407)) / 8589934592) ((wrap64 ((wrap64 (s0_2 * 6364136223846793005))+1442695040888963407)) / 35184372088832)) 255)+(wrap64 (rd s0_0 s0_1)))) 255,wrap64 (s0_1+1),wrap64 ((wrap64 (s0_2 * 6364136223846793005))+1442695040888963407))) else (none)) else (some (Go.bits .and .i64 (Go.bits .xor .i64 ((wrap64 ((wrap64 (s0_2 * 6364136223846793005))+1442695040888963407)) / 8589934592) ((wrap64 ((wrap64 (s0_2 * 6364136223846793005))+1442695040888963407)) / 35184372088832)) 255,s0_1,wrap64 ((wrap64 (s0_2 * 6364136223846793005))+1442695040888963407)))
set_option maxHeartbeats 8000000 in
set_option maxRecDepth 100000 in
theorem spec_l1Byte.calls (g:Nat) (s0_0:List Int) (s0_1:Int) (s0_2:Int) (r1:Int) (r2:Int) (r3:Int) (w0 w:World) (hI:IsS125 w0 w g s0_0 s0_1 s0_2) (hB:Below w0.heap.size w0 w) (h:spec_l1Byte.f s0_0 s0_1 s0_2=some (r1,r2,r3)) :
  Calls Try.prog 129 #[.pointer (some ⟨g,0,none⟩)] w fun e w'=>e = .returned (.int .i64 r1)∧IsS125 w0 w' g s0_0 r2 r3∧Below w0.heap.size w0 w'∧KeepBut w w' g none:=by
 have HI0:=am_ hI
 have HK:=am_ (KeepBut.refl w g none)
 have HL:=am_ hB.size
 clear hI
 have HW0:=am_ hB.size
 have HB:=am_ hB
 clear hB
 have H:(if s0_1<(s0_0.length:Int) then (if 0≤s0_1 then (some (Go.bits .and .i64 (wrap64 ((Go.bits .and .i64 (Go.bits .xor .i64 ((wrap64 ((wrap64 (s0_2 * 6364136223846793005))+1442695040888963407)) / 8589934592) ((wrap64 ((wrap64 (s0_2 * 6364136223846793005))+1442695040888963407)) / 35184372088832)) 255)+(wrap64 (rd s0_0 s0_1)))) 255,wrap64 (s0_1+1),wrap64 ((wrap64 (s0_2 * 6364136223846793005))+1442695040888963407))) else (none)) else (some (Go.bits .and .i64 (Go.bits .xor .i64 ((wrap64 ((wrap64 (s0_2 * 6364136223846793005))+1442695040888963407)) / 8589934592) ((wrap64 ((wrap64 (s0_2 * 6364136223846793005))+1442695040888963407)) / 35184372088832)) 255,s0_1,wrap64 ((wrap64 (s0_2 * 6364136223846793005))+1442695040888963407))))=some (r1,r2,r3):=h
 clear h
 by_cases c2:s0_1<(s0_0.length:Int)
 ·rw [if_pos c2] at H
  have c2b0:decide (s0_1<(s0_0.length:Int))=true:=decide_eq_true c2
  clear c2
  by_cases c3:0≤s0_1
  ·rw [if_pos c3] at H
   have c3b0:decide (0≤s0_1)=true:=decide_eq_true c3
   clear c3
   simp only [Option.some.injEq,Prod.mk.injEq] at H
   obtain ⟨rfl,rfl,rfl⟩:=H
   obtain ⟨ASz4_0,cSz4_0,HGz4,hgz4,HSz4_0⟩:=HI0.out
   have aK:=cellS125_0 HGz4
   have aL:=cellS125_1 HGz4
   have aM:=cellS125_2 HGz4
   have aN:=blk_frozen HGz4 1
   have aO:=blk_frozen HGz4 2
   clear HGz4 hgz4
   have p426:0≤(s0_1:Int):=of_decide_eq_true ah_
   have q426:s0_1<(s0_0.length:Int):=of_decide_eq_true ah_
   obtain ⟨aA,e426,ab⟩:=Kd.at_int HSz4_0 s0_1 p426 q426
   cases e426
   have hn426_0:aA.block ≠ g:=Nat.ne_of_lt (Nat.lt_of_lt_of_le (by have:=World.block_lt_of_cell? _ _ ab;first | rwa [add_block] at this | exact this) (IsS125.ge HI0.out))
   replace ab:=pw_cell_below HB.out ab
   replace ab:=(cell_far (p:=⟨g,2,none⟩) (by first | (rw [add_block];exact hn426_0) | (show (Addr.add _ _).block ≠ _;rw [add_block];exact hn426_0) | exact hn426_0) (.int .i64 (wrap64 ((wrap64 (s0_2 * 6364136223846793005))+1442695040888963407)))).trans ab
   (try have hy426_0:=fun (n_:Nat)=>(show (((w.drewN n_).setCell ⟨g,2,none⟩ (.int .i64 (wrap64 ((wrap64 (s0_2 * 6364136223846793005))+1442695040888963407))))).cell? _=some _ from ab))
   clear hn426_0
   replace p426:=eq_true p426
   replace q426:=eq_true q426
   go_enter Try.func129,Try.ntmps129
   go_wp2
   repeat (go_quiet (fail);try go_wp2)
   go_ret
   exact ⟨by first | rfl | (simp [errW_none,errW_some] <;> rfl) | (simp [*,errW_none,errW_some] <;> rfl),by exact zp35_2_ HI0.out,by exact zp35_1_ HB.out (IsS125.ge HI0.out),by exact zp35_3_ HK.out⟩
  ·rw [if_neg c3] at H
   exact absurd H (by simp)
 ·rw [if_neg c2] at H
  have c2b0:decide (s0_1<(s0_0.length:Int))=false:=decide_eq_false c2
  clear c2
  simp only [Option.some.injEq,Prod.mk.injEq] at H
  obtain ⟨rfl,rfl,rfl⟩:=H
  obtain ⟨ASz5_0,cSz5_0,HGz5,hgz5,HSz5_0⟩:=HI0.out
  have aP:=cellS125_0 HGz5
  have aQ:=cellS125_1 HGz5
  have aR:=cellS125_2 HGz5
  have aS:=blk_frozen HGz5 1
  have aT:=blk_frozen HGz5 2
  clear HGz5 hgz5
  go_enter Try.func129,Try.ntmps129
  go_wp2
  repeat (go_quiet (fail);try go_wp2)
  go_ret
  exact ⟨by first | rfl | (simp [errW_none,errW_some] <;> rfl) | (simp [*,errW_none,errW_some] <;> rfl),by exact zp35_2_ HI0.out,by exact zp35_1_ HB.out (IsS125.ge HI0.out),by exact zp35_3_ HK.out⟩
def spec_l1Below.f (s0_0:List Int) (s0_1:Int) (s0_2:Int) (a1:Int):Option (Int × Int × Int):=if a1≤0 then (some (0,s0_1,s0_2)) else (if a1≤256 then ((spec_l1Byte.f s0_0 s0_1 s0_2).bind fun bt427=>(if a1=0 then (none) else (some (Int.tmod bt427.1 a1,bt427.2.1,bt427.2.2)))) else ((spec_l1Byte.f s0_0 s0_1 s0_2).bind fun bt430=>((spec_l1Byte.f s0_0 bt430.2.1 bt430.2.2).bind fun bt433=>((spec_l1Byte.f s0_0 bt433.2.1 bt433.2.2).bind fun bt436=>((spec_l1Byte.f s0_0 bt436.2.1 bt436.2.2).bind fun bt439=>(if a1=0 then (none) else (some (Int.tmod (wrap64 ((wrap64 ((wrap64 ((wrap64 (bt430.1 * 16777216))+(wrap64 (bt433.1 * 65536))))+(wrap64 (bt436.1 * 256))))+bt439.1)) a1,bt439.2.1,bt439.2.2))))))))
set_option maxHeartbeats 8000000 in
set_option maxRecDepth 100000 in
theorem spec_l1Below.calls (g:Nat) (s0_0:List Int) (s0_1:Int) (s0_2:Int) (a1:Int) (r1:Int) (r2:Int) (r3:Int) (w0 w:World) (hI:IsS125 w0 w g s0_0 s0_1 s0_2) (hB:Below w0.heap.size w0 w) (h:spec_l1Below.f s0_0 s0_1 s0_2 a1=some (r1,r2,r3)) :
  Calls Try.prog 107 #[.pointer (some ⟨g,0,none⟩),.int .i64 a1] w fun e w'=>e = .returned (.int .i64 r1)∧IsS125 w0 w' g s0_0 r2 r3∧Below w0.heap.size w0 w'∧KeepBut w w' g none:=by
 have HI0:=am_ hI
 have HK:=am_ (KeepBut.refl w g none)
 have HL:=am_ hB.size
 clear hI
 have HW0:=am_ hB.size
 have HB:=am_ hB
 clear hB
 have H:(if a1≤0 then (some (0,s0_1,s0_2)) else (if a1≤256 then ((spec_l1Byte.f s0_0 s0_1 s0_2).bind fun bt427=>(if a1=0 then (none) else (some (Int.tmod bt427.1 a1,bt427.2.1,bt427.2.2)))) else ((spec_l1Byte.f s0_0 s0_1 s0_2).bind fun bt430=>((spec_l1Byte.f s0_0 bt430.2.1 bt430.2.2).bind fun bt433=>((spec_l1Byte.f s0_0 bt433.2.1 bt433.2.2).bind fun bt436=>((spec_l1Byte.f s0_0 bt436.2.1 bt436.2.2).bind fun bt439=>(if a1=0 then (none) else (some (Int.tmod (wrap64 ((wrap64 ((wrap64 ((wrap64 (bt430.1 * 16777216))+(wrap64 (bt433.1 * 65536))))+(wrap64 (bt436.1 * 256))))+bt439.1)) a1,bt439.2.1,bt439.2.2)))))))))=some (r1,r2,r3):=h
 clear h
 by_cases c3:a1≤0
 ·rw [if_pos c3] at H
  have c3b0:decide (a1≤0)=true:=decide_eq_true c3
  clear c3
  simp only [Option.some.injEq,Prod.mk.injEq] at H
  obtain ⟨rfl,rfl,rfl⟩:=H
  go_enter Try.func107,Try.ntmps107
  go_wp2
  go_ret
  exact ⟨by first | rfl | (simp [errW_none,errW_some] <;> rfl) | (simp [*,errW_none,errW_some] <;> rfl),by exact zp35_2_ HI0.out,by exact zp35_1_ HB.out (IsS125.ge HI0.out),by exact zp35_3_ HK.out⟩
 ·rw [if_neg c3] at H
  have c3b0:decide (a1≤0)=false:=decide_eq_false c3
  clear c3
  by_cases c4:a1≤256
  ·rw [if_pos c4] at H
   have c4b0:decide (a1≤256)=true:=decide_eq_true c4
   clear c4
   replace H:=Option.bind_eq_some_iff.mp H
   obtain ⟨⟨aB,aC,aD⟩,A50,H⟩:=H
   have A5:=am_ A50
   clear A50
   by_cases c6:a1=0
   ·rw [if_pos c6] at H
    exact absurd H (by simp)
   ·rw [if_neg c6] at H
    have c6b0:(a1 == 0)=false:=beq_eq_false_iff_ne.mpr c6
    have c6b1:(a1 != 0)=true:=bne_iff_ne.mpr c6
    simp only [Option.some.injEq,Prod.mk.injEq] at H
    obtain ⟨rfl,rfl,rfl⟩:=H
    go_enter Try.func107,Try.ntmps107
    go_wp2_with (first | ((with_reducible refine gate_callee (f:=129) rfl ?_);refine gL_ (some 14) Try.func129 #[.pointer (some ⟨g,0,none⟩)] ?_;(with_reducible refine (spec_l1Byte.calls g s0_0 s0_1 s0_2 aB aC aD w0 _ ?side1 ?side2 A5.out).mono ?_);(case side1=>exact zp35_2_ HI0.out);(case side2=>exact zp35_1_ HB.out (IsS125.ge HI0.out));rintro e w7 ⟨rfl,hi,hb,hk⟩;refine ⟨_,rfl,?_⟩;have n0_:=am_ (KeepBut.trans (k0_ HK.out) hk (.inl rfl));have n1_:=am_ (hb);have n2_:=am_ (hi);clear HK;clear HB;clear HI0;have HK:=n0_;have HB:=n1_;have HI0:=n2_;clear n0_ n1_ n2_;(try clear hb);(try clear hb2);(try clear hk);(try clear hi)))
    go_ret
    exact ⟨by first | rfl | (simp [errW_none,errW_some] <;> rfl) | (simp [*,errW_none,errW_some] <;> rfl),by exact zp35_2_ HI0.out,by exact zp35_1_ HB.out (IsS125.ge HI0.out),by exact zp35_3_ HK.out⟩
  ·rw [if_neg c4] at H
   have c4b0:decide (a1≤256)=false:=decide_eq_false c4
   clear c4
   replace H:=Option.bind_eq_some_iff.mp H
   obtain ⟨⟨aE,aj,ak⟩,A80,H⟩:=H
   have A8:=am_ A80
   clear A80
   replace H:=Option.bind_eq_some_iff.mp H
   obtain ⟨⟨aF,al,am⟩,A90,H⟩:=H
   have A9:=am_ A90
   clear A90
   replace H:=Option.bind_eq_some_iff.mp H
   obtain ⟨⟨aG,an,ao⟩,ap,H⟩:=H
   have A10:=am_ ap
   clear ap
   replace H:=Option.bind_eq_some_iff.mp H
   obtain ⟨⟨aH,aI,aJ⟩,aq,H⟩:=H
   have A11:=am_ aq
   clear aq
   by_cases c12:a1=0
   ·rw [if_pos c12] at H
    exact absurd H (by simp)
   ·rw [if_neg c12] at H
    have c12b0:(a1 == 0)=false:=beq_eq_false_iff_ne.mpr c12
    have c12b1:(a1 != 0)=true:=bne_iff_ne.mpr c12
    simp only [Option.some.injEq,Prod.mk.injEq] at H
    obtain ⟨rfl,rfl,rfl⟩:=H
    go_enter Try.func107,Try.ntmps107
    go_wp2_with (first | ((with_reducible refine gate_callee (f:=129) rfl ?_);refine gL_ (some 18) Try.func129 #[.pointer (some ⟨g,0,none⟩)] ?_;(with_reducible refine (spec_l1Byte.calls g s0_0 s0_1 s0_2 aE aj ak w0 _ ?side1 ?side2 A8.out).mono ?_);(case side1=>exact zp35_2_ HI0.out);(case side2=>exact zp35_1_ HB.out (IsS125.ge HI0.out));rintro e w13 ⟨rfl,hi,hb,hk⟩;refine ⟨_,rfl,?_⟩;have n0_:=am_ (KeepBut.trans (k0_ HK.out) hk (.inl rfl));have n1_:=am_ (hb);have n2_:=am_ (hi);clear HK;clear HB;clear HI0;have HK:=n0_;have HB:=n1_;have HI0:=n2_;clear n0_ n1_ n2_;(try clear hb);(try clear hb2);(try clear hk);(try clear hi)) | ((with_reducible refine gate_callee (f:=129) rfl ?_);refine gL_ (some 20) Try.func129 #[.pointer (some ⟨g,0,none⟩)] ?_;(with_reducible refine (spec_l1Byte.calls g s0_0 aj ak aF al am w0 _ ?side1 ?side2 A9.out).mono ?_);(case side1=>exact zp35_2_ HI0.out);(case side2=>exact zp35_1_ HB.out (IsS125.ge HI0.out));rintro e w14 ⟨rfl,hi,hb,hk⟩;refine ⟨_,rfl,?_⟩;have n0_:=am_ (KeepBut.trans (k0_ HK.out) hk (.inl rfl));have n1_:=am_ (hb);have n2_:=am_ (hi);clear HK;clear HB;clear HI0;have HK:=n0_;have HB:=n1_;have HI0:=n2_;clear n0_ n1_ n2_;(try clear hb);(try clear hb2);(try clear hk);(try clear hi)) | ((with_reducible refine gate_callee (f:=129) rfl ?_);refine gL_ (some 22) Try.func129 #[.pointer (some ⟨g,0,none⟩)] ?_;(with_reducible refine (spec_l1Byte.calls g s0_0 al am aG an ao w0 _ ?side1 ?side2 A10.out).mono ?_);(case side1=>exact zp35_2_ HI0.out);(case side2=>exact zp35_1_ HB.out (IsS125.ge HI0.out));rintro e w15 ⟨rfl,hi,hb,hk⟩;refine ⟨_,rfl,?_⟩;have n0_:=am_ (KeepBut.trans (k0_ HK.out) hk (.inl rfl));have n1_:=am_ (hb);have n2_:=am_ (hi);clear HK;clear HB;clear HI0;have HK:=n0_;have HB:=n1_;have HI0:=n2_;clear n0_ n1_ n2_;(try clear hb);(try clear hb2);(try clear hk);(try clear hi)) | ((with_reducible refine gate_callee (f:=129) rfl ?_);refine gL_ (some 24) Try.func129 #[.pointer (some ⟨g,0,none⟩)] ?_;(with_reducible refine (spec_l1Byte.calls g s0_0 an ao aH aI aJ w0 _ ?side1 ?side2 A11.out).mono ?_);(case side1=>exact zp35_2_ HI0.out);(case side2=>exact zp35_1_ HB.out (IsS125.ge HI0.out));rintro e w16 ⟨rfl,hi,hb,hk⟩;refine ⟨_,rfl,?_⟩;have n0_:=am_ (KeepBut.trans (k0_ HK.out) hk (.inl rfl));have n1_:=am_ (hb);have n2_:=am_ (hi);clear HK;clear HB;clear HI0;have HK:=n0_;have HB:=n1_;have HI0:=n2_;clear n0_ n1_ n2_;(try clear hb);(try clear hb2);(try clear hk);(try clear hi)))
    go_ret
    exact ⟨by first | rfl | (simp [errW_none,errW_some] <;> rfl) | (simp [*,errW_none,errW_some] <;> rfl),by exact zp35_2_ HI0.out,by exact zp35_1_ HB.out (IsS125.ge HI0.out),by exact zp35_3_ HK.out⟩
def spec_l1Once.f (s0_0:List Int) (s0_1:Int) (s0_2:Int) (a1:Int):Option (Bool × Int × Int):=(spec_l1Below.f s0_0 s0_1 s0_2 a1).bind fun bt442=>(some ((bt442.1 == 0),bt442.2.1,bt442.2.2))
set_option maxHeartbeats 8000000 in
set_option maxRecDepth 100000 in
theorem spec_l1Once.calls (g:Nat) (s0_0:List Int) (s0_1:Int) (s0_2:Int) (a1:Int) (r1:Bool) (r2:Int) (r3:Int) (w0 w:World) (hI:IsS125 w0 w g s0_0 s0_1 s0_2) (hB:Below w0.heap.size w0 w) (h:spec_l1Once.f s0_0 s0_1 s0_2 a1=some (r1,r2,r3)) :
  Calls Try.prog 87 #[.pointer (some ⟨g,0,none⟩),.int .i64 a1] w fun e w'=>e = .returned (.bool r1)∧IsS125 w0 w' g s0_0 r2 r3∧Below w0.heap.size w0 w'∧KeepBut w w' g none:=by
 have HI0:=am_ hI
 have HK:=am_ (KeepBut.refl w g none)
 have HL:=am_ hB.size
 clear hI
 have HW0:=am_ hB.size
 have HB:=am_ hB
 clear hB
 have H:((spec_l1Below.f s0_0 s0_1 s0_2 a1).bind fun bt442=>(some ((bt442.1 == 0),bt442.2.1,bt442.2.2)))=some (r1,r2,r3):=h
 clear h
 replace H:=Option.bind_eq_some_iff.mp H
 obtain ⟨⟨ar,au,av⟩,A30,H⟩:=H
 replace H:(some ((ar == 0),au,av))=some (r1,r2,r3):=H
 have A3:=am_ A30
 clear A30
 simp only [Option.some.injEq,Prod.mk.injEq] at H
 obtain ⟨rfl,rfl,rfl⟩:=H
 go_enter Try.func87,Try.ntmps87
 go_wp2_with (first | ((with_reducible refine gate_callee (f:=107) rfl ?_);refine gL_ (some 7) Try.func107 #[.pointer (some ⟨g,0,none⟩),.int .i64 a1] ?_;(with_reducible refine (spec_l1Below.calls g s0_0 s0_1 s0_2 a1 ar au av w0 _ ?side1 ?side2 A3.out).mono ?_);(case side1=>exact zp35_2_ HI0.out);(case side2=>exact zp35_1_ HB.out (IsS125.ge HI0.out));rintro e w4 ⟨rfl,hi,hb,hk⟩;refine ⟨_,rfl,?_⟩;have n0_:=am_ (KeepBut.trans (k0_ HK.out) hk (.inl rfl));have n1_:=am_ (hb);have n2_:=am_ (hi);clear HK;clear HB;clear HI0;have HK:=n0_;have HB:=n1_;have HI0:=n2_;clear n0_ n1_ n2_;(try clear hb);(try clear hb2);(try clear hk);(try clear hi)))
 go_ret
 exact ⟨by first | rfl | (simp [errW_none,errW_some] <;> rfl) | (simp [*,errW_none,errW_some] <;> rfl),by exact zp35_2_ HI0.out,by exact zp35_1_ HB.out (IsS125.ge HI0.out),by exact zp35_3_ HK.out⟩
end Go.Proofs.Ytogamkblkoobkaa.P
end
section
namespace Go.Proofs.Ytogamkblkoobkaa.P
open Go.RowKit Go.Proofs.YtogamkblkoobkaaW.PrintWords Go.Proofs.YtogamkblkoobkaaW.PrintLast Go.Proofs.YtogamkblkoobkaaW.PrintMore
attribute [local go_sem] max2_int min2_int max_two min_two max_three min_three max_four min_four
def spec_l1PickInt.f (s0_0:List Int) (s0_1:Int) (s0_2:Int) (l1:List Int):Option (Int × Int × Int):=(spec_l1Below.f s0_0 s0_1 s0_2 (l1.length:Int)).bind fun bt685=>(if 0≤bt685.1 then (if bt685.1<(l1.length:Int) then (some (rd l1 bt685.1,bt685.2.1,bt685.2.2)) else (none)) else (none))
set_option maxHeartbeats 8000000 in
set_option maxRecDepth 100000 in
theorem spec_l1PickInt.calls (g:Nat) (s0_0:List Int) (s0_1:Int) (s0_2:Int) (A1:Option Addr) (c1:Nat) (l1:List Int) (r1:Int) (r2:Int) (r3:Int) (w0 w:World) (hI:IsS125 w0 w g s0_0 s0_1 s0_2) (hB:Below w0.heap.size w0 w) (hr1:Kd.C (Kd.int .i64) w A1 l1.length l1) (hc1:l1.length≤c1) (hf1:∀ ad,A1=some ad→0<l1.length→ad.block ≠ g) (h:spec_l1PickInt.f s0_0 s0_1 s0_2 l1=some (r1,r2,r3)) :
  Calls Try.prog 100 #[.pointer (some ⟨g,0,none⟩),.slice A1 l1.length c1] w fun e w'=>e = .returned (.int .i64 r1)∧IsS125 w0 w' g s0_0 r2 r3∧Below w0.heap.size w0 w'∧KeepBut w w' g none:=by
 have HR1:=am_ hr1
 have HC1:=am_ hc1
 clear hr1 hc1
 have HI0:=am_ hI
 have HK:=am_ (KeepBut.refl w g none)
 have HL:=am_ hB.size
 clear hI
 have HW0:=am_ hB.size
 have HB:=am_ hB
 clear hB
 have H:((spec_l1Below.f s0_0 s0_1 s0_2 (l1.length:Int)).bind fun bt685=>(if 0≤bt685.1 then (if bt685.1<(l1.length:Int) then (some (rd l1 bt685.1,bt685.2.1,bt685.2.2)) else (none)) else (none)))=some (r1,r2,r3):=h
 clear h
 replace H:=Option.bind_eq_some_iff.mp H
 obtain ⟨⟨aa,af,ag⟩,A30,H⟩:=H
 have A3:=am_ A30
 clear A30
 by_cases c4:0≤aa
 ·rw [if_pos c4] at H
  have c4b0:decide (0≤aa)=true:=decide_eq_true c4
  clear c4
  by_cases c5:aa<(l1.length:Int)
  ·rw [if_pos c5] at H
   have c5b0:decide (aa<(l1.length:Int))=true:=decide_eq_true c5
   clear c5
   simp only [Option.some.injEq,Prod.mk.injEq] at H
   obtain ⟨rfl,rfl,rfl⟩:=H
   go_enter Try.func100,Try.ntmps100
   go_wp2_with (first | ((with_reducible refine gate_callee (f:=107) rfl ?_);refine gL_ (some 9) Try.func107 #[.pointer (some ⟨g,0,none⟩),.int .i64 (l1.length:Int)] ?_;(with_reducible refine (spec_l1Below.calls g s0_0 s0_1 s0_2 (l1.length:Int) aa af ag w0 _ ?side1 ?side2 A3.out).mono ?_);(case side1=>repeat (first | (with_reducible first | exact HI0.out | apply IsS125.alloc | apply IsS125.drewN | apply IsS125.drew | apply IsS125.set_1 | apply IsS125.set_2) | exact HI0.out));(case side2=>repeat (first | (with_reducible first | exact HB.out | apply below_alloc | apply pw_below_drewN | apply below_drew1 | refine below_set ?_ (IsS125.ge HI0.out)) | exact HB.out));rintro e w6 ⟨rfl,hi,hb,hk⟩;refine ⟨_,rfl,?_⟩;have n0_:=am_ (KeepBut.trans (k0_ HK.out) hk (.inl rfl));have n1_:=am_ (hb);have n2_:=am_ (hi);clear HK;clear HB;clear HI0;have HK:=n0_;have HB:=n1_;have HI0:=n2_;clear n0_ n1_ n2_;(try clear hb);(try clear hb2);(try clear hk);(try clear hi);have p688:0≤(aa:Int):=of_decide_eq_true ah_;have q688:aa<(l1.length:Int):=of_decide_eq_true ah_;obtain ⟨ae,e688,ab⟩:=Kd.at_int HR1.out aa p688 q688;cases e688;replace ab:=keep_cell HK.out ab (by first | (rw [add_block];exact hf1 _ rfl (by omega)) | exact hf1 _ rfl (by omega) | exact hf1 ae rfl (by omega));replace p688:=eq_true p688;replace q688:=eq_true q688))
   go_ret
   exact ⟨by first | rfl | (simp [errW_none,errW_some] <;> rfl) | (simp [*,errW_none,errW_some] <;> rfl),by repeat (first | (with_reducible first | exact HI0.out | apply IsS125.alloc | apply IsS125.drewN | apply IsS125.drew | apply IsS125.set_1 | apply IsS125.set_2) | exact HI0.out),by repeat (first | (with_reducible first | exact HB.out | apply below_alloc | apply pw_below_drewN | apply below_drew1 | refine below_set ?_ (IsS125.ge HI0.out)) | exact HB.out),by repeat (first | (with_reducible first | exact HK.out | apply KeepBut.set_ | apply keep_drewN | apply keep_drew | apply keep_alloc) | exact HK.out)⟩
  ·rw [if_neg c5] at H
   exact absurd H (by simp)
 ·rw [if_neg c4] at H
  exact absurd H (by simp)
end Go.Proofs.Ytogamkblkoobkaa.P
end
section
namespace Go.Proofs.Ytogamkblkoobkaa.P
open Go.RowKit Go.Proofs.YtogamkblkoobkaaW.PrintWords Go.Proofs.YtogamkblkoobkaaW.PrintLast Go.Proofs.YtogamkblkoobkaaW.PrintMore
attribute [local go_sem] max2_int min2_int max_two min_two max_three min_three max_four min_four
mutual
def spec_WordsOfLength.l0:Nat→Int→List ByteArray→Int→Option (List ByteArray)
 | 0,_,_,_=>none
 | k+1,x0,x3,x4=>if x4<x0 then (spec_WordsOfLength.l1 k x0 x3 x4 (([]:List ByteArray)) 0) else (some x3)
def spec_WordsOfLength.l1:Nat→Int→List ByteArray→Int→List ByteArray→Int→Option (List ByteArray)
 | 0,_,_,_,_,_=>none
 | k+1,x0,x3,x4,x5,x6=>if x6<(x3.length:Int) then (spec_WordsOfLength.l2 k x0 x3 x4 x5 x6 0) else (spec_WordsOfLength.l0 k x0 x5 (wrap64 (x4+1)))
def spec_WordsOfLength.l2:Nat→Int→List ByteArray→Int→List ByteArray→Int→Int→Option (List ByteArray)
 | 0,_,_,_,_,_,_=>none
 | k+1,x0,x3,x4,x5,x6,x7=>if x7<3 then (if 0≤x6 then (if x6<(x3.length:Int) then (if 0≤x7 then (if x7≤(wrap64 (x7+1)) then (if (wrap64 (x7+1))≤3 then (if (rdOf ByteArray.empty x3 x6).size+((⟨#[97,98,99]⟩:ByteArray).extract (x7:Int).toNat ((wrap64 (x7+1)):Int).toNat).size≤9223372036854775807 then (if x5.length<8796093022208 then (spec_WordsOfLength.l2 k x0 x3 x4 (x5 ++ [(rdOf ByteArray.empty x3 x6) ++ ((⟨#[97,98,99]⟩:ByteArray).extract (x7:Int).toNat ((wrap64 (x7+1)):Int).toNat)]) x6 (wrap64 (x7+1))) else (none)) else (none)) else (none)) else (none)) else (none)) else (none)) else (none)) else (spec_WordsOfLength.l1 k x0 x3 x4 x5 (wrap64 (x6+1)))
end
def spec_WordsOfLength.f (k:Nat) (a0:Int):Option (List ByteArray):=(spec_l1In.f a0 0 5).bind fun ai=>(if ai=true then (spec_WordsOfLength.l0 k a0 (([(⟨#[]⟩:ByteArray)]:List ByteArray)) 0) else (some (([]:List ByteArray))))
theorem spec_WordsOfLength.mono_l:∀ k,(∀ y0 y1 y2,LeO (spec_WordsOfLength.l0 k y0 y1 y2) (spec_WordsOfLength.l0 (k+1) y0 y1 y2))∧(∀ y0 y1 y2 y3 y4,LeO (spec_WordsOfLength.l1 k y0 y1 y2 y3 y4) (spec_WordsOfLength.l1 (k+1) y0 y1 y2 y3 y4))∧(∀ y0 y1 y2 y3 y4 y5,LeO (spec_WordsOfLength.l2 k y0 y1 y2 y3 y4 y5) (spec_WordsOfLength.l2 (k+1) y0 y1 y2 y3 y4 y5))
 | 0=>⟨fun _ _ _ r h=>by simp [spec_WordsOfLength.l0] at h,fun _ _ _ _ _ r h=>by simp [spec_WordsOfLength.l1] at h,fun _ _ _ _ _ _ r h=>by simp [spec_WordsOfLength.l2] at h⟩
 | k+1=>by
  obtain ⟨ih0,ih1,ih2⟩:=spec_WordsOfLength.mono_l k
  refine ⟨?_,?_,?_⟩
  ·intro y0 y1 y2
   unfold spec_WordsOfLength.l0
   repeat' first
   | (with_reducible exact ih0 _ _ _)
   | (with_reducible exact ih1 _ _ _ _ _)
   | (with_reducible exact ih2 _ _ _ _ _ _)
   | (with_reducible exact LeO.refl _)
   | (with_reducible exact LeO.none _)
   | (with_reducible refine LeO.ite ?_ ?_)
   | (with_reducible refine LeO.bind ?_ (fun _=>?_))
   | exact ih0 _ _ _
   | exact ih1 _ _ _ _ _
   | exact ih2 _ _ _ _ _ _
   | exact LeO.none _
   | refine LeO.ite ?_ ?_
   | refine LeO.bind ?_ (fun _=>?_)
  ·intro y0 y1 y2 y3 y4
   unfold spec_WordsOfLength.l1
   repeat' first
   | (with_reducible exact ih0 _ _ _)
   | (with_reducible exact ih1 _ _ _ _ _)
   | (with_reducible exact ih2 _ _ _ _ _ _)
   | (with_reducible exact LeO.refl _)
   | (with_reducible exact LeO.none _)
   | (with_reducible refine LeO.ite ?_ ?_)
   | (with_reducible refine LeO.bind ?_ (fun _=>?_))
   | exact ih0 _ _ _
   | exact ih1 _ _ _ _ _
   | exact ih2 _ _ _ _ _ _
   | exact LeO.none _
   | refine LeO.ite ?_ ?_
   | refine LeO.bind ?_ (fun _=>?_)
  ·intro y0 y1 y2 y3 y4 y5
   unfold spec_WordsOfLength.l2
   repeat' first
   | (with_reducible exact ih0 _ _ _)
   | (with_reducible exact ih1 _ _ _ _ _)
   | (with_reducible exact ih2 _ _ _ _ _ _)
   | (with_reducible exact LeO.refl _)
   | (with_reducible exact LeO.none _)
   | (with_reducible refine LeO.ite ?_ ?_)
   | (with_reducible refine LeO.bind ?_ (fun _=>?_))
   | exact ih0 _ _ _
   | exact ih1 _ _ _ _ _
   | exact ih2 _ _ _ _ _ _
   | exact LeO.none _
   | refine LeO.ite ?_ ?_
   | refine LeO.bind ?_ (fun _=>?_)
theorem spec_WordsOfLength.mono:∀ a0 k,LeO (spec_WordsOfLength.f k a0) (spec_WordsOfLength.f (k+1) a0):=by
 intro a0 k
 obtain ⟨ih0,ih1,ih2⟩:=spec_WordsOfLength.mono_l k
 unfold spec_WordsOfLength.f
 repeat' first
  | (with_reducible exact ih0 _ _ _)
  | (with_reducible exact ih1 _ _ _ _ _)
  | (with_reducible exact ih2 _ _ _ _ _ _)
  | (with_reducible exact LeO.refl _)
  | (with_reducible exact LeO.none _)
  | (with_reducible refine LeO.ite ?_ ?_)
  | (with_reducible refine LeO.bind ?_ (fun _=>?_))
  | exact ih0 _ _ _
  | exact ih1 _ _ _ _ _
  | exact ih2 _ _ _ _ _ _
  | exact LeO.none _
  | refine LeO.ite ?_ ?_
  | refine LeO.bind ?_ (fun _=>?_)
def spec_WordsOfLength.T14:Bool × List (List Nat × List Nat):=(true,[([],[]),([],[]),([],[]),([1,2],[1,2]),([3],[3]),([],[]),([],[]),([6],[6]),([5,7],[5,7]),([4,8],[4,8]),([9],[9]),([0,10],[0,10]),([11,11,0,1,2,3,4,5,6,7,8,9,10,11],[0,11])])
def spec_WordsOfLength.B14:List Nat:=[0,0,0,6,14,0,0,64,224,510,1022,2047,4095]
theorem spec_WordsOfLength.tab14:rtab .any (opsOf Try.f106 14)=spec_WordsOfLength.T14:=by kernel_rfl
theorem spec_WordsOfLength.bits14:waitsOk spec_WordsOfLength.T14.2 spec_WordsOfLength.B14=true:=by kernel_rfl
theorem zp51_0_ {p q:Prop} (h:p) (c:p→q:=by intro h_;repeat (first | (with_reducible first | exact h_ | apply below_alloc | apply pw_below_drewN | apply below_drew1) | exact h_)):q:=c h
set_option maxHeartbeats 8000000 in
set_option maxRecDepth 100000 in
theorem spec_WordsOfLength.calls (k:Nat) (a0:Int) (r:List ByteArray) (w:World) (h:spec_WordsOfLength.f k a0=some r) :
  Calls Try.prog 106 #[.int .i64 a0] w fun e w'=>∃ v0_:Value,e = .returned (v0_)∧Kd.R Kd.string 9 w' w.heap.size (fun _=>True) v0_ r∧Below w.heap.size w w':=by
 have HB:=am_ (Below.refl w.heap.size w)
 have H:((spec_l1In.f a0 0 5).bind fun ai=>(if ai=true then (spec_WordsOfLength.l0 k a0 (([(⟨#[]⟩:ByteArray)]:List ByteArray)) 0) else (some (([]:List ByteArray)))))=some r:=h
 clear h
 replace H:=Option.bind_eq_some_iff.mp H
 obtain ⟨ai,A20,H⟩:=H
 have A2:=am_ A20
 clear A20
 by_cases c3:ai=true
 ·subst c3
  have H1:(spec_WordsOfLength.l0 k a0 (([(⟨#[]⟩:ByteArray)]:List ByteArray)) 0)=some r:=by rw [if_pos rfl] at H;exact H
  clear H
  have H:=H1
  clear H1
  obtain ⟨aq,hy753⟩:∃ y_:List ByteArray,y_=(([(⟨#[]⟩:ByteArray)]:List ByteArray)):=⟨_,rfl⟩
  replace H:(spec_WordsOfLength.l0 k a0 aq 0)=some r:=by first | (rw [hy753];with_reducible exact H) | (have H2_:=(Option.bind_some _ _).symm.trans H;rw [hy753];with_reducible exact H2_) | (have H2_:=(Option.bind_some _ _).symm.trans H;with_reducible exact H2_) | with_reducible exact H | (rw [hy753];exact H) | exact H
  have am:=am_ hy753
  clear hy753
  have H':=am_ H
  clear H
  go_enter Try.func106,Try.ntmps106
  go_wp2_with (first | ((with_reducible refine gate_callee (f:=95) rfl ?_);refine gL_ (some 9) Try.func95 #[.int .i64 a0,.int .i64 0,.int .i64 5] ?_;(with_reducible refine (spec_l1In.calls a0 0 5 true _ A2.out).mono ?_);rintro e w' ⟨rfl,⟨nd,rfl⟩⟩;refine ⟨_,rfl,?_⟩) | ((with_reducible refine gate_dst (N:=12) rfl ?_);refine Kd.R_lit Kd.string _ 9 ?hg (N:=12) ?hd (xs:=([(⟨#[]⟩:ByteArray)]:List ByteArray)) (inner:=[.string (⟨#[]⟩:ByteArray)]) (ok:=fun _=>True) (okp:=fun _=>True) ?hr ?hp (fun _ hk=>hk) trivial (Below.refl _ _) (Nat.le_refl _) (by simp) ?_;(case hd=>rfl);(case hg=>rfl);(case hr=>first | (go_simp;done) | (go_simp;rfl));(case hp=>exact (Reps.one (show Kd.M Kd.string _ _ _ (⟨#[]⟩:ByteArray) [.string (⟨#[]⟩:ByteArray)] from rfl) (Reps.none _ _)));intro aG w4 ho5 hb hg_ hnew_;clear hg_ hnew_;(first | rw [← am.out] at ho5 | (simp only [Int.reduceToNat] at ho5;rw [← am.out] at ho5));replace aw:=am_ (Kd.R_lower ho5 (below_size (b0_ HB.out)));replace HB:=am_ (below_step (b0_ HB.out) hb);clear hb ho5))
  go_loopg [3,4] k (fun kq v3 v4 w'=>∃ (ab:List ByteArray) (af:Int),v4 = .int .i64 af∧Aside0 (spec_WordsOfLength.l0 kq a0 ab af=some r)∧Aside0 (kq≤k)∧Aside0 (Kd.R Kd.string 9 w' w.heap.size (fun _=>True) v3 ab)∧Aside0 (Below w.heap.size w w'))
  case atStart=>exact ⟨(aq),(0),(by first | rfl | (simp;done) | (simp [*];done)),H',⟨Nat.le_refl _⟩,⟨by refine rr_ ?_;exact aw.out⟩,⟨by exact zp51_0_ HB.out⟩⟩
  case round =>
   clear H'
   try clear c1
   try clear p2
   try clear c3
   obtain ⟨ab,af,rfl,HA,HK1,ae,HB⟩:=hrel
   cases gk with
   | zero=>exact absurd HA.out (by simp [spec_WordsOfLength.l0])
   | succ k1 =>
    have H:=HA.out
    clear HA
    simp only [spec_WordsOfLength.l0] at H
    by_cases c6:af<a0
    ·rw [if_pos c6] at H
     have c6b0:decide (af<a0)=true:=decide_eq_true c6
     clear c6
     obtain ⟨ar,hy756⟩:∃ y_:List ByteArray,y_=(([]:List ByteArray)):=⟨_,rfl⟩
     replace H:(spec_WordsOfLength.l1 k1 a0 ab af ar 0)=some r:=by first | (rw [hy756];with_reducible exact H) | (have H2_:=(Option.bind_some _ _).symm.trans H;rw [hy756];with_reducible exact H2_) | (have H2_:=(Option.bind_some _ _).symm.trans H;with_reducible exact H2_) | with_reducible exact H | (rw [hy756];exact H) | exact H
     have an:=am_ hy756
     clear hy756
     have H':=am_ H
     clear H
     go_wp2_with (first | ((with_reducible refine gate_dst (N:=18) rfl ?_);refine Kd.R_lit Kd.string _ 9 ?hg (N:=18) ?hd (xs:=([]:List ByteArray)) (inner:=[]) (ok:=fun _=>True) (okp:=fun _=>True) ?hr ?hp (fun _ hk=>hk) trivial (Below.refl _ _) (Nat.le_refl _) (by simp) ?_;(case hd=>rfl);(case hg=>rfl);(case hr=>first | (go_simp;done) | (go_simp;rfl));(case hp=>exact (Reps.none _ _));intro aH w7 ho8 hb hg_ hnew_;clear hg_ hnew_;(first | rw [← an.out] at ho8 | (simp only [Int.reduceToNat] at ho8;rw [← an.out] at ho8));have n0_:=am_ (Kd.R_elder' (rr_ ae.out) (Kd.R_base ho8) hb);have n1_:=am_ (Kd.R_lower (Kd.R_new' ho8 (Kd.R_lt (rr_ ae.out))) (below_size (b0_ HB.out)));have n2_:=am_ (below_step (b0_ HB.out) hb);clear ae;clear HB;have ae:=n0_;have ax:=n1_;have HB:=n2_;clear n0_ n1_ n2_;clear hb ho8))
     go_loopg [5,6] k1 (fun kq v5 v6 w'=>∃ (aj:List ByteArray) (ad:Int),v6 = .int .i64 ad∧Aside0 (spec_WordsOfLength.l1 kq a0 ab af aj ad=some r)∧Aside0 (kq≤k1)∧Aside0 (Kd.R Kd.string 9 w' w.heap.size (fun k_=>some k_ ≠ (v5:Value).ownBlock) u3 ab)∧Aside0 (Kd.R Kd.string 9 w' w.heap.size (fun k_=>some k_ ≠ (u3:Value).ownBlock) v5 aj)∧Aside0 (Below w.heap.size w w'))
     case atStart=>exact ⟨(ar),(0),(by first | rfl | (simp;done) | (simp [*];done)),H',⟨Nat.le_refl _⟩,⟨by refine rr_ ?_;exact Kd.R_mono ae.out (fun _ hk=>hk.2)⟩,⟨by refine rr_ ?_;exact Kd.R_mono ax.out (fun _ hk=>hk.2)⟩,⟨by exact zp51_0_ HB.out⟩⟩
     case round =>
      clear H'
      try clear c1
      try clear p2
      try clear c3
      try clear c6
      try clear c6b0
      try clear p2
      obtain ⟨aj,ad,rfl,HA,HK2,ae,ag,HB⟩:=hrel
      cases gk with
      | zero=>exact absurd HA.out (by simp [spec_WordsOfLength.l1])
      | succ k2 =>
       have H:=HA.out
       clear HA
       simp only [spec_WordsOfLength.l1] at H
       by_cases c9:ad<(ab.length:Int)
       ·rw [if_pos c9] at H
        have c9b0:decide (ad<(ab.length:Int))=true:=decide_eq_true c9
        clear c9
        have H':=am_ H
        clear H
        obtain ⟨au,al,aC⟩:=Kd.R_slice ae.out
        subst aC
        go_wp2
        go_loopg [5,7] k2 (fun kq v5 v7 w'=>∃ (ah:List ByteArray) (aa:Int),v7 = .int .i64 aa∧Aside0 (spec_WordsOfLength.l2 kq a0 ab af ah ad aa=some r)∧Aside0 (kq≤k2)∧Aside0 (Kd.R Kd.string 9 w' w.heap.size (fun k_=>some k_ ≠ (v5:Value).ownBlock) (.slice au ab.length al) ab)∧Aside0 (Kd.R Kd.string 9 w' w.heap.size (fun k_=>some k_ ≠ ((.slice au ab.length al):Value).ownBlock) v5 ah)∧Aside0 (Below w.heap.size w w'))
        case atStart=>exact ⟨(aj),(0),(by first | rfl | (simp;done) | (simp [*];done)),H',⟨Nat.le_refl _⟩,⟨by refine rr_ ?_;exact ae.out⟩,⟨by refine rr_ ?_;exact ag.out⟩,⟨by exact zp51_0_ HB.out⟩⟩
        case round =>
         clear H'
         try clear c1
         try clear p2
         try clear c3
         try clear c6
         try clear c6b0
         try clear c9
         try clear c9b0
         try clear c10
         try clear p2
         obtain ⟨ah,aa,rfl,HA,HK3,ae,ag,HB⟩:=hrel
         cases gk with
         | zero=>exact absurd HA.out (by simp [spec_WordsOfLength.l2])
         | succ k3 =>
          have H:=HA.out
          clear HA
          simp only [spec_WordsOfLength.l2] at H
          by_cases c11:aa<3
          ·rw [if_pos c11] at H
           have c11b0:decide (aa<3)=true:=decide_eq_true c11
           clear c11
           by_cases c12:0≤ad
           ·rw [if_pos c12] at H
            have c12b0:decide (0≤ad)=true:=decide_eq_true c12
            clear c12
            by_cases c13:ad<(ab.length:Int)
            ·rw [if_pos c13] at H
             have c13b0:decide (ad<(ab.length:Int))=true:=decide_eq_true c13
             clear c13
             by_cases c14:0≤aa
             ·rw [if_pos c14] at H
              have c14b0:=eq_true c14
              have c14b1:decide (0≤aa)=true:=decide_eq_true c14
              clear c14
              by_cases c15:aa≤(wrap64 (aa+1))
              ·rw [if_pos c15] at H
               have c15b0:=eq_true c15
               have c15b1:decide (aa≤(wrap64 (aa+1)))=true:=decide_eq_true c15
               by_cases c16:(wrap64 (aa+1))≤3
               ·rw [if_pos c16] at H
                have c16b0:=eq_true c16
                have c16b1:decide ((wrap64 (aa+1))≤3)=true:=decide_eq_true c16
                by_cases c17:(rdOf ByteArray.empty ab ad).size+((⟨#[97,98,99]⟩:ByteArray).extract (aa:Int).toNat ((wrap64 (aa+1)):Int).toNat).size≤9223372036854775807
                ·rw [if_pos c17] at H
                 have c17b0:=eq_true c17
                 have c17b1:decide ((rdOf ByteArray.empty ab ad).size+((⟨#[97,98,99]⟩:ByteArray).extract (aa:Int).toNat ((wrap64 (aa+1)):Int).toNat).size≤9223372036854775807)=true:=decide_eq_true c17
                 try have c17b2:(9223372036854775807<(rdOf ByteArray.empty ab ad).size+((⟨#[97,98,99]⟩:ByteArray).extract (aa:Int).toNat ((wrap64 (aa+1)):Int).toNat).size)=False:=eq_false (Nat.not_lt.2 c17)
                 try have c17b3:(9223372036854775807<(rdOf ByteArray.empty ab ad).size+(((wrap64 (aa+1)):Int).toNat - (aa:Int).toNat))=False:=eq_false (by have h_:=c17;rw [ByteArray.size_extract,show (⟨#[97,98,99]⟩:ByteArray).size=3 from rfl] at h_;omega)
                 try have c17b5:(9223372036854775807<(rdOf ByteArray.empty ab ad).size+((⟨#[97,98,99]⟩:ByteArray).extract (aa:Int).toNat ((wrap64 (aa+1)):Int).toNat).size)=False:=eq_false (by have h_:=c17;simp only [ByteArray.size_append,ByteArray.size_extract,show (⟨#[97,98,99]⟩:ByteArray).size=3 from rfl] at h_;first | omega | (simp only [decide_eq_true_eq] at *;omega))
                 by_cases c18:ah.length<8796093022208
                 ·rw [if_pos c18] at H
                  have LMc18:=am_ c18
                  clear c18
                  obtain ⟨av,hy760⟩:∃ y_:List ByteArray,y_=(ah ++ [(rdOf ByteArray.empty ab ad) ++ ((⟨#[97,98,99]⟩:ByteArray).extract (aa:Int).toNat ((wrap64 (aa+1)):Int).toNat)]):=⟨_,rfl⟩
                  replace H:(spec_WordsOfLength.l2 k3 a0 ab af av ad (wrap64 (aa+1)))=some r:=by first | (rw [hy760];with_reducible exact H) | (have H2_:=(Option.bind_some _ _).symm.trans H;rw [hy760];with_reducible exact H2_) | (have H2_:=(Option.bind_some _ _).symm.trans H;with_reducible exact H2_) | with_reducible exact H | (rw [hy760];exact H) | exact H
                  have ay:=am_ hy760
                  clear hy760
                  have H':=am_ H
                  clear H
                  try go_wp2
                  replace ae:=am_ (Kd.R_drew ae.out)
                  replace ag:=am_ (Kd.R_drew ag.out)
                  replace HB:=am_ (below_drew1 HB.out)
                  have p759:0≤(ad:Int):=of_decide_eq_true ah_
                  have q759:ad<(ab.length:Int):=of_decide_eq_true ah_
                  obtain ⟨ao,e759,ak⟩:=Kd.at_string (Kd.R_reads' ae.out).2.2 ad p759 q759
                  cases e759
                  replace p759:=eq_true p759
                  replace q759:=eq_true q759
                  refine start_ (n:=13) (S:=fun w'=>w'.cell? (ao.add (ad).toNat)=some (.string (rdOf ByteArray.empty ab ad))) (ds:=[10,11]) (bl 13 0) (by kernel_rfl) rfl rfl (ak) (fun hHeld=>?_);refine with_tabW spec_WordsOfLength.tab14 spec_WordsOfLength.bits14 (fun HT_ HW_=>?_)
                  generalize wr.drew=w19 at ae ag HB ak hHeld ⊢
                  refine pu_ 0 29 (bl 13 1) HT_ ?_
                  refine pu_ 1 30 (bl 13 3) HT_ ?_
                  refine pu_ 2 31 (bl 13 7) HT_ ?_
                  refine pu_ 3 32 (bl 13 15) HT_ ?_
                  refine pu_ 5 34 (bl 13 47) HT_ ?_
                  refine pu_ 6 35 (bl 13 111) HT_ ?_
                  refine pu_ 7 36 (bl 13 239) HT_ ?_
                  refine pu_ 8 37 (bl 13 495) HT_ ?_
                  refine tk_ 4 33 (bl 13 511) HT_ HW_ hHeld ?_
                  refine pu_ 9 38 (bl 13 1023) HT_ ?_
                  refine last_ (i:=10) (N:=some 39) (bl 13 2047) rfl rfl (one_of HT_.out (by kernel_rfl)) (by decide) (fun K hK=>?_)
                  refine value_ (w1:=?_) (v:=?_) (by rfl) rfl ?_ ?_
                  rotate_left 2
                  ·go_simp
                   constructor
                   ·rfl
                   ·rfl
                  refine hK.out _ _ ?_
                  clear hK K
                  refine norm_ (a':=?_) ?_ ?_
                  rotate_left
                  ·show Act.put _ (some 39) _=_
                   simp only [pn_,sz_,ss_,i64_w,i32_w]
                   rfl
                  refine last_ (i:=11) (N:=some 40) (bl 13 4095) rfl rfl (one_of HT_.out (by kernel_rfl)) (by decide) (fun K hK=>?_)
                  refine Kd.R_append_step Kd.string (w0:=w) w.heap.size (by rfl) (.tmp 29) (.tmp 39) 52 9 (.string ⟨#[]⟩) 16 rfl Try.underlying52 info9 rfl (by decide) (by omega) u5 ah ((rdOf ByteArray.empty ab ad) ++ ((⟨#[97,98,99]⟩:ByteArray).extract (aa:Int).toNat ((wrap64 (aa+1)):Int).toNat)) [.string ((rdOf ByteArray.empty ab ad) ++ ((⟨#[97,98,99]⟩:ByteArray).extract (aa:Int).toNat ((wrap64 (aa+1)):Int).toNat))] (fun k_=>some k_ ≠ (.slice (some ao) ab.length al:Value).ownBlock) (fun _=>False) rfl rfl ?aP (fun _ hk=>hk.elim) ?aF ?aO ?aB ?aS ?aL ?_
                  (case aP=>exact rfl)
                  (case aB=>exact (b0_ HB.out))
                  (case aF=>exact (fun k_ hk=>Kd.fresh' (Kd.R_lt (rr_ ae.out)) k_ hk))
                  (case aO=>exact (rr_ ag.out))
                  (case aS=>exact (below_size (b0_ HB.out)))
                  (case aL=>have:=LMc18.out;omega)
                  intro aI w20 ho hb hg hat
                  rw [← ay.out] at ho
                  replace ae:=am_ (Kd.R_after (ok:=(fun _=>True)) (by refine rr_ ?_;exact Kd.R_mono ae.out (fun _ hk=>⟨trivial,hk⟩)) hg hat)
                  replace HB:=am_ (hb)
                  replace az:=am_ (ho)
                  clear ag ho hb hg hat
                  refine hK.out _ _ ?_
                  clear hK K
                  refine norm_ (a':=?_) ?_ ?_
                  rotate_left
                  ·show Act.put _ (some 40) _=_
                   simp only [pn_,sz_,ss_,i64_w,i32_w]
                   rfl
                  refine pu_ 12 5 (bl 13 8191) HT_ ?_
                  refine done_ (done_of HT_.out (by kernel_rfl)) ?_
                  try go_wp2
                  go_roundg k3
                  case measure=>have:=HK1.out;have:=HK2.out;have:=HK3.out;omega
                  case rel=>exact ⟨(av),(wrap64 (aa+1)),(by first | rfl | (simp;done) | (simp [*];done)),H',⟨by have:=HK1.out;have:=HK2.out;have:=HK3.out;omega⟩,⟨by refine rr_ ?_;exact Kd.R_mono ae.out (fun _ hk=>hk.2)⟩,⟨by refine rr_ ?_;exact az.out⟩,⟨by exact zp51_0_ HB.out⟩⟩
                 ·rw [if_neg c18] at H
                  exact absurd H (by simp)
                ·rw [if_neg c17] at H
                 exact absurd H (by simp)
               ·rw [if_neg c16] at H
                exact absurd H (by simp)
              ·rw [if_neg c15] at H
               exact absurd H (by simp)
             ·rw [if_neg c14] at H
              exact absurd H (by simp)
            ·rw [if_neg c13] at H
             exact absurd H (by simp)
           ·rw [if_neg c12] at H
            exact absurd H (by simp)
          ·rw [if_neg c11] at H
           have c11b0:decide (aa<3)=false:=decide_eq_false c11
           clear c11
           have H':=am_ H
           clear H
           go_wp2
           go_roundg k3
           case measure=>have:=HK1.out;have:=HK2.out;have:=HK3.out;omega
           case rel=>exact ⟨(ah),(wrap64 (ad+1)),(by first | rfl | (simp;done) | (simp [*];done)),H',⟨by have:=HK1.out;have:=HK2.out;have:=HK3.out;omega⟩,⟨by refine rr_ ?_;exact ae.out⟩,⟨by refine rr_ ?_;exact ag.out⟩,⟨by exact zp51_0_ HB.out⟩⟩
       ·rw [if_neg c9] at H
        have c9b0:decide (ad<(ab.length:Int))=false:=decide_eq_false c9
        clear c9
        have H':=am_ H
        clear H
        obtain ⟨aJ,aK,aD⟩:=Kd.R_slice ae.out
        subst aD
        go_wp2
        go_roundg k2
        case measure=>have:=HK1.out;have:=HK2.out;omega
        case rel=>exact ⟨(aj),(wrap64 (af+1)),(by first | rfl | (simp;done) | (simp [*];done)),H',⟨by have:=HK1.out;have:=HK2.out;omega⟩,⟨by refine rr_ ?_;exact Kd.R_mono ag.out (fun _ hk=>trivial)⟩,⟨by exact zp51_0_ HB.out⟩⟩
    ·rw [if_neg c6] at H
     have c6b0:decide (af<a0)=false:=decide_eq_false c6
     clear c6
     obtain rfl:=Option.some.inj H
     simp only [Option.some.injEq,Prod.mk.injEq] at H
     obtain ⟨rfl⟩:=H
     go_wp2
     go_ret
     exact ⟨_,by first | rfl | (simp [errW_none,errW_some] <;> rfl) | (simp [*,errW_none,errW_some] <;> rfl),by refine rr_ ?_;exact ae.out,by exact zp51_0_ HB.out⟩
 ·replace c3:=Bool.eq_false_iff.mpr c3
  subst c3
  have H1:(some (([]:List ByteArray)))=some r:=by rw [if_neg (show ¬ (false=true) by decide)] at H;exact H
  clear H
  have H:=H1
  clear H1
  obtain ⟨aE,hy750⟩:∃ y_:List ByteArray,y_=(([]:List ByteArray)):=⟨_,rfl⟩
  replace H:(some aE)=some r:=by first | (rw [hy750];with_reducible exact H) | (have H2_:=(Option.bind_some _ _).symm.trans H;rw [hy750];with_reducible exact H2_) | (have H2_:=(Option.bind_some _ _).symm.trans H;with_reducible exact H2_) | with_reducible exact H | (rw [hy750];exact H) | exact H
  have ap:=am_ hy750
  clear hy750
  obtain rfl:=Option.some.inj H
  simp only [Option.some.injEq,Prod.mk.injEq] at H
  obtain ⟨rfl⟩:=H
  go_enter Try.func106,Try.ntmps106
  go_wp2_with (first | ((with_reducible refine gate_callee (f:=95) rfl ?_);refine gL_ (some 9) Try.func95 #[.int .i64 a0,.int .i64 0,.int .i64 5] ?_;(with_reducible refine (spec_l1In.calls a0 0 5 false _ A2.out).mono ?_);rintro e w' ⟨rfl,⟨nd,rfl⟩⟩;refine ⟨_,rfl,?_⟩) | ((with_reducible refine gate_dst (N:=11) rfl ?_);refine Kd.R_lit Kd.string _ 9 ?hg (N:=11) ?hd (xs:=([]:List ByteArray)) (inner:=[]) (ok:=fun _=>True) (okp:=fun _=>True) ?hr ?hp (fun _ hk=>hk) trivial (Below.refl _ _) (Nat.le_refl _) (by simp) ?_;(case hd=>rfl);(case hg=>rfl);(case hr=>first | (go_simp;done) | (go_simp;rfl));(case hp=>exact (Reps.none _ _));intro aM w22 ho23 hb hg_ hnew_;clear hg_ hnew_;(first | rw [← ap.out] at ho23 | (simp only [Int.reduceToNat] at ho23;rw [← ap.out] at ho23));replace aA:=am_ (Kd.R_lower ho23 (below_size (b0_ HB.out)));replace HB:=am_ (below_step (b0_ HB.out) hb);clear hb ho23))
  go_ret
  exact ⟨_,by first | rfl | (simp [errW_none,errW_some] <;> rfl) | (simp [*,errW_none,errW_some] <;> rfl),by refine rr_ ?_;exact aA.out,by exact zp51_0_ HB.out⟩
end Go.Proofs.Ytogamkblkoobkaa.P
end
section
namespace Go.Proofs.Ytogamkblkoobkaa.P
open Go.RowKit Go.Proofs.YtogamkblkoobkaaW.PrintWords Go.Proofs.YtogamkblkoobkaaW.PrintLast Go.Proofs.YtogamkblkoobkaaW.PrintMore
attribute [local go_sem] max2_int min2_int max_two min_two max_three min_three max_four min_four
def spec_WordsUpTo.l0:Nat→Int→List ByteArray→Int→Option (List ByteArray)
 | 0,_,_,_=>none
 | k+1,x0,x3,x4=>if x4≤x0 then (if x4≤5 then ((spec_WordsOfLength.f k x4).bind fun ai=>(if x3.length+ai.length<8796093022208 then (spec_WordsUpTo.l0 k x0 (x3 ++ ai) (wrap64 (x4+1))) else (none))) else (some x3)) else (some x3)
def spec_WordsUpTo.f (k:Nat) (a0:Int):Option (List ByteArray):=spec_WordsUpTo.l0 k a0 (([]:List ByteArray)) 0
theorem spec_WordsUpTo.mono_l:∀ k,(∀ y0 y1 y2,LeO (spec_WordsUpTo.l0 k y0 y1 y2) (spec_WordsUpTo.l0 (k+1) y0 y1 y2))
 | 0=>fun _ _ _ r h=>by simp [spec_WordsUpTo.l0] at h
 | k+1=>by
  have ih0:=spec_WordsUpTo.mono_l k
  ·intro y0 y1 y2
   unfold spec_WordsUpTo.l0
   repeat' first
   | (with_reducible exact ih0 _ _ _)
   | (with_reducible exact spec_WordsOfLength.mono _ _)
   | (with_reducible exact LeO.refl _)
   | (with_reducible exact LeO.none _)
   | (with_reducible refine LeO.ite ?_ ?_)
   | (with_reducible refine LeO.bind ?_ (fun _=>?_))
   | exact ih0 _ _ _
   | exact spec_WordsOfLength.mono _ _
   | exact LeO.none _
   | refine LeO.ite ?_ ?_
   | refine LeO.bind ?_ (fun _=>?_)
theorem spec_WordsUpTo.mono:∀ a0 k,LeO (spec_WordsUpTo.f k a0) (spec_WordsUpTo.f (k+1) a0):=by
 intro a0 k
 have ih0:=spec_WordsUpTo.mono_l k
 unfold spec_WordsUpTo.f
 repeat' first
  | (with_reducible exact ih0 _ _ _)
  | (with_reducible exact spec_WordsOfLength.mono _ _)
  | (with_reducible exact LeO.refl _)
  | (with_reducible exact LeO.none _)
  | (with_reducible refine LeO.ite ?_ ?_)
  | (with_reducible refine LeO.bind ?_ (fun _=>?_))
  | exact ih0 _ _ _
  | exact spec_WordsOfLength.mono _ _
  | exact LeO.none _
  | refine LeO.ite ?_ ?_
  | refine LeO.bind ?_ (fun _=>?_)
theorem zp52_0_ {p q:Prop} (h:p) (c:p→q:=by intro h_;repeat (first | (with_reducible first | exact h_ | apply below_alloc | apply pw_below_drewN | apply below_drew1) | exact h_)):q:=c h
set_option maxHeartbeats 8000000 in
set_option maxRecDepth 100000 in
theorem spec_WordsUpTo.calls (k:Nat) (a0:Int) (r:List ByteArray) (w:World) (h:spec_WordsUpTo.f k a0=some r) :
  Calls Try.prog 40 #[.int .i64 a0] w fun e w'=>∃ v0_:Value,e = .returned (v0_)∧Kd.R Kd.string 9 w' w.heap.size (fun _=>True) v0_ r∧Below w.heap.size w w':=by
 have HB:=am_ (Below.refl w.heap.size w)
 have H:(spec_WordsUpTo.l0 k a0 (([]:List ByteArray)) 0)=some r:=h
 clear h
 obtain ⟨aJ,hy763⟩:∃ y_:List ByteArray,y_=(([]:List ByteArray)):=⟨_,rfl⟩
 replace H:(spec_WordsUpTo.l0 k a0 aJ 0)=some r:=by first | (rw [hy763];with_reducible exact H) | (have H2_:=(Option.bind_some _ _).symm.trans H;rw [hy763];with_reducible exact H2_) | (have H2_:=(Option.bind_some _ _).symm.trans H;with_reducible exact H2_) | with_reducible exact H | (rw [hy763];exact H) | exact H
 have aC:=am_ hy763
 clear hy763
 have H':=am_ H
 clear H
 go_enter Try.func40,Try.ntmps40
 go_wp2_with (first | ((with_reducible refine gate_dst (N:=5) rfl ?_);refine Kd.R_lit Kd.string _ 9 ?hg (N:=5) ?hd (xs:=([]:List ByteArray)) (inner:=[]) (ok:=fun _=>True) (okp:=fun _=>True) ?hr ?hp (fun _ hk=>hk) trivial (Below.refl _ _) (Nat.le_refl _) (by simp) ?_;(case hd=>rfl);(case hg=>rfl);(case hr=>first | (go_simp;done) | (go_simp;rfl));(case hp=>exact (Reps.none _ _));intro bc w2 ho3 hb hg_ hnew_;clear hg_ hnew_;(first | rw [← aC.out] at ho3 | (simp only [Int.reduceToNat] at ho3;rw [← aC.out] at ho3));replace aW:=am_ (Kd.R_lower ho3 (below_size (b0_ HB.out)));replace HB:=am_ (below_step (b0_ HB.out) hb);clear hb ho3))
 go_loopg [3,4] k (fun kq v3 v4 w'=>∃ (an:List ByteArray) (aa:Int),v4 = .int .i64 aa∧Aside0 (spec_WordsUpTo.l0 kq a0 an aa=some r)∧Aside0 (kq≤k)∧Aside0 (Kd.R Kd.string 9 w' w.heap.size (fun _=>True) v3 an)∧Aside0 (Below w.heap.size w w'))
 case atStart=>exact ⟨(aJ),(0),(by first | rfl | (simp;done) | (simp [*];done)),H',⟨Nat.le_refl _⟩,⟨by refine rr_ ?_;exact aW.out⟩,⟨by exact zp52_0_ HB.out⟩⟩
 case round =>
  clear H'
  try clear p2
  obtain ⟨an,aa,rfl,HA,HK1,aj,HB⟩:=hrel
  cases gk with
  | zero=>exact absurd HA.out (by simp [spec_WordsUpTo.l0])
  | succ k1 =>
   have H:=HA.out
   clear HA
   simp only [spec_WordsUpTo.l0] at H
   by_cases c4:aa≤a0
   ·rw [if_pos c4] at H
    have c4b0:decide (aa≤a0)=true:=decide_eq_true c4
    clear c4
    by_cases c5:aa≤5
    ·rw [if_pos c5] at H
     have c5b0:decide (aa≤5)=true:=decide_eq_true c5
     clear c5
     replace H:=Option.bind_eq_some_iff.mp H
     obtain ⟨ai,A60,H⟩:=H
     have A6:=am_ A60
     clear A60
     by_cases c7:an.length+ai.length<8796093022208
     ·rw [if_pos c7] at H
      have LMc7:=am_ c7
      clear c7
      obtain ⟨aK,hy769⟩:∃ y_:List ByteArray,y_=(an ++ ai):=⟨_,rfl⟩
      replace H:(spec_WordsUpTo.l0 k1 a0 aK (wrap64 (aa+1)))=some r:=by first | (rw [hy769];with_reducible exact H) | (have H2_:=(Option.bind_some _ _).symm.trans H;rw [hy769];with_reducible exact H2_) | (have H2_:=(Option.bind_some _ _).symm.trans H;with_reducible exact H2_) | with_reducible exact H | (rw [hy769];exact H) | exact H
      have aX:=am_ hy769
      clear hy769
      have H':=am_ H
      clear H
      go_wp2_with (first | ((with_reducible refine gate_callee (f:=106) rfl ?_);refine gL_ (some 17) Try.func106 #[.int .i64 aa] ?_;(with_reducible refine (spec_WordsOfLength.calls k1 aa ai _ A6.out).mono ?_);rintro e w8 ⟨bd,rfl,ho0,hb⟩;refine ⟨_,rfl,?_⟩;have n0_:=am_ (Kd.R_elder' (rr_ aj.out) (Kd.R_base ho0) hb);have n1_:=am_ (Kd.R_lower (Kd.R_new' ho0 (Kd.R_lt (rr_ aj.out))) (below_size (b0_ HB.out)));have n2_:=am_ (below_step (b0_ HB.out) hb);clear aj;clear HB;have aj:=n0_;have am:=n1_;have HB:=n2_;clear n0_ n1_ n2_;(try clear hb);(try clear hb2);(try clear hk);(try clear hi);(try clear ho0);obtain ⟨aw,ax,ay⟩:=Kd.R_slice am.out;subst ay) | ((with_reducible refine gate_builtin (b:=.append) (xs:=#[.tmp 15,.tmp 17]) rfl ?_);at_builtin;refine Kd.R_append_rows Kd.string (w0:=w) w.heap.size rfl (.tmp 15) (.tmp 17) 52 9 (.string ⟨#[]⟩) 16 rfl Try.underlying52 info9 rfl (by decide) (by omega) u3 an ai _ _ _ (fun k_=>some k_ ≠ (.slice aw ai.length ax:Value).ownBlock) (fun _=>False) rfl rfl ?aO ?aR (fun _ _ h=>h) (fun _ h=>h.elim) ?aF ?aB ?aS ?aL ?_;(case aR=>exact rc_ ((Kd.R_reads' am.out).2.2));(case aB=>exact (b0_ HB.out));(case aF=>exact (fun k_ hk=>Kd.fresh' (Kd.R_lt (rr_ am.out)) k_ hk));(case aO=>exact (rr_ (Kd.R_mono aj.out (fun _ hk=>hk.2))));(case aS=>exact (below_size (b0_ HB.out)));(case aL=>have:=LMc7.out;omega);intro be w9 ho hb hg hat;rw [← aX.out] at ho;have n0_:=am_ (Kd.R_after (ok:=(fun _=>True)) (rr_ am.out) hg hat);have n1_:=am_ (hb);have n2_:=am_ (ho);clear am;clear HB;clear aj;have am:=n0_;have HB:=n1_;have aY:=n2_;clear n0_ n1_ n2_;clear ho hb hg hat))
      go_roundg k1
      case measure=>have:=HK1.out;omega
      case rel=>exact ⟨(aK),(wrap64 (aa+1)),(by first | rfl | (simp;done) | (simp [*];done)),H',⟨by have:=HK1.out;omega⟩,⟨by refine rr_ ?_;exact Kd.R_mono aY.out (fun _ hk=>trivial)⟩,⟨by exact zp52_0_ HB.out⟩⟩
     ·rw [if_neg c7] at H
      exact absurd H (by simp)
    ·rw [if_neg c5] at H
     have c5b0:decide (aa≤5)=false:=decide_eq_false c5
     clear c5
     obtain rfl:=Option.some.inj H
     simp only [Option.some.injEq,Prod.mk.injEq] at H
     obtain ⟨rfl⟩:=H
     go_wp2
     go_ret
     exact ⟨_,by first | rfl | (simp [errW_none,errW_some] <;> rfl) | (simp [*,errW_none,errW_some] <;> rfl),by refine rr_ ?_;exact aj.out,by exact zp52_0_ HB.out⟩
   ·rw [if_neg c4] at H
    have c4b0:decide (aa≤a0)=false:=decide_eq_false c4
    clear c4
    obtain rfl:=Option.some.inj H
    simp only [Option.some.injEq,Prod.mk.injEq] at H
    obtain ⟨rfl⟩:=H
    go_wp2
    go_ret
    exact ⟨_,by first | rfl | (simp [errW_none,errW_some] <;> rfl) | (simp [*,errW_none,errW_some] <;> rfl),by refine rr_ ?_;exact aj.out,by exact zp52_0_ HB.out⟩
end Go.Proofs.Ytogamkblkoobkaa.P
end
section
namespace Go.Proofs.Ytogamkblkoobkaa.Pl
open Go.RowKit Go.Proofs.Ytogamkblkoobkaa.P Go.Proofs.YtogamkblkoobkaaW.PrintWords Go.Proofs.YtogamkblkoobkaaW.PrintLast Go.Proofs.YtogamkblkoobkaaW.PrintMore
theorem new_l0 (b:List Int) (hb:b.length≤140737488351232):∀ (d i:Nat) (h:Int),i+d=b.length→∃ r,Ev (fun k=>spec_l1New.l0 k b h i) (b,0,r):=by
 intro d
 induction d with
 | zero =>
  intro i h e
  refine ⟨h,next ?_⟩
  simp only [spec_l1New.l0,if_neg (show ¬ (i:Int)<(b.length:Int) by omega)]
  exact Ev.now _
 | succ d ih =>
  intro i h e
  by_cases hi:(i:Int)<4000
  ·obtain ⟨r,hr⟩:=ih (i+1) (Go.bits .and .i64 (wrap64 ((wrap64 ((wrap64 (h * 131))+(wrap64 (rd b i))))+7)) 1073741823) (by omega)
   refine ⟨r,next ?_⟩
   simp only [spec_l1New.l0,if_pos (show (i:Int)<(b.length:Int) by omega),if_pos hi,if_pos (show (0:Int)≤i by omega),up1 (show i<9223372036854775807 by omega)]
   exact hr
  ·refine ⟨h,next ?_⟩
   simp only [spec_l1New.l0,if_pos (show (i:Int)<(b.length:Int) by omega),if_neg hi]
   exact Ev.now _
theorem new (b:List Int) (hb:b.length≤140737488351232):∃ r,Ev (fun k=>spec_l1New.f k b) (b,0,r):=by
 simp only [spec_l1New.f]
 exact new_l0 b hb b.length 0 _ (by omega)
theorem and255 (x:Int):0≤Go.bits .and .i64 x 255∧Go.bits .and .i64 x 255≤255:=by
 have h:(BitVec.ofInt 64 x &&& BitVec.ofInt 64 255).toNat≤255:=by
  rw [BitVec.toNat_and]
  exact Nat.and_le_right
 have e:Go.bits .and .i64 x 255=((BitVec.ofInt 64 x &&& BitVec.ofInt 64 255).toNat:Int):=by
  show IntKind.i64.wrap ((BitVec.ofInt 64 x &&& BitVec.ofInt 64 255).toNat:Int)=_
  rw [IntKind.wrap_i64]
  omega
 omega
def Cur (b:List Int) (i:Int):Prop:=0≤i∧i≤b.length
theorem byte (b:List Int) (hb:b.length≤140737488351232) (i h:Int) (hi:Cur b i):∃ x i' h',spec_l1Byte.f b i h=some (x,i',h')∧0≤x∧x≤255∧Cur b i':=by
 unfold Cur at hi ⊢
 by_cases hl:i<(b.length:Int)
 ·unfold spec_l1Byte.f
  rw [if_pos hl,if_pos hi.1,w64 (show -9223372036854775808≤i+1 by omega) (by omega)]
  exact ⟨_,_,_,rfl,(and255 _).1,(and255 _).2,by omega,by omega⟩
 ·unfold spec_l1Byte.f
  rw [if_neg hl]
  exact ⟨_,_,_,rfl,(and255 _).1,(and255 _).2,by omega,by omega⟩
theorem below (b:List Int) (hb:b.length≤140737488351232) (i h:Int) (hi:Cur b i) (n:Int) (hn:0<n) (hn2:n≤256):∃ x i' h',spec_l1Below.f b i h n=some (x,i',h')∧0≤x∧x<n∧Cur b i':=by
 obtain ⟨x,i',h',e,hx,hx2,hc⟩:=byte b hb i h hi
 refine ⟨x % n,i',h',?_,by exact Int.emod_nonneg _ (by omega),Int.emod_lt_of_pos _ hn,hc⟩
 simp only [spec_l1Below.f,if_neg (show ¬ n≤0 by omega),if_pos hn2,e,Option.bind_some,if_neg (show ¬ n=0 by omega),Int.tmod_eq_emod_of_nonneg hx]
theorem pickInt (b:List Int) (hb:b.length≤140737488351232) (i h:Int) (hi:Cur b i) (l:List Int) (hn:0<l.length) (hn2:l.length≤256):∃ x i' h',spec_l1PickInt.f b i h l=some (x,i',h')∧x ∈ l∧Cur b i':=by
 obtain ⟨x,i',h',e,hx,hx2,hc⟩:=below b hb i h hi l.length (by omega) (by omega)
 obtain ⟨m,rfl⟩:∃ m:Nat,x=m:=⟨x.toNat,by omega⟩
 refine ⟨l[m]'(by omega),i',h',?_,List.getElem_mem _,hc⟩
 simp only [spec_l1PickInt.f,e,Option.bind_some,if_pos hx,if_pos hx2,rd_get l m (by omega)]
theorem cur0 (b:List Int):Cur b 0:=⟨by omega,by omega⟩
end Go.Proofs.Ytogamkblkoobkaa.Pl
end
section
namespace Go.Proofs.Ytogamkblkoobkaa.P
open Go.RowKit Go.Proofs.YtogamkblkoobkaaW.PrintWords Go.Proofs.YtogamkblkoobkaaW.PrintLast Go.Proofs.YtogamkblkoobkaaW.PrintMore
attribute [local go_sem] max2_int min2_int max_two min_two max_three min_three max_four min_four
mutual
def spec_l5Draw.l0:Nat→Int→Int→List Int→Int→Int→List Bool→List (List Int)→Option (List Bool × (List (List Int)) × Int × Int)
 | 0,_,_,_,_,_,_,_=>none
 | k+1,x5,x7,aM,aQ,aR,aC,aD=>if x7<x5 then ((spec_l1Once.f aM aQ aR 2).bind fun bt450=>(if aC.length<140737488355328 then (spec_l5Draw.l1 k x5 x7 (([]:List Int)) 0 aM bt450.2.1 bt450.2.2 (aC ++ [bt450.1]) aD) else (none))) else (some (aC,aD,aQ,aR))
def spec_l5Draw.l1:Nat→Int→Int→List Int→Int→List Int→Int→Int→List Bool→List (List Int)→Option (List Bool × (List (List Int)) × Int × Int)
 | 0,_,_,_,_,_,_,_,_,_=>none
 | k+1,x5,x7,x8,x9,aM,aQ,aR,aC,aD=>if x9<3 then ((spec_l1Below.f aM aQ aR x5).bind fun bt459=>(if x8.length<17592186044416 then (spec_l5Draw.l1 k x5 x7 (x8 ++ [bt459.1]) (wrap64 (x9+1)) aM bt459.2.1 bt459.2.2 aC aD) else (none))) else (if aD.length<5864062014805 then (spec_l5Draw.l0 k x5 (wrap64 (x7+1)) aM aQ aR aC (aD ++ [x8])) else (none))
end
def spec_l5Draw.f (k:Nat) (s0_0:List Int) (s0_1:Int) (s0_2:Int) (a1:Int):Option (List Bool × (List (List Int)) × Int × Int):=(spec_l1Below.f s0_0 s0_1 s0_2 a1).bind fun bt446=>(spec_l5Draw.l0 k (wrap64 (1+bt446.1)) 0 s0_0 bt446.2.1 bt446.2.2 ([]:List Bool) ([]:List (List Int)))
theorem spec_l5Draw.mono_l:∀ k,(∀ y0 y1 y2 y3 y4 y5 y6,LeO (spec_l5Draw.l0 k y0 y1 y2 y3 y4 y5 y6) (spec_l5Draw.l0 (k+1) y0 y1 y2 y3 y4 y5 y6))∧(∀ y0 y1 y2 y3 y4 y5 y6 y7 y8,LeO (spec_l5Draw.l1 k y0 y1 y2 y3 y4 y5 y6 y7 y8) (spec_l5Draw.l1 (k+1) y0 y1 y2 y3 y4 y5 y6 y7 y8))
 | 0=>⟨fun _ _ _ _ _ _ _ r h=>by simp [spec_l5Draw.l0] at h,fun _ _ _ _ _ _ _ _ _ r h=>by simp [spec_l5Draw.l1] at h⟩
 | k+1=>by
  obtain ⟨ih0,ih1⟩:=spec_l5Draw.mono_l k
  refine ⟨?_,?_⟩
  ·intro y0 y1 y2 y3 y4 y5 y6
   unfold spec_l5Draw.l0
   repeat' first
   | (with_reducible exact ih0 _ _ _ _ _ _ _)
   | (with_reducible exact ih1 _ _ _ _ _ _ _ _ _)
   | (with_reducible exact LeO.refl _)
   | (with_reducible exact LeO.none _)
   | (with_reducible refine LeO.ite ?_ ?_)
   | (with_reducible refine LeO.bind ?_ (fun _=>?_))
   | exact ih0 _ _ _ _ _ _ _
   | exact ih1 _ _ _ _ _ _ _ _ _
   | exact LeO.none _
   | refine LeO.ite ?_ ?_
   | refine LeO.bind ?_ (fun _=>?_)
  ·intro y0 y1 y2 y3 y4 y5 y6 y7 y8
   unfold spec_l5Draw.l1
   repeat' first
   | (with_reducible exact ih0 _ _ _ _ _ _ _)
   | (with_reducible exact ih1 _ _ _ _ _ _ _ _ _)
   | (with_reducible exact LeO.refl _)
   | (with_reducible exact LeO.none _)
   | (with_reducible refine LeO.ite ?_ ?_)
   | (with_reducible refine LeO.bind ?_ (fun _=>?_))
   | exact ih0 _ _ _ _ _ _ _
   | exact ih1 _ _ _ _ _ _ _ _ _
   | exact LeO.none _
   | refine LeO.ite ?_ ?_
   | refine LeO.bind ?_ (fun _=>?_)
theorem spec_l5Draw.mono:∀ a0 a1 a2 a3 k,LeO (spec_l5Draw.f k a0 a1 a2 a3) (spec_l5Draw.f (k+1) a0 a1 a2 a3):=by
 intro a0 a1 a2 a3 k
 obtain ⟨ih0,ih1⟩:=spec_l5Draw.mono_l k
 unfold spec_l5Draw.f
 repeat' first
  | (with_reducible exact ih0 _ _ _ _ _ _ _)
  | (with_reducible exact ih1 _ _ _ _ _ _ _ _ _)
  | (with_reducible exact LeO.refl _)
  | (with_reducible exact LeO.none _)
  | (with_reducible refine LeO.ite ?_ ?_)
  | (with_reducible refine LeO.bind ?_ (fun _=>?_))
  | exact ih0 _ _ _ _ _ _ _
  | exact ih1 _ _ _ _ _ _ _ _ _
  | exact LeO.none _
  | refine LeO.ite ?_ ?_
  | refine LeO.bind ?_ (fun _=>?_)
def spec_l5Draw.T6:Bool × List (List Nat × List Nat):=(true,[([],[]),([0],[0]),([],[]),([2],[2]),([3],[3]),([1,4,3],[1,4]),([0,1,2,3,4,5],[]),([6,5,5,0,1,2,3,4,5],[5,6])])
def spec_l5Draw.B6:List Nat:=[0,1,0,4,12,31,63,127]
theorem spec_l5Draw.tab6:rtab .any (opsOf Try.f86 6)=spec_l5Draw.T6:=by kernel_rfl
theorem spec_l5Draw.bits6:waitsOk spec_l5Draw.T6.2 spec_l5Draw.B6=true:=by kernel_rfl
theorem zp36_0_ {p q g1:Prop} (h:p) (h1:g1) (c:p→g1→q:=by intro h_ h1_;repeat (first | (with_reducible first | exact h_ | apply IsS125.alloc | apply IsS125.drewN | apply IsS125.drew | apply IsS125.set_1 | apply IsS125.set_2 | refine IsS125.far ?_ h1_ _) | exact h_)):q:=c h h1
theorem zp36_1_ {p q g1 g2:Prop} (h:p) (h1:g1) (h2:g2) (c:p→g1→g2→q:=by intro h_ h1_ h2_;repeat (first | (with_reducible first | exact h_ | apply IsS125.alloc | apply IsS125.drewN | apply IsS125.drew | apply IsS125.set_1 | apply IsS125.set_2 | refine IsS125.far ?_ h1_ _ | refine IsS125.far ?_ h2_ _) | exact h_)):q:=c h h1 h2
theorem zp36_2_ {p q g1 g2:Prop} (h:p) (h1:g1) (h2:g2) (c:p→g1→g2→q:=by intro h_ h1_ h2_;repeat (first | (with_reducible first | exact h_ | apply KeepBut.set_ | apply keep_drewN | apply keep_drew | apply keep_alloc | refine keep_far ?_ h1_ _ | refine keep_far ?_ h2_ _) | exact h_)):q:=c h h1 h2
theorem zp36_3_ {p q g1 g2 g3:Prop} (h:p) (h1:g1) (h2:g2) (h3:g3) (c:p→g1→g2→g3→q:=by intro h_ h1_ h2_ h3_;repeat (first | (with_reducible first | exact h_ | apply below_alloc | apply pw_below_drewN | apply below_drew1 | refine below_set ?_ h1_ | refine below_set ?_ h2_ | refine below_set ?_ h3_) | exact h_)):q:=c h h1 h2 h3
set_option maxHeartbeats 8000000 in
set_option maxRecDepth 100000 in
theorem spec_l5Draw.calls (k:Nat) (g:Nat) (s0_0:List Int) (s0_1:Int) (s0_2:Int) (a1:Int) (r1:List Bool) (r2:List (List Int)) (r3:Int) (r4:Int) (w0 w:World) (hI:IsS125 w0 w g s0_0 s0_1 s0_2) (hB:Below w0.heap.size w0 w) (h:spec_l5Draw.f k s0_0 s0_1 s0_2 a1=some (r1,r2,r3,r4)) :
  Calls Try.prog 86 #[.pointer (some ⟨g,0,none⟩),.int .i64 a1] w fun e w'=>∃ v0_ v1_:Value,e = .returned (.agg #[v0_,v1_])∧Kd.R Kd.bool 4 w' w.heap.size (fun _=>True) v0_ r1∧Kd.S (Kd.slice 3 (Kd.int .i64)) 67 w' w.heap.size (fun _=>True) v1_ r2∧IsS125 w0 w' g s0_0 r3 r4∧Below w0.heap.size w0 w'∧KeepBut w w' g none:=by
 have hu27:=Try.underlying27
 have HI0:=am_ hI
 have HK:=am_ (KeepBut.refl w g none)
 have HL:=am_ hB.size
 clear hI
 have HW0:=am_ hB.size
 have HB:=am_ hB
 clear hB
 have H:((spec_l1Below.f s0_0 s0_1 s0_2 a1).bind fun bt446=>(spec_l5Draw.l0 k (wrap64 (1+bt446.1)) 0 s0_0 bt446.2.1 bt446.2.2 ([]:List Bool) ([]:List (List Int))))=some (r1,r2,r3,r4):=h
 clear h
 replace H:=Option.bind_eq_some_iff.mp H
 obtain ⟨⟨aA,aX,aY⟩,A30,H⟩:=H
 have A3:=am_ A30
 clear A30
 have H':=am_ H
 clear H
 go_enter Try.func86,Try.ntmps86
 go_wp2_with (first | ((with_reducible refine gate_dst (N:=4) rfl ?_);refine box_event ?hg (N:=4) ?hd (cs:=#[.slice none 0 0,.slice none 0 0]) (t:=27) ?hr ?_;(case hd=>rfl);(case hg=>rfl);(case hr=>first | (go_simp;done) | (go_simp;rfl));intro ak hg w4 hbox hb;have n0_:=am_ (IsS125.below (by repeat (first | (with_reducible first | exact HI0.out | apply IsS125.alloc | apply IsS125.drewN | apply IsS125.drew | apply IsS125.set_1 | apply IsS125.set_2) | exact HI0.out)) hb);have n1_:=am_ (KeepBut.trans (k0_ HK.out) (KeepBut.of_below hb g none) (.inl rfl));have n2_:=am_ (below_step (b1_ HB.out (IsS125.ge HI0.out)) hb);have n3_:=am_ (hbox);have n4_:=am_ ((by rw [hg];exact (keep_size (w:=w) (g:=g) (row:=none) (k0_ HK.out)):w.heap.size≤ak));have n5_:=am_ ((Nat.le_trans HW0.out (by rw [hg];exact (keep_size (w:=w) (g:=g) (row:=none) (k0_ HK.out)):w.heap.size≤ak):w0.heap.size≤ak));have n6_:=am_ ((by rw [hg];exact Nat.ne_of_lt (IsS125.lt (show IsS125 w0 _ g s0_0 s0_1 s0_2 from by repeat (first | (with_reducible first | exact HI0.out | apply IsS125.alloc | apply IsS125.drewN | apply IsS125.drew | apply IsS125.set_1 | apply IsS125.set_2) | exact HI0.out))):g ≠ ak));have n7_:=am_ ((by rw [hg];exact Nat.ne_of_gt (IsS125.lt (show IsS125 w0 _ g s0_0 s0_1 s0_2 from by repeat (first | (with_reducible first | exact HI0.out | apply IsS125.alloc | apply IsS125.drewN | apply IsS125.drew | apply IsS125.set_1 | apply IsS125.set_2) | exact HI0.out))):ak ≠ g));clear HI0;clear HK;clear HB;have HI0:=n0_;have HK:=n1_;have HB:=n2_;have ae:=n3_;have al:=n4_;have ar:=n5_;have af:=n6_;have aN:=n7_;clear n0_ n1_ n2_ n3_ n4_ n5_ n6_ n7_;clear hb hbox hg) | ((with_reducible refine gate_callee (f:=107) rfl ?_);refine gL_ (some 12) Try.func107 #[.pointer (some ⟨g,0,none⟩),.int .i64 a1] ?_;(with_reducible refine (spec_l1Below.calls g s0_0 s0_1 s0_2 a1 aA aX aY w0 _ ?side1 ?side2 A3.out).mono ?_);(case side1=>exact zp36_0_ HI0.out af.out);(case side2=>repeat (first | (with_reducible first | exact HB.out | apply below_alloc | apply pw_below_drewN | apply below_drew1 | refine below_set ?_ (IsS125.ge HI0.out) | refine below_set ?_ ar.out) | exact HB.out));rintro e w5 ⟨rfl,hi,hb,hk⟩;refine ⟨_,rfl,?_⟩;have n0_:=am_ (KeepBut.blk hk (g':=ak) (o:=.cells #[.slice none 0 0,.slice none 0 0] 27 (0,0)) (rb_ ae.out) aN.out (by simp));have n1_:=am_ (KeepBut.trans (k1_ HK.out al.out) hk (.inl rfl));have n2_:=am_ (hb);have n3_:=am_ (hi);clear ae;clear HK;clear HB;clear HI0;have ae:=n0_;have HK:=n1_;have HB:=n2_;have HI0:=n3_;clear n0_ n1_ n2_ n3_;(try clear hb);(try clear hb2);(try clear hk);(try clear hi)) | ((with_reducible refine gate_dst (N:=6) rfl ?_);refine box_event ?hg (N:=6) ?hd (cs:=#[.slice none 0 0,.slice none 0 0]) (t:=27) ?hr ?_;(case hd=>rfl);(case hg=>rfl);(case hr=>first | (go_simp;done) | (go_simp;rfl));intro aj hg w6 hbox hb;have n0_:=am_ (IsS125.below (zp36_0_ HI0.out af.out) hb);have n1_:=am_ (blk_below (rb_ ae.out) hb);have n2_:=am_ (KeepBut.trans (k1_ HK.out al.out) (KeepBut.of_below hb g none) (.inl rfl));have n3_:=am_ (below_step (b2_ HB.out (IsS125.ge HI0.out) ar.out) hb);have n4_:=am_ (hbox);have n5_:=am_ ((by rw [hg];exact (keep_size (w:=w) (g:=g) (row:=none) (k1_ HK.out al.out)):w.heap.size≤aj));have n6_:=am_ ((Nat.le_trans HW0.out (by rw [hg];exact (keep_size (w:=w) (g:=g) (row:=none) (k1_ HK.out al.out)):w.heap.size≤aj):w0.heap.size≤aj));have n7_:=am_ ((by rw [hg];exact Nat.ne_of_lt (blk_lt (rb_ ae.out)):ak ≠ aj));have n8_:=am_ ((by rw [hg];exact Nat.ne_of_gt (blk_lt (rb_ ae.out)):aj ≠ ak));have n9_:=am_ ((by rw [hg];exact Nat.ne_of_lt (IsS125.lt (show IsS125 w0 _ g s0_0 aX aY from by exact zp36_0_ HI0.out af.out)):g ≠ aj));have n10_:=am_ ((by rw [hg];exact Nat.ne_of_gt (IsS125.lt (show IsS125 w0 _ g s0_0 aX aY from by exact zp36_0_ HI0.out af.out)):aj ≠ g));clear HI0;clear ae;clear HK;clear HB;have HI0:=n0_;have ae:=n1_;have HK:=n2_;have HB:=n3_;have aa:=n4_;have ap:=n5_;have aw:=n6_;have ao:=n7_;have aH:=n8_;have ah:=n9_;have aJ:=n10_;clear n0_ n1_ n2_ n3_ n4_ n5_ n6_ n7_ n8_ n9_ n10_;clear hb hbox hg;have ch:=aH.out;have ci:=ao.out;have cj:=aJ.out;have ck:=ah.out;have bd:=ck_ (v:=(.slice none 0 0)) aa 0 rfl;have be:=ck_ (v:=(.slice none 0 0)) aa 1 rfl;have bf:=blk_frozen aa.out 0;have bg:=blk_frozen aa.out 1))
 go_loopg [7] k (fun kq v7 w'=>∃ (aB:Int) (aE:Int) (aG:Int) (am:List Bool) (ai:List (List Int)) (aq:Value) (ag:Value),v7 = .int .i64 aB∧Aside0 (spec_l5Draw.l0 kq (wrap64 (1+aA)) aB s0_0 aE aG am ai=some (r1,r2,r3,r4))∧Aside0 (kq≤k)∧Aside0 (Kd.R Kd.bool 4 w' w.heap.size (fun _=>True) aq am)∧Aside0 (Kd.S (Kd.slice 3 (Kd.int .i64)) 67 w' w.heap.size (fun _=>True) ag ai)∧Aside0 (w'.heap[ak]? = some (.cells #[(.slice none 0 0),(.slice none 0 0)] 27 (0,0)))∧Aside0 (w'.heap[aj]? = some (.cells #[aq,ag] 27 (0,0)))∧Aside0 (IsS125 w0 w' g s0_0 aE aG)∧Aside0 (KeepBut w w' g none)∧Aside0 (Below w0.heap.size w0 w'))
 case atStart=>exact ⟨(0),(aX),(aY),(([]:List Bool)),(([]:List (List Int))),(.slice none 0 0),(.slice none 0 0),(by first | rfl | (simp;done) | (simp [*];done)),H',⟨Nat.le_refl _⟩,⟨by first | exact Kd.R_nil _ _ _ _ _ | exact Kd.N_nil _ _ _ _ _ | exact Kd.V_nil _ _ _ _ _ | exact Kd.Q_nil _ _ _ _ _ | exact Kd.S_nil _ _ _ _ _⟩,⟨by first | exact Kd.S_nil _ _ _ _ _ | exact Kd.N_nil _ _ _ _ _ | exact Kd.V_nil _ _ _ _ _ | exact Kd.Q_nil _ _ _ _ _ | exact Kd.R_nil _ _ _ _ _⟩,⟨by refine rb_ ?_;refine blk_far ?_ ao.out _;refine rb_ ?_;refine blk_far ?_ ao.out _;refine rb_ ?_;exact ae.out⟩,⟨by refine rb_ ?_;refine blk_put (cs:=#[.slice none 0 0,.slice none 0 0]) ?_ 1 _ rfl;refine rb_ ?_;refine blk_put (cs:=#[.slice none 0 0,.slice none 0 0]) ?_ 0 _ rfl;refine rb_ ?_;exact aa.out⟩,⟨by exact zp36_1_ HI0.out af.out ah.out⟩,⟨by exact zp36_2_ HK.out al.out ap.out⟩,⟨by exact zp36_3_ HB.out (IsS125.ge HI0.out) ar.out aw.out⟩⟩
 case round =>
  clear H'
  try clear c1
  try clear p2
  try clear p6
  try clear c7
  try clear c8
  try clear bd
  try clear be
  try clear bf
  try clear bg
  obtain ⟨aB,aE,aG,am,ai,aq,ag,rfl,HA,HK1,ad,ab,ae,aa,HI0,HK,HB⟩:=hrel
  cases gk with
  | zero=>exact absurd HA.out (by simp [spec_l5Draw.l0])
  | succ k1 =>
   have H:=HA.out
   clear HA
   simp only [spec_l5Draw.l0] at H
   by_cases c10:aB<(wrap64 (1+aA))
   ·rw [if_pos c10] at H
    have c10b0:decide (aB<(wrap64 (1+aA)))=true:=decide_eq_true c10
    clear c10
    replace H:=Option.bind_eq_some_iff.mp H
    obtain ⟨⟨aZ,aU,aV⟩,bq,H⟩:=H
    have A11:=am_ bq
    clear bq
    by_cases c12:am.length<140737488355328
    ·rw [if_pos c12] at H
     have LMc12:=am_ c12
     clear c12
     obtain ⟨an,hy453⟩:∃ y_:List Bool,y_=(am ++ [aZ]):=⟨_,rfl⟩
     replace H:(spec_l5Draw.l1 k1 (wrap64 (1+aA)) aB (([]:List Int)) 0 s0_0 aU aV an ai)=some (r1,r2,r3,r4):=by first | (rw [hy453];with_reducible exact H) | (have H2_:=(Option.bind_some _ _).symm.trans H;rw [hy453];with_reducible exact H2_) | (have H2_:=(Option.bind_some _ _).symm.trans H;with_reducible exact H2_) | with_reducible exact H | (rw [hy453];exact H) | exact H
     have bx:=am_ hy453
     clear hy453
     obtain ⟨br,hy456⟩:∃ y_:List Int,y_=(([]:List Int)):=⟨_,rfl⟩
     replace H:(spec_l5Draw.l1 k1 (wrap64 (1+aA)) aB br 0 s0_0 aU aV an ai)=some (r1,r2,r3,r4):=by first | (rw [hy456];with_reducible exact H) | (have H2_:=(Option.bind_some _ _).symm.trans H;rw [hy456];with_reducible exact H2_) | (have H2_:=(Option.bind_some _ _).symm.trans H;with_reducible exact H2_) | with_reducible exact H | (rw [hy456];exact H) | exact H
     have bo:=am_ hy456
     clear hy456
     have H':=am_ H
     clear H
     try go_wp2
     replace ad:=am_ (Kd.R_drew ad.out)
     replace ab:=am_ (Kd.S_drew ab.out)
     replace ae:=am_ (blk_drew ae.out)
     replace aa:=am_ (blk_drew aa.out)
     replace HI0:=am_ (IsS125.drew HI0.out)
     replace HK:=am_ (keep_drew HK.out)
     replace HB:=am_ (below_drew1 HB.out)
     refine start_ (n:=8) (S:=fun w'=>w'.cell? ⟨aj,0,none⟩=some (aq)∧w'.cell? ⟨aj,1,none⟩=some (ag)) (ds:=[7]) (bl 8 0) (by kernel_rfl) rfl rfl ⟨(blk_cell aa.out 0).trans rfl,(blk_cell aa.out 1).trans rfl⟩ (fun hHeld=>?_);refine with_tabW spec_l5Draw.tab6 spec_l5Draw.bits6 (fun HT_ HW_=>?_)
     generalize wr.drew=w13 at ad ab ae aa HI0 HK HB hHeld ⊢
     refine pu_ 0 20 (bl 8 1) HT_ ?_
     refine pu_ 2 22 (bl 8 5) HT_ ?_
     refine tk_ 1 21 (bl 8 7) HT_ HW_ hHeld ?_
     refine on_ 3 (some 23) (bl 8 15) HT_ (fun K hK=>?_)
     refine gO_ Try.func87 #[.pointer (some ⟨g,0,none⟩),.int .i64 2] ?_
     with_reducible refine (spec_l1Once.calls g s0_0 aE aG 2 aZ aU aV w0 _ ?side1 ?side2 A11.out).mono ?_
     (case side1=>exact zp36_1_ HI0.out af.out ah.out)
     (case side2=>exact zp36_3_ HB.out (IsS125.ge HI0.out) ar.out aw.out)
     rintro e w14 ⟨rfl,hi,hb,hk⟩
     refine ⟨_,rfl,?_⟩
     replace ad:=am_ (Kd.R_mono (Kd.R_keep (IsS125.apart (show IsS125 w0 _ g s0_0 aE aG from by exact zp36_1_ HI0.out af.out ah.out) (rr_ ad.out) (by decide)) hk (fun _ h=>h.2)) (fun _ h=>h.1))
     replace ab:=am_ (Kd.S_mono (Kd.S_keep (IsS125.apartS (show IsS125 w0 _ g s0_0 aE aG from by exact zp36_1_ HI0.out af.out ah.out) (rs_ ab.out) (by decide)) hk (fun _ h=>h.2)) (fun _ h=>h.1))
     replace ae:=am_ (KeepBut.blk hk (g':=ak) (o:=.cells #[.slice none 0 0,.slice none 0 0] 27 (0,0)) (rb_ ae.out) aN.out (by simp))
     replace aa:=am_ (KeepBut.blk hk (g':=aj) (o:=.cells #[aq,ag] 27 (0,0)) (rb_ aa.out) aJ.out (by simp))
     replace HK:=am_ (KeepBut.trans (k2_ HK.out al.out ap.out) hk (.inl rfl))
     replace HB:=am_ (hb)
     replace HI0:=am_ (hi)
     (try clear hb)
     (try clear hb2)
     (try clear hk)
     (try clear hi)
     refine hK.out _ _ ⟨(blk_cell aa.out 0).trans rfl,(blk_cell aa.out 1).trans rfl⟩ (fun hHeld=>?_)
     clear hK K
     refine norm_ (a':=?_) ?_ ?_
     rotate_left
     ·show Act.put _ (some 23) _=_
      simp only [pn_,sz_,ss_,i64_w,i32_w]
      rfl
     refine on_ 4 (some 24) (bl 8 31) HT_ (fun K hK=>?_)
     refine value_ (w1:=?_) (v:=?_) (by rfl) rfl ?_ ?_
     rotate_left 2
     ·go_simp
      constructor
      ·rfl
      ·rfl
     refine hK.out _ _ ⟨(blk_cell (blk_alloc aa.out _) 0).trans rfl,(blk_cell (blk_alloc aa.out _) 1).trans rfl⟩ (fun hHeld=>?_)
     clear hK K
     refine norm_ (a':=?_) ?_ ?_
     rotate_left
     ·show Act.put _ (some 24) _=_
      simp only [pn_,sz_,ss_,i64_w,i32_w]
      rfl
     refine on_ 5 (some 25) (bl 8 63) HT_ (fun K hK=>?_)
     refine Kd.R_append_step Kd.bool w.heap.size (by rfl) (.tmp 21) (.tmp 24) 22 4 (.bool false) 1 rfl Try.underlying22 info4 rfl (by decide) (by omega) aq am aZ [.bool aZ] (fun _=>True) (fun _=>False) rfl rfl ?aP (fun _ hk=>hk.elim) ?aF ?aO (Below.refl _ _) ?aS ?aL ?_
     (case aP=>exact rfl)
     (case aF=>exact (fun _ _=>trivial))
     (case aO=>exact (rr_ ad.out))
     (case aS=>exact (keep_size (w:=w) (g:=g) (row:=none) (k2_ HK.out al.out ap.out)))
     (case aL=>have:=LMc12.out;omega)
     intro cl w15 ho hb hg hat
     rw [← bx.out] at ho
     replace ab:=am_ (Kd.S_over' (rs_ ab.out) (Kd.R_typed (rr_ ad.out)) (by decide) hg)
     replace ae:=am_ (blk_grown (g:=ak) (o:=.cells #[.slice none 0 0,.slice none 0 0] 27 (0,0)) (rb_ ae.out) hg (Kd.R_ne ad.out ae.out (by decide)))
     replace aa:=am_ (blk_grown (g:=aj) (o:=.cells #[aq,ag] 27 (0,0)) (rb_ aa.out) hg (Kd.R_ne ad.out aa.out (by decide)))
     replace HB:=am_ (below_weaken (b3_ HB.out (IsS125.ge HI0.out) ar.out aw.out) HL.out hb)
     replace HI0:=am_ (IsS125.grown (zp36_1_ HI0.out af.out ah.out) hg (IsS125.own_ne HI0.out ad.out (by decide)))
     replace HK:=am_ (KeepBut.trans (k2_ HK.out al.out ap.out) (KeepBut.of_grown hg g) (Kd.R_base2 ad.out))
     replace aT:=am_ (ho)
     clear ad ho hb hg hat
     obtain ⟨ay,az,bs⟩:=Kd.R_slice aT.out
     (first | subst bs | (injection bs with f1_ f2_ f3_;have f4_:=f1_.symm;have f5_:=f3_.symm;clear f1_ f2_ f3_;subst f4_;subst f5_))
     refine hK.out _ _ ⟨(blk_cell aa.out 0).trans rfl,(blk_cell aa.out 1).trans rfl⟩ (fun hHeld=>?_)
     clear hK K
     refine norm_ (a':=?_) ?_ ?_
     rotate_left
     ·show Act.put _ (some 25) _=_
      simp only [pn_,sz_,ss_,i64_w,i32_w]
      rfl
     refine pu_ 6 26 (bl 8 127) HT_ ?_
     refine last_ (i:=7) (N:=none) (bl 8 255) rfl rfl (one_of HT_.out (by kernel_rfl)) (by decide) (fun K hK=>?_)
     have hs17:w15.cell? ⟨aj,0,none⟩=some (aq):=(blk_cell aa.out 0).trans rfl
     have hfs17:=blk_frozen aa.out 0
     have hns17_0:=ao.out
     have hms17_0:=aH.out
     refine skip_ (w1:=?_) (by rfl) rfl ?_ ?_
     rotate_left
     ·go_simp
      rfl
     refine hK.out _ _ ?_
     clear hK K
     refine done_ (done_of HT_.out (by kernel_rfl)) ?_
     try go_wp2_with (first | ((with_reducible refine gate_dst (N:=27) rfl ?_);refine Kd.R_lit (Kd.int .i64) _ 3 ?hg (N:=27) ?hd (xs:=([]:List Int)) (inner:=[]) (ok:=fun _=>True) (okp:=fun _=>True) ?hr ?hp (fun _ hk=>hk) trivial (Below.refl _ _) (Nat.le_refl _) (by simp) ?_;(case hd=>rfl);(case hg=>rfl);(case hr=>first | (go_simp;done) | (go_simp;rfl));(case hp=>exact (Reps.none _ _));intro cm w18 ho19 hb hg_ hnew_;clear hg_ hnew_;(first | rw [← bo.out] at ho19 | (simp only [Int.reduceToNat] at ho19;rw [← bo.out] at ho19));have n0_:=am_ (Kd.S_elder' (rs_ (Kd.S_mono (Kd.S_far (p:=⟨aj,0,none⟩) (Kd.S_types ab.out aa.out (by decide)) (fun _ hk=>hk.2) (.slice ay an.length az)) (fun _ h_=>h_.1))) (Kd.R_base ho19) hb);have n1_:=am_ (Kd.R_below (rr_ (Kd.R_mono (Kd.R_far (p:=⟨aj,0,none⟩) (Kd.R_types aT.out aa.out (by decide)) (fun _ hk=>hk.2) (.slice ay an.length az)) (fun _ h_=>h_.1))) hb);have n2_:=am_ (Kd.R_lower ho19 (keep_size (w:=w) (g:=g) (row:=none) (k2_ HK.out al.out ap.out)));have n3_:=am_ (blk_below (g:=ak) (o:=.cells #[.slice none 0 0,.slice none 0 0] 27 (0,0)) (by refine rb_ ?_;refine blk_far ?_ ao.out _;refine rb_ ?_;exact ae.out) hb);have n4_:=am_ (blk_below (g:=aj) (o:=.cells #[.slice ay an.length az,ag] 27 (0,0)) (by refine rb_ ?_;refine blk_put (cs:=#[aq,ag]) ?_ 0 _ rfl;refine rb_ ?_;exact aa.out) hb);have n5_:=am_ (IsS125.below (show IsS125 w0 (w15.setCell ⟨aj,0,none⟩ (.slice ay an.length az)) g s0_0 aU aV from by exact zp36_1_ HI0.out af.out ah.out) hb);have n6_:=am_ (KeepBut.trans (k2_ HK.out al.out ap.out) (KeepBut.of_below hb g none) (.inl rfl));have n7_:=am_ (below_step (b3_ HB.out (IsS125.ge HI0.out) ar.out aw.out) hb);clear ab;clear aT;clear ae;clear aa;clear HI0;clear HK;clear HB;have ab:=n0_;have aT:=n1_;have bz:=n2_;have ae:=n3_;have aa:=n4_;have HI0:=n5_;have HK:=n6_;have HB:=n7_;clear n0_ n1_ n2_ n3_ n4_ n5_ n6_ n7_;clear hb ho19))
     go_loopg [8,9] k1 (fun kq v8 v9 w'=>∃ (aI:List Int) (aK:Int) (au:Int) (av:Int),v9 = .int .i64 aK∧Aside0 (spec_l5Draw.l1 kq (wrap64 (1+aA)) aB aI aK s0_0 au av an ai=some (r1,r2,r3,r4))∧Aside0 (kq≤k1)∧Aside0 (Kd.R (Kd.int .i64) 3 w' w.heap.size (fun _=>True) v8 aI)∧Aside0 (Kd.R Kd.bool 4 w' w.heap.size (fun _=>True) (.slice ay an.length az) an)∧Aside0 (Kd.S (Kd.slice 3 (Kd.int .i64)) 67 w' w.heap.size (fun k_=>some k_ ≠ (v8:Value).ownBlock) ag ai)∧Aside0 (w'.heap[ak]? = some (.cells #[(.slice none 0 0),(.slice none 0 0)] 27 (0,0)))∧Aside0 (w'.heap[aj]? = some (.cells #[(.slice ay an.length az),ag] 27 (0,0)))∧Aside0 (IsS125 w0 w' g s0_0 au av)∧Aside0 (KeepBut w w' g none)∧Aside0 (Below w0.heap.size w0 w'))
     case atStart=>exact ⟨(br),(0),(aU),(aV),(by first | rfl | (simp;done) | (simp [*];done)),H',⟨Nat.le_refl _⟩,⟨by refine rr_ ?_;exact bz.out⟩,⟨by refine rr_ ?_;exact aT.out⟩,⟨by refine rs_ ?_;exact Kd.S_mono ab.out (fun _ hk=>hk.2)⟩,⟨by refine rb_ ?_;exact ae.out⟩,⟨by refine rb_ ?_;exact aa.out⟩,⟨by exact zp36_1_ HI0.out af.out ah.out⟩,⟨by exact zp36_2_ HK.out al.out ap.out⟩,⟨by exact zp36_3_ HB.out (IsS125.ge HI0.out) ar.out aw.out⟩⟩
     case round =>
      clear H'
      try clear c1
      try clear p2
      try clear p6
      try clear c7
      try clear c8
      try clear c10
      try clear c10b0
      try clear c12
      try clear bd
      try clear be
      try clear bf
      try clear bg
      try clear p2
      try clear p6
      obtain ⟨aI,aK,au,av,rfl,HA,HK2,ax,ad,ab,ae,aa,HI0,HK,HB⟩:=hrel
      cases gk with
      | zero=>exact absurd HA.out (by simp [spec_l5Draw.l1])
      | succ k2 =>
       have H:=HA.out
       clear HA
       simp only [spec_l5Draw.l1] at H
       by_cases c20:aK<3
       ·rw [if_pos c20] at H
        have c20b0:decide (aK<3)=true:=decide_eq_true c20
        clear c20
        replace H:=Option.bind_eq_some_iff.mp H
        obtain ⟨⟨ba,bh,bi⟩,bt,H⟩:=H
        have A21:=am_ bt
        clear bt
        by_cases c22:aI.length<17592186044416
        ·rw [if_pos c22] at H
         have LMc22:=am_ c22
         clear c22
         obtain ⟨bu,hy462⟩:∃ y_:List Int,y_=(aI ++ [ba]):=⟨_,rfl⟩
         replace H:(spec_l5Draw.l1 k2 (wrap64 (1+aA)) aB bu (wrap64 (aK+1)) s0_0 bh bi an ai)=some (r1,r2,r3,r4):=by first | (rw [hy462];with_reducible exact H) | (have H2_:=(Option.bind_some _ _).symm.trans H;rw [hy462];with_reducible exact H2_) | (have H2_:=(Option.bind_some _ _).symm.trans H;with_reducible exact H2_) | with_reducible exact H | (rw [hy462];exact H) | exact H
         have bA:=am_ hy462
         clear hy462
         have H':=am_ H
         clear H
         go_wp2_with (first | ((with_reducible refine gate_callee (f:=107) rfl ?_);refine gL_ (some 35) Try.func107 #[.pointer (some ⟨g,0,none⟩),.int .i64 (wrap64 (1+aA))] ?_;(with_reducible refine (spec_l1Below.calls g s0_0 au av (wrap64 (1+aA)) ba bh bi w0 _ ?side1 ?side2 A21.out).mono ?_);(case side1=>exact zp36_1_ HI0.out af.out ah.out);(case side2=>exact zp36_3_ HB.out (IsS125.ge HI0.out) ar.out aw.out);rintro e w23 ⟨rfl,hi,hb,hk⟩;refine ⟨_,rfl,?_⟩;have n0_:=am_ (Kd.R_mono (Kd.R_keep (IsS125.apart (show IsS125 w0 _ g s0_0 au av from by exact zp36_1_ HI0.out af.out ah.out) (rr_ ax.out) (by decide)) hk (fun _ h=>h.2)) (fun _ h=>h.1));have n1_:=am_ (Kd.R_mono (Kd.R_keep (IsS125.apart (show IsS125 w0 _ g s0_0 au av from by exact zp36_1_ HI0.out af.out ah.out) (rr_ ad.out) (by decide)) hk (fun _ h=>h.2)) (fun _ h=>h.1));have n2_:=am_ (Kd.S_mono (Kd.S_keep (IsS125.apartS (show IsS125 w0 _ g s0_0 au av from by exact zp36_1_ HI0.out af.out ah.out) (rs_ ab.out) (by decide)) hk (fun _ h=>h.2)) (fun _ h=>h.1));have n3_:=am_ (KeepBut.blk hk (g':=ak) (o:=.cells #[.slice none 0 0,.slice none 0 0] 27 (0,0)) (rb_ ae.out) aN.out (by simp));have n4_:=am_ (KeepBut.blk hk (g':=aj) (o:=.cells #[.slice ay an.length az,ag] 27 (0,0)) (rb_ aa.out) aJ.out (by simp));have n5_:=am_ (KeepBut.trans (k2_ HK.out al.out ap.out) hk (.inl rfl));have n6_:=am_ (hb);have n7_:=am_ (hi);clear ax;clear ad;clear ab;clear ae;clear aa;clear HK;clear HB;clear HI0;have ax:=n0_;have ad:=n1_;have ab:=n2_;have ae:=n3_;have aa:=n4_;have HK:=n5_;have HB:=n6_;have HI0:=n7_;clear n0_ n1_ n2_ n3_ n4_ n5_ n6_ n7_;(try clear hb);(try clear hb2);(try clear hk);(try clear hi)) | ((with_reducible refine gate_builtin (b:=.append) (xs:=#[.tmp 32,.tmp 36]) rfl ?_);at_builtin;refine Kd.R_append (Kd.int .i64) w.heap.size rfl (.tmp 32) (.tmp 36) 67 3 (.int .i64 0) 8 rfl Try.underlying67 info3 rfl (by decide) (by omega) u8 aI ba [.int .i64 ba] (fun _=>True) (fun _=>False) rfl rfl ?aP (fun _ hk=>hk.elim) ?aF ?aO (Below.refl _ _) ?aS ?aL ?_;(case aP=>exact rfl);(case aF=>exact (fun _ _=>trivial));(case aO=>exact (rr_ ax.out));(case aS=>exact (keep_size (w:=w) (g:=g) (row:=none) (k2_ HK.out al.out ap.out)));(case aL=>have:=LMc22.out;omega);intro cn w24 ho hb hg hat;rw [← bA.out] at ho;have n0_:=am_ (Kd.R_over' (rr_ ad.out) (Kd.R_typed (rr_ ax.out)) (by decide) hg);have n1_:=am_ (Kd.S_after (ok:=(fun _=>True)) (by refine rs_ ?_;exact Kd.S_mono ab.out (fun _ hk=>⟨trivial,hk⟩)) hg hat);have n2_:=am_ (blk_grown (g:=ak) (o:=.cells #[.slice none 0 0,.slice none 0 0] 27 (0,0)) (rb_ ae.out) hg (Kd.R_ne ax.out ae.out (by decide)));have n3_:=am_ (blk_grown (g:=aj) (o:=.cells #[.slice ay an.length az,ag] 27 (0,0)) (rb_ aa.out) hg (Kd.R_ne ax.out aa.out (by decide)));have n4_:=am_ (IsS125.grown (zp36_1_ HI0.out af.out ah.out) hg (IsS125.own_ne HI0.out ax.out (by decide)));have n5_:=am_ (below_weaken (b3_ HB.out (IsS125.ge HI0.out) ar.out aw.out) HL.out hb);have n6_:=am_ (KeepBut.trans (k2_ HK.out al.out ap.out) (KeepBut.of_grown hg g) (Kd.R_base2 ax.out));have n7_:=am_ (ho);clear ad;clear ab;clear ae;clear aa;clear HI0;clear HB;clear HK;clear ax;have ad:=n0_;have ab:=n1_;have ae:=n2_;have aa:=n3_;have HI0:=n4_;have HB:=n5_;have HK:=n6_;have bB:=n7_;clear n0_ n1_ n2_ n3_ n4_ n5_ n6_ n7_;clear ho hb hg hat))
         go_roundg k2
         case measure=>have:=HK1.out;have:=HK2.out;omega
         case rel=>exact ⟨(bu),(wrap64 (aK+1)),(bh),(bi),(by first | rfl | (simp;done) | (simp [*];done)),H',⟨by have:=HK1.out;have:=HK2.out;omega⟩,⟨by refine rr_ ?_;exact bB.out⟩,⟨by refine rr_ ?_;exact ad.out⟩,⟨by refine rs_ ?_;exact Kd.S_mono ab.out (fun _ hk=>hk.2)⟩,⟨by refine rb_ ?_;exact ae.out⟩,⟨by refine rb_ ?_;exact aa.out⟩,⟨by exact zp36_1_ HI0.out af.out ah.out⟩,⟨by exact zp36_2_ HK.out al.out ap.out⟩,⟨by exact zp36_3_ HB.out (IsS125.ge HI0.out) ar.out aw.out⟩⟩
        ·rw [if_neg c22] at H
         exact absurd H (by simp)
       ·rw [if_neg c20] at H
        have c20b0:decide (aK<3)=false:=decide_eq_false c20
        clear c20
        by_cases c25:ai.length<5864062014805
        ·rw [if_pos c25] at H
         have LMc25:=am_ c25
         clear c25
         obtain ⟨aW,hy465⟩:∃ y_:List (List Int),y_=(ai ++ [aI]):=⟨_,rfl⟩
         replace H:(spec_l5Draw.l0 k2 (wrap64 (1+aA)) (wrap64 (aB+1)) s0_0 au av an aW)=some (r1,r2,r3,r4):=by first | (rw [hy465];with_reducible exact H) | (have H2_:=(Option.bind_some _ _).symm.trans H;rw [hy465];with_reducible exact H2_) | (have H2_:=(Option.bind_some _ _).symm.trans H;with_reducible exact H2_) | with_reducible exact H | (rw [hy465];exact H) | exact H
         have bC:=am_ hy465
         clear hy465
         have H':=am_ H
         clear H
         have bX:=aH.out
         have bY:=ao.out
         have bZ:=aJ.out
         have ca:=ah.out
         have bH:=ck_ (v:=(.slice ay an.length az)) aa 0 rfl
         have bI:=ck_ (v:=(ag)) aa 1 rfl
         have bJ:=blk_frozen aa.out 0
         have bK:=blk_frozen aa.out 1
         obtain ⟨bv,bw,bD⟩:=Kd.R_slice ax.out
         subst bD
         go_wp2_with (first | ((with_reducible refine gate_builtin (b:=.append) (xs:=#[.tmp 39,.tmp 41]) rfl ?_);at_builtin;refine Kd.S_append (Kd.slice 3 (Kd.int .i64)) w.heap.size rfl (.tmp 39) (.tmp 41) 23 67 (.slice none 0 0) 24 rfl Try.underlying23 info67 rfl (by decide) (by omega) ag ai aI [.slice bv aI.length bw] (fun _=>True) (fun k_=>some k_=(.slice bv aI.length bw:Value).ownBlock) rfl rfl ?aP (fun k_ hk_=>((Kd.R_mono (ok':=fun k_=>((fun _=>True)) k_∧some k_ ≠ (ag:Value).ownBlock) (Kd.R_apart' (ax.out) (Kd.S_typed ab.out) (by decide)) (fun k_ hk=>⟨trivial,hk.2⟩))).1 k_ hk_.symm) ?aF ?aO (Below.refl _ _) ?aS ?aL ?_;(case aP=>exact Kd.M_row (Kd.R_mono (Kd.R_tight rfl (Kd.R_mono (ok':=fun k_=>((fun _=>True)) k_∧some k_ ≠ (ag:Value).ownBlock) (Kd.R_apart' (ax.out) (Kd.S_typed ab.out) (by decide)) (fun k_ hk=>⟨trivial,hk.2⟩))) (fun _ h_=>h_)));(case aF=>exact (fun _ _=>trivial));(case aO=>exact (by refine rs_ ?_;exact Kd.S_mono ab.out (fun k_ hk=>⟨trivial,fun e_=>hk e_⟩)));(case aS=>exact (keep_size (w:=w) (g:=g) (row:=none) (k2_ HK.out al.out ap.out)));(case aL=>have:=LMc25.out;omega);intro co w29 ho hb hg hat;rw [← bC.out] at ho;have n0_:=am_ (Kd.R_over' (rr_ ad.out) (Kd.S_typed (rs_ ab.out)) (by decide) hg);have n1_:=am_ (blk_grown (g:=ak) (o:=.cells #[.slice none 0 0,.slice none 0 0] 27 (0,0)) (rb_ ae.out) hg (Kd.S_ne ab.out ae.out (by decide)));have n2_:=am_ (blk_grown (g:=aj) (o:=.cells #[.slice ay an.length az,ag] 27 (0,0)) (rb_ aa.out) hg (Kd.S_ne ab.out aa.out (by decide)));have n3_:=am_ (IsS125.grown (zp36_1_ HI0.out af.out ah.out) hg (IsS125.own_neS HI0.out ab.out (by decide)));have n4_:=am_ (below_weaken (b3_ HB.out (IsS125.ge HI0.out) ar.out aw.out) HL.out hb);have n5_:=am_ (KeepBut.trans (k2_ HK.out al.out ap.out) (KeepBut.of_grown hg g) (Kd.S_base2 ab.out));have n6_:=am_ (ho);clear ad;clear ae;clear aa;clear HI0;clear HB;clear HK;clear ab;clear ax;have ad:=n0_;have ae:=n1_;have aa:=n2_;have HI0:=n3_;have HB:=n4_;have HK:=n5_;have bp:=n6_;clear n0_ n1_ n2_ n3_ n4_ n5_ n6_;clear ho hb hg hat;obtain ⟨bj,bk,bE⟩:=Kd.S_slice bp.out;subst bE;have bL:=ck_ (v:=(.slice ay an.length az)) aa 0 rfl;have bM:=ck_ (v:=(ag)) aa 1 rfl;have bN:=blk_frozen aa.out 0;have bO:=blk_frozen aa.out 1))
         go_roundg k2
         case measure=>have:=HK1.out;have:=HK2.out;omega
         case rel=>exact ⟨(wrap64 (aB+1)),(au),(av),(an),(aW),(.slice ay an.length az),(.slice bj aW.length bk),(by first | rfl | (simp;done) | (simp [*];done)),H',⟨by have:=HK1.out;have:=HK2.out;omega⟩,⟨by refine rr_ ?_;exact Kd.R_mono (Kd.R_far (p:=⟨aj,1,none⟩) (Kd.R_types ad.out aa.out (by decide)) (fun _ hk=>hk.2) (.slice bj aW.length bk)) (fun _ hk=>trivial)⟩,⟨by refine rs_ ?_;exact Kd.S_mono (Kd.S_far (p:=⟨aj,1,none⟩) (Kd.S_types bp.out aa.out (by decide)) (fun _ hk=>hk.2) (.slice bj aW.length bk)) (fun _ hk=>trivial)⟩,⟨by refine rb_ ?_;refine blk_far ?_ ao.out _;refine rb_ ?_;exact ae.out⟩,⟨by refine rb_ ?_;refine blk_put (cs:=#[.slice ay an.length az,ag]) ?_ 1 _ rfl;refine rb_ ?_;exact aa.out⟩,⟨by exact zp36_1_ HI0.out af.out ah.out⟩,⟨by exact zp36_2_ HK.out al.out ap.out⟩,⟨by exact zp36_3_ HB.out (IsS125.ge HI0.out) ar.out aw.out⟩⟩
        ·rw [if_neg c25] at H
         exact absurd H (by simp)
    ·rw [if_neg c12] at H
     exact absurd H (by simp)
   ·rw [if_neg c10] at H
    have c10b0:decide (aB<(wrap64 (1+aA)))=false:=decide_eq_false c10
    clear c10
    simp only [Option.some.injEq,Prod.mk.injEq] at H
    obtain ⟨rfl,rfl,rfl,rfl⟩:=H
    have cb:=aH.out
    have cc:=ao.out
    have cd:=aJ.out
    have ce:=ah.out
    have bP:=ck_ (v:=(aq)) aa 0 rfl
    have bQ:=ck_ (v:=(ag)) aa 1 rfl
    have bR:=blk_frozen aa.out 0
    have bS:=blk_frozen aa.out 1
    obtain ⟨bb,bc,bF⟩:=Kd.R_slice ad.out
    subst bF
    have cf:=aN.out
    have cg:=af.out
    have bT:=ck_ (v:=(.slice none 0 0)) ae 0 rfl
    have bU:=ck_ (v:=(.slice none 0 0)) ae 1 rfl
    have bV:=blk_frozen ae.out 0
    have bW:=blk_frozen ae.out 1
    obtain ⟨bm,bn,bG⟩:=Kd.S_slice ab.out
    subst bG
    go_wp2
    refine bodyPost_ret (results_cell_row rfl _ _ ak 27 #[.slice bb am.length bc,.slice bm ai.length bn] (0,0) _ rfl (by refine rb_ ?_;refine blk_put (cs:=#[.slice bb am.length bc,.slice none 0 0]) ?_ 1 _ rfl;refine rb_ ?_;refine blk_put (cs:=#[.slice none 0 0,.slice none 0 0]) ?_ 0 _ rfl;refine rb_ ?_;exact ae.out) Try.underlying27 rfl (by kernel_rfl)) rfl ?_
    exact ⟨_,_,by first | rfl | (simp [errW_none,errW_some] <;> rfl) | (simp [*,errW_none,errW_some] <;> rfl),by refine rr_ ?_;exact Kd.R_mono (Kd.R_far (p:=⟨ak,1,none⟩) (Kd.R_far (p:=⟨ak,0,none⟩) (Kd.R_types ad.out ae.out (by decide)) (fun _ hk=>hk.2) (.slice bb am.length bc)) (fun _ hk=>hk.2) (.slice bm ai.length bn)) (fun _ hk=>trivial),by refine rs_ ?_;exact Kd.S_mono (Kd.S_far (p:=⟨ak,1,none⟩) (Kd.S_far (p:=⟨ak,0,none⟩) (Kd.S_types ab.out ae.out (by decide)) (fun _ hk=>hk.2) (.slice bb am.length bc)) (fun _ hk=>hk.2) (.slice bm ai.length bn)) (fun _ hk=>trivial),by exact zp36_1_ HI0.out af.out ah.out,by exact zp36_3_ HB.out (IsS125.ge HI0.out) ar.out aw.out,by exact zp36_2_ HK.out al.out ap.out⟩
end Go.Proofs.Ytogamkblkoobkaa.P
end
