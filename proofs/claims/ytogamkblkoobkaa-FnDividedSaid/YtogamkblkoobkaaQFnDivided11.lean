/- Texts of the proof of FnDivided, put together. No condition. -/
import Derived.Test.YtogamkblkoobkaaQFnDivided2
import Derived.Test.YtogamkblkoobkaaQFnDivided9
import Derived.Test.YtogamkblkoobkaaQFnDivided10
set_option linter.unusedVariables false
set_option linter.unusedSimpArgs false
section
namespace Go.Proofs.Ytogamkblkoobkaa.P
open Go.RowKit Go.Proofs.YtogamkblkoobkaaW.PrintWords Go.Proofs.YtogamkblkoobkaaW.PrintLast Go.Proofs.YtogamkblkoobkaaW.PrintMore
attribute [local go_sem] max2_int min2_int max_two min_two max_three min_three max_four min_four
def spec_DrawProductDfa.f (k:Nat) (l0:List Int):Option (List Bool × (List (List Int)) × List Bool × (List (List Int)) × Int):=(spec_l1New.f k l0).bind fun bt691=>((spec_l5Draw.f k bt691.1 bt691.2.1 bt691.2.2 4).bind fun bt695=>((spec_l5Draw.f k bt691.1 bt695.2.2.1 bt695.2.2.2 4).bind fun bt704=>((spec_l1Once.f bt691.1 bt704.2.2.1 bt704.2.2.2 12).bind fun bt713=>(if bt713.1=true then ((spec_l5Bent.f k bt691.1 bt713.2.1 bt713.2.2).bind fun bt716=>((spec_l1PickInt.f bt691.1 bt716.2.2.1 bt716.2.2.2 (([6,7,6,7,9]:List Int))).bind fun bt727=>(some (bt695.1,bt695.2.1,bt716.1,bt716.2.1,bt727.1)))) else ((spec_l1PickInt.f bt691.1 bt713.2.1 bt713.2.2 (([6,7,6,7,9]:List Int))).bind fun bt733=>(some (bt695.1,bt695.2.1,bt704.1,bt704.2.1,bt733.1)))))))
theorem spec_DrawProductDfa.mono:∀ a0 k,LeO (spec_DrawProductDfa.f k a0) (spec_DrawProductDfa.f (k+1) a0):=by
 intro a0 k
 unfold spec_DrawProductDfa.f
 repeat' first
  | (with_reducible exact spec_l1New.mono _ _)
  | (with_reducible exact spec_l5Bent.mono _ _ _ _)
  | (with_reducible exact spec_l5Draw.mono _ _ _ _ _)
  | (with_reducible exact LeO.refl _)
  | (with_reducible exact LeO.none _)
  | (with_reducible refine LeO.ite ?_ ?_)
  | (with_reducible refine LeO.bind ?_ (fun _=>?_))
  | exact spec_l1New.mono _ _
  | exact spec_l5Bent.mono _ _ _ _
  | exact spec_l5Draw.mono _ _ _ _ _
  | exact LeO.none _
  | refine LeO.ite ?_ ?_
  | refine LeO.bind ?_ (fun _=>?_)
def spec_DrawProductDfa.T6:Bool × List (List Nat × List Nat):=(true,[([],[]),([],[]),([],[]),([],[]),([2,3],[2,3]),([0,4,0],[0]),([1,5,0,1,5],[1]),([4,6,0,1,2,3,4,5,6],[4])])
def spec_DrawProductDfa.B6:List Nat:=[0,0,0,0,12,29,63,127]
theorem spec_DrawProductDfa.tab6:rtab .any (opsOf Try.f37 6)=spec_DrawProductDfa.T6:=by kernel_rfl
theorem spec_DrawProductDfa.bits6:waitsOk spec_DrawProductDfa.T6.2 spec_DrawProductDfa.B6=true:=by kernel_rfl
theorem zp49_0_ {p q g1 g2:Prop} (h:p) (h1:g1) (h2:g2) (c:p→g1→g2→q:=by intro h_ h1_ h2_;repeat (first | (with_reducible first | exact h_ | apply IsS125.alloc | apply IsS125.drewN | apply IsS125.drew | apply IsS125.set_1 | apply IsS125.set_2 | refine IsS125.far ?_ h1_ _ | refine IsS125.far ?_ h2_ _) | exact h_)):q:=c h h1 h2
theorem zp49_1_ {p q g1 g2 g3:Prop} (h:p) (h1:g1) (h2:g2) (h3:g3) (c:p→g1→g2→g3→q:=by intro h_ h1_ h2_ h3_;repeat (first | (with_reducible first | exact h_ | apply IsS125.alloc | apply IsS125.drewN | apply IsS125.drew | apply IsS125.set_1 | apply IsS125.set_2 | refine IsS125.far ?_ h1_ _ | refine IsS125.far ?_ h2_ _ | refine IsS125.far ?_ h3_ _) | exact h_)):q:=c h h1 h2 h3
theorem zp49_2_ {p q g1 g2 g3 g4:Prop} (h:p) (h1:g1) (h2:g2) (h3:g3) (h4:g4) (c:p→g1→g2→g3→g4→q:=by intro h_ h1_ h2_ h3_ h4_;repeat (first | (with_reducible first | exact h_ | apply IsS125.alloc | apply IsS125.drewN | apply IsS125.drew | apply IsS125.set_1 | apply IsS125.set_2 | refine IsS125.far ?_ h1_ _ | refine IsS125.far ?_ h2_ _ | refine IsS125.far ?_ h3_ _ | refine IsS125.far ?_ h4_ _) | exact h_)):q:=c h h1 h2 h3 h4
theorem zp49_3_ {p q g1 g2 g3 g4 g5:Prop} (h:p) (h1:g1) (h2:g2) (h3:g3) (h4:g4) (h5:g5) (c:p→g1→g2→g3→g4→g5→q:=by intro h_ h1_ h2_ h3_ h4_ h5_;repeat (first | (with_reducible first | exact h_ | apply below_alloc | apply pw_below_drewN | apply below_drew1 | refine below_set ?_ h1_ | refine below_set ?_ h2_ | refine below_set ?_ h3_ | refine below_set ?_ h4_ | refine below_set ?_ h5_) | exact h_)):q:=c h h1 h2 h3 h4 h5
set_option maxHeartbeats 8000000 in
set_option maxRecDepth 100000 in
theorem spec_DrawProductDfa.calls (k:Nat) (A0:Option Addr) (c0:Nat) (l0:List Int) (r1:List Bool) (r2:List (List Int)) (r3:List Bool) (r4:List (List Int)) (r5:Int) (w:World) (hr0:Kd.C (Kd.int .u8) w A0 l0.length l0) (hc0:l0.length≤c0) (h:spec_DrawProductDfa.f k l0=some (r1,r2,r3,r4,r5)) :
  Calls Try.prog 37 #[.slice A0 l0.length c0] w fun e w'=>∃ v0_ v1_ v2_ v3_:Value,e = .returned (.tuple #[.agg #[v0_,v1_],.agg #[v2_,v3_],.int .i64 r5])∧Kd.R Kd.bool 4 w' w.heap.size (fun k_=>some k_ ≠ (v2_:Value).ownBlock) v0_ r1∧Kd.S (Kd.slice 3 (Kd.int .i64)) 67 w' w.heap.size (fun k_=>some k_ ≠ (v3_:Value).ownBlock) v1_ r2∧Kd.R Kd.bool 4 w' w.heap.size (fun k_=>some k_ ≠ (v0_:Value).ownBlock) v2_ r3∧Kd.S (Kd.slice 3 (Kd.int .i64)) 67 w' w.heap.size (fun k_=>some k_ ≠ (v1_:Value).ownBlock) v3_ r4∧Below w.heap.size w w':=by
 have hu27:=Try.underlying27
 have HR0:=am_ hr0
 have HC0:=am_ hc0
 clear hr0 hc0
 have HB:=am_ (Below.refl w.heap.size w)
 have H:((spec_l1New.f k l0).bind fun bt691=>((spec_l5Draw.f k bt691.1 bt691.2.1 bt691.2.2 4).bind fun bt695=>((spec_l5Draw.f k bt691.1 bt695.2.2.1 bt695.2.2.2 4).bind fun bt704=>((spec_l1Once.f bt691.1 bt704.2.2.1 bt704.2.2.2 12).bind fun bt713=>(if bt713.1=true then ((spec_l5Bent.f k bt691.1 bt713.2.1 bt713.2.2).bind fun bt716=>((spec_l1PickInt.f bt691.1 bt716.2.2.1 bt716.2.2.2 (([6,7,6,7,9]:List Int))).bind fun bt727=>(some (bt695.1,bt695.2.1,bt716.1,bt716.2.1,bt727.1)))) else ((spec_l1PickInt.f bt691.1 bt713.2.1 bt713.2.2 (([6,7,6,7,9]:List Int))).bind fun bt733=>(some (bt695.1,bt695.2.1,bt704.1,bt704.2.1,bt733.1))))))))=some (r1,r2,r3,r4,r5):=h
 clear h
 replace H:=Option.bind_eq_some_iff.mp H
 obtain ⟨⟨aq,bC,bD⟩,A20,H⟩:=H
 have A2:=am_ A20
 clear A20
 replace H:=Option.bind_eq_some_iff.mp H
 obtain ⟨⟨aw,ax,bo,bp⟩,A30,H⟩:=H
 have A3:=am_ A30
 clear A30
 replace H:=Option.bind_eq_some_iff.mp H
 obtain ⟨⟨aF,aM,bb,bc⟩,A40,H⟩:=H
 have A4:=am_ A40
 clear A40
 replace H:=Option.bind_eq_some_iff.mp H
 obtain ⟨⟨bR,bd,be⟩,A50,H⟩:=H
 have A5:=am_ A50
 clear A50
 by_cases c6:bR=true
 ·subst c6
  have H1:((spec_l5Bent.f k aq bd be).bind fun bt716=>((spec_l1PickInt.f aq bt716.2.2.1 bt716.2.2.2 (([6,7,6,7,9]:List Int))).bind fun bt727=>(some (aw,ax,bt716.1,bt716.2.1,bt727.1))))=some (r1,r2,r3,r4,r5):=by rw [if_pos rfl] at H;exact H
  clear H
  have H:=H1
  clear H1
  replace H:=Option.bind_eq_some_iff.mp H
  obtain ⟨⟨ay,aD,bw,bx⟩,A70,H⟩:=H
  have A7:=am_ A70
  clear A70
  obtain ⟨bE,hy724⟩:∃ y_:List Int,y_=(([6,7,6,7,9]:List Int)):=⟨_,rfl⟩
  replace H:((spec_l1PickInt.f aq bw bx bE).bind fun bt727=>(some (aw,ax,ay,aD,bt727.1)))=some (r1,r2,r3,r4,r5):=by first | (rw [hy724];with_reducible exact H) | (have H2_:=(Option.bind_some _ _).symm.trans H;rw [hy724];with_reducible exact H2_) | (have H2_:=(Option.bind_some _ _).symm.trans H;with_reducible exact H2_) | with_reducible exact H | (rw [hy724];exact H) | exact H
  have bG:=am_ hy724
  clear hy724
  replace H:=Option.bind_eq_some_iff.mp H
  obtain ⟨⟨bI,bS,bT⟩,A80,H⟩:=H
  replace H:(some (aw,ax,ay,aD,bI))=some (r1,r2,r3,r4,r5):=H
  have A8:=am_ A80
  clear A80
  simp only [Option.some.injEq,Prod.mk.injEq] at H
  obtain ⟨rfl,rfl,rfl,rfl,rfl⟩:=H
  go_enter Try.func37,Try.ntmps37
  try go_wp2_with (first | ((with_reducible refine gate_dst (N:=2) rfl ?_);refine box_event ?hg (N:=2) ?hd (cs:=#[.slice none 0 0,.slice none 0 0]) (t:=27) ?hr ?_;(case hd=>rfl);(case hg=>rfl);(case hr=>first | (go_simp;done) | (go_simp;rfl));intro ai hg w9 hbox hb;replace aa:=am_ (hbox);replace bN:=am_ ((by rw [hg];exact (below_size (b0_ HB.out)):w.heap.size≤ai));replace ap:=am_ ((by rw [hg];exact (below_size (b0_ HB.out)):w.heap.size≤ai));replace HB:=am_ (below_step (b0_ HB.out) hb);clear hb hbox hg) | ((with_reducible refine gate_dst (N:=3) rfl ?_);refine box_event ?hg (N:=3) ?hd (cs:=#[.slice none 0 0,.slice none 0 0]) (t:=27) ?hr ?_;(case hd=>rfl);(case hg=>rfl);(case hr=>first | (go_simp;done) | (go_simp;rfl));intro aj hg w10 hbox hb;have n0_:=am_ (blk_below (rb_ aa.out) hb);have n1_:=am_ (below_step (b1_ HB.out ap.out) hb);have n2_:=am_ (hbox);have n3_:=am_ ((by rw [hg];exact (below_size (b1_ HB.out ap.out)):w.heap.size≤aj));have n4_:=am_ ((by rw [hg];exact (below_size (b1_ HB.out ap.out)):w.heap.size≤aj));have n5_:=am_ ((by rw [hg];exact Nat.ne_of_lt (blk_lt (rb_ aa.out)):ai ≠ aj));have n6_:=am_ ((by rw [hg];exact Nat.ne_of_gt (blk_lt (rb_ aa.out)):aj ≠ ai));clear aa;clear HB;have aa:=n0_;have HB:=n1_;have ae:=n2_;have bO:=n3_;have ar:=n4_;have aI:=n5_;have aJ:=n6_;clear n0_ n1_ n2_ n3_ n4_ n5_ n6_;clear hb hbox hg) | ((with_reducible refine gate_callee (f:=85) rfl ?_);refine gL_ (some 9) Try.func85 #[.slice A0 l0.length c0] ?_;(with_reducible refine (spec_l1New.calls k _ _ l0 aq bC bD w _ ?side1 ?side2 ?side3 A2.out).mono ?_);(case side1=>repeat (first | (with_reducible first | exact HB.out | apply below_alloc | apply pw_below_drewN | apply below_drew1 | refine below_set ?_ ap.out | refine below_set ?_ ar.out) | exact HB.out));(case side2=>exact HR0.out);(case side3=>exact HC0.out);rintro e w11 ⟨g694,rfl,hi,hb,hb2⟩;refine ⟨_,rfl,?_⟩;have n0_:=am_ (blk_below (rb_ aa.out) hb2);have n1_:=am_ (blk_below (rb_ ae.out) hb2);have n2_:=am_ (hb);have n3_:=am_ (hi);have n4_:=am_ (IsS125.ne_blk hi (blk_below (rb_ aa.out) hb2) (by decide));have n5_:=am_ (Ne.symm (IsS125.ne_blk hi (blk_below (rb_ aa.out) hb2) (by decide)));have n6_:=am_ (IsS125.ne_blk hi (blk_below (rb_ ae.out) hb2) (by decide));have n7_:=am_ (Ne.symm (IsS125.ne_blk hi (blk_below (rb_ ae.out) hb2) (by decide)));clear aa;clear ae;clear HB;have aa:=n0_;have ae:=n1_;have HB:=n2_;have HI694:=n3_;have ab:=n4_;have aR:=n5_;have ad:=n6_;have aS:=n7_;clear n0_ n1_ n2_ n3_ n4_ n5_ n6_ n7_;(try clear hb);(try clear hb2);(try clear hk);(try clear hi)) | ((with_reducible refine gate_callee (f:=86) rfl ?_);refine gL_ (some 11) Try.func86 #[.pointer (some ⟨g694,0,none⟩),.int .i64 4] ?_;(with_reducible refine (spec_l5Draw.calls k g694 aq bC bD 4 aw ax bo bp w _ ?side1 ?side2 A3.out).mono ?_);(case side1=>exact zp49_0_ HI694.out ab.out ad.out);(case side2=>repeat (first | (with_reducible first | exact HB.out | apply below_alloc | apply pw_below_drewN | apply below_drew1 | refine below_set ?_ (IsS125.ge HI694.out) | refine below_set ?_ ap.out | refine below_set ?_ ar.out) | exact HB.out));rintro e w12 ⟨bU,bV,rfl,ho0,ho1,hi,hb,hk⟩;refine ⟨_,rfl,?_⟩;have n0_:=am_ (KeepBut.blk hk (g':=ai) (o:=.cells #[.slice none 0 0,.slice none 0 0] 27 (0,0)) (rb_ aa.out) aR.out (by simp));have n1_:=am_ (KeepBut.blk hk (g':=aj) (o:=.cells #[.slice none 0 0,.slice none 0 0] 27 (0,0)) (rb_ ae.out) aS.out (by simp));have n2_:=am_ (Kd.R_lower ho0 (below_size (b3_ HB.out (IsS125.ge HI694.out) ap.out ar.out)));have n3_:=am_ (Kd.S_lower ho1 (below_size (b3_ HB.out (IsS125.ge HI694.out) ap.out ar.out)));have n4_:=am_ (hb);have n5_:=am_ (hi);clear aa;clear ae;clear HB;clear HI694;have aa:=n0_;have ae:=n1_;have am:=n2_;have an:=n3_;have HB:=n4_;have HI694:=n5_;clear n0_ n1_ n2_ n3_ n4_ n5_;(try clear hb);(try clear hb2);(try clear hk);(try clear hi);(try clear ho0);(try clear ho1)) | ((with_reducible refine gate_dst (N:=6) rfl ?_);refine box_event ?hg (N:=6) ?hd (cs:=#[.slice none 0 0,.slice none 0 0]) (t:=27) ?hr ?_;(case hd=>rfl);(case hg=>rfl);(case hr=>first | (go_simp;done) | (go_simp;rfl));intro ao hg w13 hbox hb;have n0_:=am_ (Kd.R_below (rr_ am.out) hb);have n1_:=am_ (Kd.S_below (rs_ an.out) hb);have n2_:=am_ (blk_below (rb_ aa.out) hb);have n3_:=am_ (blk_below (rb_ ae.out) hb);have n4_:=am_ (IsS125.below (zp49_0_ HI694.out ab.out ad.out) hb);have n5_:=am_ (below_step (b3_ HB.out (IsS125.ge HI694.out) ap.out ar.out) hb);have n6_:=am_ (hbox);have n7_:=am_ ((by rw [hg];exact (below_size (b3_ HB.out (IsS125.ge HI694.out) ap.out ar.out)):w.heap.size≤ao));have n8_:=am_ ((by rw [hg];exact (below_size (b3_ HB.out (IsS125.ge HI694.out) ap.out ar.out)):w.heap.size≤ao));have n9_:=am_ ((by rw [hg];exact Nat.ne_of_lt (blk_lt (rb_ aa.out)):ai ≠ ao));have n10_:=am_ ((by rw [hg];exact Nat.ne_of_gt (blk_lt (rb_ aa.out)):ao ≠ ai));have n11_:=am_ ((by rw [hg];exact Nat.ne_of_lt (blk_lt (rb_ ae.out)):aj ≠ ao));have n12_:=am_ ((by rw [hg];exact Nat.ne_of_gt (blk_lt (rb_ ae.out)):ao ≠ aj));have n13_:=am_ ((by rw [hg];exact Nat.ne_of_lt (IsS125.lt (show IsS125 w _ g694 aq bo bp from by exact zp49_0_ HI694.out ab.out ad.out)):g694 ≠ ao));have n14_:=am_ ((by rw [hg];exact Nat.ne_of_gt (IsS125.lt (show IsS125 w _ g694 aq bo bp from by exact zp49_0_ HI694.out ab.out ad.out)):ao ≠ g694));clear am;clear an;clear aa;clear ae;clear HI694;clear HB;have am:=n0_;have an:=n1_;have aa:=n2_;have ae:=n3_;have HI694:=n4_;have HB:=n5_;have ah:=n6_;have bP:=n7_;have aE:=n8_;have aP:=n9_;have az:=n10_;have aQ:=n11_;have aA:=n12_;have af:=n13_;have aT:=n14_;clear n0_ n1_ n2_ n3_ n4_ n5_ n6_ n7_ n8_ n9_ n10_ n11_ n12_ n13_ n14_;clear hb hbox hg;obtain ⟨aV,aW,bW⟩:=Kd.R_slice am.out;subst bW;have cJ:=az.out;have cK:=aP.out;have cL:=aA.out;have cM:=aQ.out;have cN:=aT.out;have cO:=af.out;have co:=ck_ (v:=(.slice none 0 0)) ah 0 rfl;have cp:=ck_ (v:=(.slice none 0 0)) ah 1 rfl;have cq:=blk_frozen ah.out 0;have cr:=blk_frozen ah.out 1;obtain ⟨aZ,ba,bX⟩:=Kd.S_slice an.out;subst bX) | ((with_reducible refine gate_callee (f:=86) rfl ?_);refine gL_ (some 13) Try.func86 #[.pointer (some ⟨g694,0,none⟩),.int .i64 4] ?_;(with_reducible refine (spec_l5Draw.calls k g694 aq bo bp 4 aF aM bb bc w _ ?side1 ?side2 A4.out).mono ?_);(case side1=>exact zp49_1_ HI694.out ab.out ad.out af.out);(case side2=>repeat (first | (with_reducible first | exact HB.out | apply below_alloc | apply pw_below_drewN | apply below_drew1 | refine below_set ?_ (IsS125.ge HI694.out) | refine below_set ?_ ap.out | refine below_set ?_ ar.out | refine below_set ?_ aE.out) | exact HB.out));rintro e w20 ⟨bY,bZ,rfl,ho0,ho1,hi,hb,hk⟩;refine ⟨_,rfl,?_⟩;have n0_:=am_ (KeepBut.blk hk (g':=ai) (o:=.cells #[.slice none 0 0,.slice none 0 0] 27 (0,0)) (by refine rb_ ?_;refine blk_far ?_ aP.out _;refine rb_ ?_;refine blk_far ?_ aP.out _;refine rb_ ?_;exact aa.out) aR.out (by simp));have n1_:=am_ (KeepBut.blk hk (g':=aj) (o:=.cells #[.slice none 0 0,.slice none 0 0] 27 (0,0)) (by refine rb_ ?_;refine blk_far ?_ aQ.out _;refine rb_ ?_;refine blk_far ?_ aQ.out _;refine rb_ ?_;exact ae.out) aS.out (by simp));have n2_:=am_ (Kd.R_mono (Kd.R_told (Kd.R_oldK (IsS125.apart (show IsS125 w _ g694 aq bo bp from by exact zp49_1_ HI694.out ab.out ad.out af.out) (rr_ (Kd.R_mono (Kd.R_far (p:=⟨ao,1,none⟩) (Kd.R_far (p:=⟨ao,0,none⟩) (Kd.R_types am.out ah.out (by decide)) (fun _ hk=>hk.2) (.slice aV aw.length aW)) (fun _ hk=>hk.2) (.slice aZ ax.length ba)) (fun _ h_=>h_.1))) (by decide)) hk) (Kd.R_base ho0)) (fun _ h_=>h_.1));have n3_:=am_ (Kd.S_mono (Kd.S_told (Kd.S_oldK (IsS125.apartS (show IsS125 w _ g694 aq bo bp from by exact zp49_1_ HI694.out ab.out ad.out af.out) (rs_ (Kd.S_mono (Kd.S_far (p:=⟨ao,1,none⟩) (Kd.S_far (p:=⟨ao,0,none⟩) (Kd.S_types an.out ah.out (by decide)) (fun _ hk=>hk.2) (.slice aV aw.length aW)) (fun _ hk=>hk.2) (.slice aZ ax.length ba)) (fun _ h_=>h_.1))) (by decide)) hk) (Kd.S_base ho1)) (fun _ h_=>h_.1));have n4_:=am_ (KeepBut.blk hk (g':=ao) (o:=.cells #[.slice aV aw.length aW,.slice aZ ax.length ba] 27 (0,0)) (by refine rb_ ?_;refine blk_put (cs:=#[.slice aV aw.length aW,.slice none 0 0]) ?_ 1 _ rfl;refine rb_ ?_;refine blk_put (cs:=#[.slice none 0 0,.slice none 0 0]) ?_ 0 _ rfl;refine rb_ ?_;exact ah.out) aT.out (by simp));have n5_:=am_ (Kd.R_lower (Kd.R_new' ho0 (Kd.R_lt (rr_ (Kd.R_mono (Kd.R_far (p:=⟨ao,1,none⟩) (Kd.R_far (p:=⟨ao,0,none⟩) (Kd.R_types am.out ah.out (by decide)) (fun _ hk=>hk.2) (.slice aV aw.length aW)) (fun _ hk=>hk.2) (.slice aZ ax.length ba)) (fun _ h_=>h_.1))))) (below_size (b4_ HB.out (IsS125.ge HI694.out) ap.out ar.out aE.out)));have n6_:=am_ (Kd.S_lower (Kd.S_new' ho1 (Kd.S_lt (rs_ (Kd.S_mono (Kd.S_far (p:=⟨ao,1,none⟩) (Kd.S_far (p:=⟨ao,0,none⟩) (Kd.S_types an.out ah.out (by decide)) (fun _ hk=>hk.2) (.slice aV aw.length aW)) (fun _ hk=>hk.2) (.slice aZ ax.length ba)) (fun _ h_=>h_.1))))) (below_size (b4_ HB.out (IsS125.ge HI694.out) ap.out ar.out aE.out)));have n7_:=am_ (hb);have n8_:=am_ (hi);clear aa;clear ae;clear am;clear an;clear ah;clear HB;clear HI694;have aa:=n0_;have ae:=n1_;have am:=n2_;have an:=n3_;have ah:=n4_;have au:=n5_;have av:=n6_;have HB:=n7_;have HI694:=n8_;clear n0_ n1_ n2_ n3_ n4_ n5_ n6_ n7_ n8_;(try clear hb);(try clear hb2);(try clear hk);(try clear hi);(try clear ho0);(try clear ho1)) | ((with_reducible refine gate_dst (N:=7) rfl ?_);refine box_event ?hg (N:=7) ?hd (cs:=#[.slice none 0 0,.slice none 0 0]) (t:=27) ?hr ?_;(case hd=>rfl);(case hg=>rfl);(case hr=>first | (go_simp;done) | (go_simp;rfl));intro ag hg w21 hbox hb;have n0_:=am_ (Kd.R_below (rr_ am.out) hb);have n1_:=am_ (Kd.S_below (rs_ an.out) hb);have n2_:=am_ (Kd.R_below (rr_ au.out) hb);have n3_:=am_ (Kd.S_below (rs_ av.out) hb);have n4_:=am_ (blk_below (rb_ aa.out) hb);have n5_:=am_ (blk_below (rb_ ae.out) hb);have n6_:=am_ (IsS125.below (zp49_1_ HI694.out ab.out ad.out af.out) hb);have n7_:=am_ (blk_below (rb_ ah.out) hb);have n8_:=am_ (below_step (b4_ HB.out (IsS125.ge HI694.out) ap.out ar.out aE.out) hb);have n9_:=am_ (hbox);have n10_:=am_ ((by rw [hg];exact (below_size (b4_ HB.out (IsS125.ge HI694.out) ap.out ar.out aE.out)):w.heap.size≤ag));have n11_:=am_ ((by rw [hg];exact (below_size (b4_ HB.out (IsS125.ge HI694.out) ap.out ar.out aE.out)):w.heap.size≤ag));have n12_:=am_ ((by rw [hg];exact Nat.ne_of_lt (blk_lt (rb_ aa.out)):ai ≠ ag));have n13_:=am_ ((by rw [hg];exact Nat.ne_of_gt (blk_lt (rb_ aa.out)):ag ≠ ai));have n14_:=am_ ((by rw [hg];exact Nat.ne_of_lt (blk_lt (rb_ ae.out)):aj ≠ ag));have n15_:=am_ ((by rw [hg];exact Nat.ne_of_gt (blk_lt (rb_ ae.out)):ag ≠ aj));have n16_:=am_ ((by rw [hg];exact Nat.ne_of_lt (blk_lt (rb_ ah.out)):ao ≠ ag));have n17_:=am_ ((by rw [hg];exact Nat.ne_of_gt (blk_lt (rb_ ah.out)):ag ≠ ao));have n18_:=am_ ((by rw [hg];exact Nat.ne_of_lt (IsS125.lt (show IsS125 w _ g694 aq bb bc from by exact zp49_1_ HI694.out ab.out ad.out af.out)):g694 ≠ ag));have n19_:=am_ ((by rw [hg];exact Nat.ne_of_gt (IsS125.lt (show IsS125 w _ g694 aq bb bc from by exact zp49_1_ HI694.out ab.out ad.out af.out)):ag ≠ g694));clear am;clear an;clear au;clear av;clear aa;clear ae;clear HI694;clear ah;clear HB;have am:=n0_;have an:=n1_;have au:=n2_;have av:=n3_;have aa:=n4_;have ae:=n5_;have HI694:=n6_;have ah:=n7_;have HB:=n8_;have ak:=n9_;have bQ:=n10_;have aY:=n11_;have aK:=n12_;have aB:=n13_;have aL:=n14_;have aC:=n15_;have aU:=n16_;have bz:=n17_;have al:=n18_;have aX:=n19_;clear n0_ n1_ n2_ n3_ n4_ n5_ n6_ n7_ n8_ n9_ n10_ n11_ n12_ n13_ n14_ n15_ n16_ n17_ n18_ n19_;clear hb hbox hg;obtain ⟨bq,br,ca⟩:=Kd.R_slice au.out;subst ca;have cP:=aB.out;have cQ:=aK.out;have cR:=aC.out;have cS:=aL.out;have cT:=bz.out;have cU:=aU.out;have cV:=aX.out;have cW:=al.out;have ct:=ck_ (v:=(.slice none 0 0)) ak 0 rfl;have cu:=ck_ (v:=(.slice none 0 0)) ak 1 rfl;have cv:=blk_frozen ak.out 0;have cw:=blk_frozen ak.out 1;obtain ⟨bs,bt,cb⟩:=Kd.S_slice av.out;subst cb) | ((with_reducible refine gate_callee (f:=87) rfl ?_);refine gL_ (some 15) Try.func87 #[.pointer (some ⟨g694,0,none⟩),.int .i64 12] ?_;(with_reducible refine (spec_l1Once.calls g694 aq bb bc 12 true bd be w _ ?side1 ?side2 A5.out).mono ?_);(case side1=>exact zp49_2_ HI694.out ab.out ad.out af.out al.out);(case side2=>exact zp49_3_ HB.out (IsS125.ge HI694.out) ap.out ar.out aE.out aY.out);rintro e w29 ⟨rfl,hi,hb,hk⟩;refine ⟨_,rfl,?_⟩;have n0_:=am_ (KeepBut.blk hk (g':=ai) (o:=.cells #[.slice none 0 0,.slice none 0 0] 27 (0,0)) (by refine rb_ ?_;refine blk_far ?_ aK.out _;refine rb_ ?_;refine blk_far ?_ aK.out _;refine rb_ ?_;exact aa.out) aR.out (by simp));have n1_:=am_ (KeepBut.blk hk (g':=aj) (o:=.cells #[.slice none 0 0,.slice none 0 0] 27 (0,0)) (by refine rb_ ?_;refine blk_far ?_ aL.out _;refine rb_ ?_;refine blk_far ?_ aL.out _;refine rb_ ?_;exact ae.out) aS.out (by simp));have n2_:=am_ (Kd.R_mono (Kd.R_keep (IsS125.apart (show IsS125 w _ g694 aq bb bc from by exact zp49_2_ HI694.out ab.out ad.out af.out al.out) (rr_ (Kd.R_mono (Kd.R_far (p:=⟨ag,1,none⟩) (Kd.R_far (p:=⟨ag,0,none⟩) (Kd.R_types am.out ak.out (by decide)) (fun _ hk=>hk.2) (.slice bq aF.length br)) (fun _ hk=>hk.2) (.slice bs aM.length bt)) (fun _ h_=>h_.1))) (by decide)) hk (fun _ h=>h.2)) (fun _ h=>h.1));have n3_:=am_ (Kd.S_mono (Kd.S_keep (IsS125.apartS (show IsS125 w _ g694 aq bb bc from by exact zp49_2_ HI694.out ab.out ad.out af.out al.out) (rs_ (Kd.S_mono (Kd.S_far (p:=⟨ag,1,none⟩) (Kd.S_far (p:=⟨ag,0,none⟩) (Kd.S_types an.out ak.out (by decide)) (fun _ hk=>hk.2) (.slice bq aF.length br)) (fun _ hk=>hk.2) (.slice bs aM.length bt)) (fun _ h_=>h_.1))) (by decide)) hk (fun _ h=>h.2)) (fun _ h=>h.1));have n4_:=am_ (KeepBut.blk hk (g':=ao) (o:=.cells #[.slice aV aw.length aW,.slice aZ ax.length ba] 27 (0,0)) (by refine rb_ ?_;refine blk_far ?_ aU.out _;refine rb_ ?_;refine blk_far ?_ aU.out _;refine rb_ ?_;exact ah.out) aT.out (by simp));have n5_:=am_ (Kd.R_mono (Kd.R_keep (IsS125.apart (show IsS125 w _ g694 aq bb bc from by exact zp49_2_ HI694.out ab.out ad.out af.out al.out) (rr_ (Kd.R_mono (Kd.R_far (p:=⟨ag,1,none⟩) (Kd.R_far (p:=⟨ag,0,none⟩) (Kd.R_types au.out ak.out (by decide)) (fun _ hk=>hk.2) (.slice bq aF.length br)) (fun _ hk=>hk.2) (.slice bs aM.length bt)) (fun _ h_=>h_.1))) (by decide)) hk (fun _ h=>h.2)) (fun _ h=>h.1));have n6_:=am_ (Kd.S_mono (Kd.S_keep (IsS125.apartS (show IsS125 w _ g694 aq bb bc from by exact zp49_2_ HI694.out ab.out ad.out af.out al.out) (rs_ (Kd.S_mono (Kd.S_far (p:=⟨ag,1,none⟩) (Kd.S_far (p:=⟨ag,0,none⟩) (Kd.S_types av.out ak.out (by decide)) (fun _ hk=>hk.2) (.slice bq aF.length br)) (fun _ hk=>hk.2) (.slice bs aM.length bt)) (fun _ h_=>h_.1))) (by decide)) hk (fun _ h=>h.2)) (fun _ h=>h.1));have n7_:=am_ (KeepBut.blk hk (g':=ag) (o:=.cells #[.slice bq aF.length br,.slice bs aM.length bt] 27 (0,0)) (by refine rb_ ?_;refine blk_put (cs:=#[.slice bq aF.length br,.slice none 0 0]) ?_ 1 _ rfl;refine rb_ ?_;refine blk_put (cs:=#[.slice none 0 0,.slice none 0 0]) ?_ 0 _ rfl;refine rb_ ?_;exact ak.out) aX.out (by simp));have n8_:=am_ (hb);have n9_:=am_ (hi);clear aa;clear ae;clear am;clear an;clear ah;clear au;clear av;clear ak;clear HB;clear HI694;have aa:=n0_;have ae:=n1_;have am:=n2_;have an:=n3_;have ah:=n4_;have au:=n5_;have av:=n6_;have ak:=n7_;have HB:=n8_;have HI694:=n9_;clear n0_ n1_ n2_ n3_ n4_ n5_ n6_ n7_ n8_ n9_;(try clear hb);(try clear hb2);(try clear hk);(try clear hi)) | ((with_reducible refine gate_callee (f:=88) rfl ?_);refine gL_ (some 17) Try.func88 #[.pointer (some ⟨g694,0,none⟩)] ?_;(with_reducible refine (spec_l5Bent.calls k g694 aq bd be ay aD bw bx w _ ?side1 ?side2 A7.out).mono ?_);(case side1=>exact zp49_2_ HI694.out ab.out ad.out af.out al.out);(case side2=>exact zp49_3_ HB.out (IsS125.ge HI694.out) ap.out ar.out aE.out aY.out);rintro e w30 ⟨dl,dm,rfl,ho0,ho1,hi,hb,hk⟩;refine ⟨_,rfl,?_⟩;have n0_:=am_ (KeepBut.blk hk (g':=ai) (o:=.cells #[.slice none 0 0,.slice none 0 0] 27 (0,0)) (rb_ aa.out) aR.out (by simp));have n1_:=am_ (KeepBut.blk hk (g':=aj) (o:=.cells #[.slice none 0 0,.slice none 0 0] 27 (0,0)) (rb_ ae.out) aS.out (by simp));have n2_:=am_ (Kd.R_mono (Kd.R_told (Kd.R_oldK (IsS125.apart (show IsS125 w _ g694 aq bd be from by exact zp49_2_ HI694.out ab.out ad.out af.out al.out) (rr_ am.out) (by decide)) hk) (Kd.R_base ho0)) (fun _ h_=>h_.1));have n3_:=am_ (Kd.S_mono (Kd.S_told (Kd.S_oldK (IsS125.apartS (show IsS125 w _ g694 aq bd be from by exact zp49_2_ HI694.out ab.out ad.out af.out al.out) (rs_ an.out) (by decide)) hk) (Kd.S_base ho1)) (fun _ h_=>h_.1));have n4_:=am_ (KeepBut.blk hk (g':=ao) (o:=.cells #[.slice aV aw.length aW,.slice aZ ax.length ba] 27 (0,0)) (rb_ ah.out) aT.out (by simp));have n5_:=am_ (Kd.R_mono (Kd.R_told (Kd.R_oldK (IsS125.apart (show IsS125 w _ g694 aq bd be from by exact zp49_2_ HI694.out ab.out ad.out af.out al.out) (rr_ au.out) (by decide)) hk) (Kd.R_base ho0)) (fun _ h_=>h_.1));have n6_:=am_ (Kd.S_mono (Kd.S_told (Kd.S_oldK (IsS125.apartS (show IsS125 w _ g694 aq bd be from by exact zp49_2_ HI694.out ab.out ad.out af.out al.out) (rs_ av.out) (by decide)) hk) (Kd.S_base ho1)) (fun _ h_=>h_.1));have n7_:=am_ (KeepBut.blk hk (g':=ag) (o:=.cells #[.slice bq aF.length br,.slice bs aM.length bt] 27 (0,0)) (rb_ ak.out) aX.out (by simp));have n8_:=am_ (Kd.R_lower (Kd.R_new' (Kd.R_new' ho0 (Kd.R_lt (rr_ am.out))) (Kd.R_lt (rr_ au.out))) (below_size (zp49_3_ HB.out (IsS125.ge HI694.out) ap.out ar.out aE.out aY.out)));have n9_:=am_ (Kd.S_lower (Kd.S_new' (Kd.S_new' ho1 (Kd.S_lt (rs_ an.out))) (Kd.S_lt (rs_ av.out))) (below_size (zp49_3_ HB.out (IsS125.ge HI694.out) ap.out ar.out aE.out aY.out)));have n10_:=am_ (hb);have n11_:=am_ (hi);clear aa;clear ae;clear am;clear an;clear ah;clear au;clear av;clear ak;clear HB;clear HI694;have aa:=n0_;have ae:=n1_;have am:=n2_;have an:=n3_;have ah:=n4_;have au:=n5_;have av:=n6_;have ak:=n7_;have bf:=n8_;have bg:=n9_;have HB:=n10_;have HI694:=n11_;clear n0_ n1_ n2_ n3_ n4_ n5_ n6_ n7_ n8_ n9_ n10_ n11_;(try clear hb);(try clear hb2);(try clear hk);(try clear hi);(try clear ho0);(try clear ho1);obtain ⟨aG,aH,cc⟩:=Kd.R_slice bf.out;subst cc;have cx:=ck_ (v:=(.slice bq aF.length br)) ak 0 rfl;have cy:=ck_ (v:=(.slice bs aM.length bt)) ak 1 rfl;have cz:=blk_frozen ak.out 0;have cA:=blk_frozen ak.out 1;obtain ⟨aN,aO,cd⟩:=Kd.S_slice bg.out;subst cd))
  have n0_:Aside0 (Kd.R Kd.bool 4 ((w30.setCell ⟨ag,0,none⟩ (.slice aG ay.length aH)).setCell ⟨ag,1,none⟩ (.slice aN aD.length aO)) w.heap.size (fun k_=>some k_ ≠ (.slice bq aF.length br:Value).ownBlock∧some k_ ≠ (.slice aG ay.length aH:Value).ownBlock) (.slice aV aw.length aW) aw):=⟨by refine rr_ ?_;exact Kd.R_mono (Kd.R_far (p:=⟨ag,1,none⟩) (Kd.R_far (p:=⟨ag,0,none⟩) (Kd.R_types am.out ak.out (by decide)) (fun _ hk=>hk.2) (.slice aG ay.length aH)) (fun _ hk=>hk.2) (.slice aN aD.length aO)) (fun _ hk=>⟨hk.1.1.2,hk.1.2⟩)⟩
  have n1_:Aside0 (Kd.S (Kd.slice 3 (Kd.int .i64)) 67 ((w30.setCell ⟨ag,0,none⟩ (.slice aG ay.length aH)).setCell ⟨ag,1,none⟩ (.slice aN aD.length aO)) w.heap.size (fun k_=>some k_ ≠ (.slice bs aM.length bt:Value).ownBlock∧some k_ ≠ (.slice aN aD.length aO:Value).ownBlock) (.slice aZ ax.length ba) ax):=⟨by refine rs_ ?_;exact Kd.S_mono (Kd.S_far (p:=⟨ag,1,none⟩) (Kd.S_far (p:=⟨ag,0,none⟩) (Kd.S_types an.out ak.out (by decide)) (fun _ hk=>hk.2) (.slice aG ay.length aH)) (fun _ hk=>hk.2) (.slice aN aD.length aO)) (fun _ hk=>⟨hk.1.1.2,hk.1.2⟩)⟩
  have n2_:Aside0 (Kd.R Kd.bool 4 ((w30.setCell ⟨ag,0,none⟩ (.slice aG ay.length aH)).setCell ⟨ag,1,none⟩ (.slice aN aD.length aO)) w.heap.size (fun k_=>some k_ ≠ (.slice aV aw.length aW:Value).ownBlock∧some k_ ≠ (.slice aG ay.length aH:Value).ownBlock) (.slice bq aF.length br) aF):=⟨by refine rr_ ?_;exact Kd.R_mono (Kd.R_far (p:=⟨ag,1,none⟩) (Kd.R_far (p:=⟨ag,0,none⟩) (Kd.R_types au.out ak.out (by decide)) (fun _ hk=>hk.2) (.slice aG ay.length aH)) (fun _ hk=>hk.2) (.slice aN aD.length aO)) (fun _ hk=>⟨hk.1.1.2,hk.1.2⟩)⟩
  have n3_:Aside0 (Kd.S (Kd.slice 3 (Kd.int .i64)) 67 ((w30.setCell ⟨ag,0,none⟩ (.slice aG ay.length aH)).setCell ⟨ag,1,none⟩ (.slice aN aD.length aO)) w.heap.size (fun k_=>some k_ ≠ (.slice aZ ax.length ba:Value).ownBlock∧some k_ ≠ (.slice aN aD.length aO:Value).ownBlock) (.slice bs aM.length bt) aM):=⟨by refine rs_ ?_;exact Kd.S_mono (Kd.S_far (p:=⟨ag,1,none⟩) (Kd.S_far (p:=⟨ag,0,none⟩) (Kd.S_types av.out ak.out (by decide)) (fun _ hk=>hk.2) (.slice aG ay.length aH)) (fun _ hk=>hk.2) (.slice aN aD.length aO)) (fun _ hk=>⟨hk.1.1.2,hk.1.2⟩)⟩
  have n4_:Aside0 (Kd.R Kd.bool 4 ((w30.setCell ⟨ag,0,none⟩ (.slice aG ay.length aH)).setCell ⟨ag,1,none⟩ (.slice aN aD.length aO)) w.heap.size (fun k_=>some k_ ≠ (.slice aV aw.length aW:Value).ownBlock∧some k_ ≠ (.slice bq aF.length br:Value).ownBlock) (.slice aG ay.length aH) ay):=⟨by refine rr_ ?_;exact Kd.R_mono (Kd.R_far (p:=⟨ag,1,none⟩) (Kd.R_far (p:=⟨ag,0,none⟩) (Kd.R_types bf.out ak.out (by decide)) (fun _ hk=>hk.2) (.slice aG ay.length aH)) (fun _ hk=>hk.2) (.slice aN aD.length aO)) (fun _ hk=>⟨hk.1.1.2,hk.1.2⟩)⟩
  have n5_:Aside0 (Kd.S (Kd.slice 3 (Kd.int .i64)) 67 ((w30.setCell ⟨ag,0,none⟩ (.slice aG ay.length aH)).setCell ⟨ag,1,none⟩ (.slice aN aD.length aO)) w.heap.size (fun k_=>some k_ ≠ (.slice aZ ax.length ba:Value).ownBlock∧some k_ ≠ (.slice bs aM.length bt:Value).ownBlock) (.slice aN aD.length aO) aD):=⟨by refine rs_ ?_;exact Kd.S_mono (Kd.S_far (p:=⟨ag,1,none⟩) (Kd.S_far (p:=⟨ag,0,none⟩) (Kd.S_types bg.out ak.out (by decide)) (fun _ hk=>hk.2) (.slice aG ay.length aH)) (fun _ hk=>hk.2) (.slice aN aD.length aO)) (fun _ hk=>⟨hk.1.1.2,hk.1.2⟩)⟩
  have n6_:Aside0 (((w30.setCell ⟨ag,0,none⟩ (.slice aG ay.length aH)).setCell ⟨ag,1,none⟩ (.slice aN aD.length aO)).heap[ai]? = some (.cells #[.slice none 0 0,.slice none 0 0] 27 (0,0))):=⟨by refine rb_ ?_;refine blk_far ?_ aK.out _;refine rb_ ?_;refine blk_far ?_ aK.out _;refine rb_ ?_;exact aa.out⟩
  have n7_:Aside0 (((w30.setCell ⟨ag,0,none⟩ (.slice aG ay.length aH)).setCell ⟨ag,1,none⟩ (.slice aN aD.length aO)).heap[aj]? = some (.cells #[.slice none 0 0,.slice none 0 0] 27 (0,0))):=⟨by refine rb_ ?_;refine blk_far ?_ aL.out _;refine rb_ ?_;refine blk_far ?_ aL.out _;refine rb_ ?_;exact ae.out⟩
  have n8_:Aside0 (((w30.setCell ⟨ag,0,none⟩ (.slice aG ay.length aH)).setCell ⟨ag,1,none⟩ (.slice aN aD.length aO)).heap[ao]? = some (.cells #[.slice aV aw.length aW,.slice aZ ax.length ba] 27 (0,0))):=⟨by refine rb_ ?_;refine blk_far ?_ aU.out _;refine rb_ ?_;refine blk_far ?_ aU.out _;refine rb_ ?_;exact ah.out⟩
  have n9_:Aside0 (((w30.setCell ⟨ag,0,none⟩ (.slice aG ay.length aH)).setCell ⟨ag,1,none⟩ (.slice aN aD.length aO)).heap[ag]? = some (.cells #[.slice aG ay.length aH,.slice aN aD.length aO] 27 (0,0))):=⟨by refine rb_ ?_;refine blk_put (cs:=#[.slice aG ay.length aH,.slice bs aM.length bt]) ?_ 1 _ rfl;refine rb_ ?_;refine blk_put (cs:=#[.slice bq aF.length br,.slice bs aM.length bt]) ?_ 0 _ rfl;refine rb_ ?_;exact ak.out⟩
  have n10_:Aside0 (IsS125 w ((w30.setCell ⟨ag,0,none⟩ (.slice aG ay.length aH)).setCell ⟨ag,1,none⟩ (.slice aN aD.length aO)) g694 aq bw bx):=⟨by exact zp49_2_ HI694.out ab.out ad.out af.out al.out⟩
  have n11_:Aside0 (Below w.heap.size w ((w30.setCell ⟨ag,0,none⟩ (.slice aG ay.length aH)).setCell ⟨ag,1,none⟩ (.slice aN aD.length aO))):=⟨by exact zp49_3_ HB.out (IsS125.ge HI694.out) ap.out ar.out aE.out aY.out⟩
  (try clear am)
  (try clear an)
  (try clear au)
  (try clear av)
  (try clear bf)
  (try clear bg)
  (try clear aa)
  (try clear ae)
  (try clear ah)
  (try clear ak)
  (try clear HI694)
  (try clear HB)
  generalize ((w30.setCell ⟨ag,0,none⟩ (.slice aG ay.length aH)).setCell ⟨ag,1,none⟩ (.slice aN aD.length aO))=w34 at n0_ n1_ n2_ n3_ n4_ n5_ n6_ n7_ n8_ n9_ n10_ n11_ ⊢
  have am:=n0_;have an:=n1_;have au:=n2_;have av:=n3_;have bf:=n4_;have bg:=n5_;have aa:=n6_;have ae:=n7_;have ah:=n8_;have ak:=n9_;have HI694:=n10_;have HB:=n11_
  clear n0_ n1_ n2_ n3_ n4_ n5_ n6_ n7_ n8_ n9_ n10_ n11_
  replace am:=am_ (Kd.R_drew am.out)
  replace an:=am_ (Kd.S_drew an.out)
  replace au:=am_ (Kd.R_drew au.out)
  replace av:=am_ (Kd.S_drew av.out)
  replace bf:=am_ (Kd.R_drew bf.out)
  replace bg:=am_ (Kd.S_drew bg.out)
  replace aa:=am_ (blk_drew aa.out)
  replace ae:=am_ (blk_drew ae.out)
  replace ah:=am_ (blk_drew ah.out)
  replace ak:=am_ (blk_drew ak.out)
  replace HI694:=am_ (IsS125.drew HI694.out)
  replace HB:=am_ (below_drew1 HB.out)
  refine start_ (n:=8) (S:=fun w'=>w'.cell? ⟨ao,0,none⟩=some (.slice aV aw.length aW)∧w'.cell? ⟨ao,1,none⟩=some (.slice aZ ax.length ba)∧w'.cell? ⟨ag,0,none⟩=some (.slice aG ay.length aH)∧w'.cell? ⟨ag,1,none⟩=some (.slice aN aD.length aO)) (ds:=[]) (bl 8 0) (by kernel_rfl) rfl rfl ⟨(blk_cell ah.out 0).trans rfl,(blk_cell ah.out 1).trans rfl,(blk_cell ak.out 0).trans rfl,(blk_cell ak.out 1).trans rfl⟩ (fun hHeld=>?_);refine with_tabW spec_DrawProductDfa.tab6 spec_DrawProductDfa.bits6 (fun HT_ HW_=>?_)
  generalize w34.drew=w35 at am an au av bf bg aa ae ah ak HI694 HB hHeld ⊢
  refine pu_ 2 20 (bl 8 4) HT_ ?_
  refine tk_ 0 18 (bl 8 5) HT_ HW_ hHeld ?_
  refine tk_ 1 19 (bl 8 7) HT_ HW_ hHeld ?_
  refine on_ 3 (some 21) (bl 8 15) HT_ (fun K hK=>?_)
  refine Kd.R_lit_step (Kd.int .i64) _ 3 ?hg (N:=21) ?hd (xs:=([6,7,6,7,9]:List Int)) (inner:=[.int .i64 6,.int .i64 7,.int .i64 6,.int .i64 7,.int .i64 9]) (ok:=fun _=>True) (okp:=fun _=>True) ?hr ?hp (fun _ hk=>hk) trivial (Below.refl _ _) (Nat.le_refl _) (by simp) ?_;(case hd=>rfl);(case hg=>rfl);(case hr=>first | (go_simp;done) | (go_simp;rfl));(case hp=>exact (Reps.one (show Kd.M (Kd.int .i64) _ _ _ 6 [.int .i64 6] from rfl) (Reps.one (show Kd.M (Kd.int .i64) _ _ _ 7 [.int .i64 7] from rfl) (Reps.one (show Kd.M (Kd.int .i64) _ _ _ 6 [.int .i64 6] from rfl) (Reps.one (show Kd.M (Kd.int .i64) _ _ _ 7 [.int .i64 7] from rfl) (Reps.one (show Kd.M (Kd.int .i64) _ _ _ 9 [.int .i64 9] from rfl) (Reps.none _ _)))))))
  intro dn w36 ho37 hb hg_ hnew_
  clear hg_ hnew_
  (first | rw [← bG.out] at ho37 | (simp only [Int.reduceToNat] at ho37;rw [← bG.out] at ho37))
  replace am:=am_ (Kd.R_below (rr_ am.out) hb)
  replace an:=am_ (Kd.S_elder' (rs_ an.out) (Kd.R_base ho37) hb)
  replace au:=am_ (Kd.R_below (rr_ au.out) hb)
  replace av:=am_ (Kd.S_elder' (rs_ av.out) (Kd.R_base ho37) hb)
  replace bf:=am_ (Kd.R_below (rr_ bf.out) hb)
  replace bg:=am_ (Kd.S_elder' (rs_ bg.out) (Kd.R_base ho37) hb)
  replace bA:=am_ (Kd.R_lower ho37 (below_size (zp49_3_ HB.out (IsS125.ge HI694.out) ap.out ar.out aE.out aY.out)))
  replace aa:=am_ (blk_below (rb_ aa.out) hb)
  replace ae:=am_ (blk_below (rb_ ae.out) hb)
  replace ah:=am_ (blk_below (rb_ ah.out) hb)
  replace ak:=am_ (blk_below (rb_ ak.out) hb)
  replace HB:=am_ (below_step (zp49_3_ HB.out (IsS125.ge HI694.out) ap.out ar.out aE.out aY.out) hb)
  replace HI694:=am_ (IsS125.below (zp49_2_ HI694.out ab.out ad.out af.out al.out) hb)
  clear hb ho37
  obtain ⟨ce,cf,bJ⟩:=Kd.R_slice bA.out
  (first | subst bJ | (injection bJ with f1_ f2_ f3_;have f4_:=f1_.symm;have f5_:=f3_.symm;clear f1_ f2_ f3_;subst f4_;subst f5_))
  refine hK.out _ _ ⟨(blk_cell ah.out 0).trans rfl,(blk_cell ah.out 1).trans rfl,(blk_cell ak.out 0).trans rfl,(blk_cell ak.out 1).trans rfl⟩ (fun hHeld=>?_)
  clear hK K
  refine norm_ (a':=?_) ?_ ?_
  rotate_left
  ·show Act.put _ (some 21) _=_
   simp only [pn_,sz_,ss_,i64_w,i32_w]
   rfl
  refine on_ 4 (some 22) (bl 8 31) HT_ (fun K hK=>?_)
  refine gO_ Try.func100 #[.pointer (some ⟨g694,0,none⟩),.slice ce bE.length cf] ?_
  with_reducible refine (spec_l1PickInt.calls g694 aq bw bx _ _ bE bI bS bT w _ ?side1 ?side2 ?side3 ?side4 ?side5 A8.out).mono ?_
  (case side1=>exact zp49_2_ HI694.out ab.out ad.out af.out al.out)
  (case side2=>exact zp49_3_ HB.out (IsS125.ge HI694.out) ap.out ar.out aE.out aY.out)
  (case side3=>exact rc_ ((Kd.R_reads' bA.out).2.2))
  (case side4=>exact (Kd.R_reads' bA.out).2.1)
  (case side5=>exact far_slice (IsS125.own_ne HI694.out bA.out (by decide)))
  rintro e w39 ⟨rfl,hi,hb,hk⟩
  refine ⟨_,rfl,?_⟩
  replace aa:=am_ (KeepBut.blk hk (g':=ai) (o:=.cells #[.slice none 0 0,.slice none 0 0] 27 (0,0)) (rb_ aa.out) aR.out (by simp))
  replace ae:=am_ (KeepBut.blk hk (g':=aj) (o:=.cells #[.slice none 0 0,.slice none 0 0] 27 (0,0)) (rb_ ae.out) aS.out (by simp))
  replace am:=am_ (Kd.R_mono (Kd.R_keep (IsS125.apart (show IsS125 w _ g694 aq bw bx from by exact zp49_2_ HI694.out ab.out ad.out af.out al.out) (rr_ am.out) (by decide)) hk (fun _ h=>h.2)) (fun _ h=>h.1))
  replace an:=am_ (Kd.S_mono (Kd.S_keep (IsS125.apartS (show IsS125 w _ g694 aq bw bx from by exact zp49_2_ HI694.out ab.out ad.out af.out al.out) (rs_ an.out) (by decide)) hk (fun _ h=>h.2)) (fun _ h=>h.1))
  replace ah:=am_ (KeepBut.blk hk (g':=ao) (o:=.cells #[.slice aV aw.length aW,.slice aZ ax.length ba] 27 (0,0)) (rb_ ah.out) aT.out (by simp))
  replace au:=am_ (Kd.R_mono (Kd.R_keep (IsS125.apart (show IsS125 w _ g694 aq bw bx from by exact zp49_2_ HI694.out ab.out ad.out af.out al.out) (rr_ au.out) (by decide)) hk (fun _ h=>h.2)) (fun _ h=>h.1))
  replace av:=am_ (Kd.S_mono (Kd.S_keep (IsS125.apartS (show IsS125 w _ g694 aq bw bx from by exact zp49_2_ HI694.out ab.out ad.out af.out al.out) (rs_ av.out) (by decide)) hk (fun _ h=>h.2)) (fun _ h=>h.1))
  replace ak:=am_ (KeepBut.blk hk (g':=ag) (o:=.cells #[.slice aG ay.length aH,.slice aN aD.length aO] 27 (0,0)) (rb_ ak.out) aX.out (by simp))
  replace bf:=am_ (Kd.R_mono (Kd.R_keep (IsS125.apart (show IsS125 w _ g694 aq bw bx from by exact zp49_2_ HI694.out ab.out ad.out af.out al.out) (rr_ bf.out) (by decide)) hk (fun _ h=>h.2)) (fun _ h=>h.1))
  replace bg:=am_ (Kd.S_mono (Kd.S_keep (IsS125.apartS (show IsS125 w _ g694 aq bw bx from by exact zp49_2_ HI694.out ab.out ad.out af.out al.out) (rs_ bg.out) (by decide)) hk (fun _ h=>h.2)) (fun _ h=>h.1))
  replace bA:=am_ (Kd.R_mono (Kd.R_keep (IsS125.apart (show IsS125 w _ g694 aq bw bx from by exact zp49_2_ HI694.out ab.out ad.out af.out al.out) (rr_ bA.out) (by decide)) hk (fun _ h=>h.2)) (fun _ h=>h.1))
  replace HB:=am_ (hb)
  replace HI694:=am_ (hi)
  (try clear hb)
  (try clear hb2)
  (try clear hk)
  (try clear hi)
  refine hK.out _ _ ⟨(blk_cell ah.out 0).trans rfl,(blk_cell ah.out 1).trans rfl,(blk_cell ak.out 0).trans rfl,(blk_cell ak.out 1).trans rfl⟩ (fun hHeld=>?_)
  clear hK K
  refine norm_ (a':=?_) ?_ ?_
  rotate_left
  ·show Act.put _ (some 22) _=_
   simp only [pn_,sz_,ss_,i64_w,i32_w]
   rfl
  refine on_ 5 none (bl 8 63) HT_ (fun K hK=>?_)
  have hs40:w39.cell? ⟨ai,0,none⟩=some (.slice none 0 0):=(blk_cell aa.out 0).trans rfl
  have hfs40:=blk_frozen aa.out 0
  have hns40_1:=aJ.out
  have hns40_2:=az.out
  have hns40_3:=aB.out
  have hms40_1:=aI.out
  have hms40_2:=aP.out
  have hms40_3:=aK.out
  have hs41:w39.cell? ⟨ai,1,none⟩=some (.slice none 0 0):=(blk_cell aa.out 1).trans rfl
  have hfs41:=blk_frozen aa.out 1
  have hns41_1:=aJ.out
  have hns41_2:=az.out
  have hns41_3:=aB.out
  have hms41_1:=aI.out
  have hms41_2:=aP.out
  have hms41_3:=aK.out
  refine skip_ (w1:=?_) (by rfl) rfl ?_ ?_
  rotate_left
  ·go_simp
   rfl
  refine hK.out _ _ ⟨((cell_far (p:=⟨ai,_,none⟩) az.out _).trans (((cell_far (p:=⟨ai,_,none⟩) az.out _).trans (hHeld.1)))),((cell_far (p:=⟨ai,_,none⟩) az.out _).trans (((cell_far (p:=⟨ai,_,none⟩) az.out _).trans (hHeld.2.1)))),((cell_far (p:=⟨ai,_,none⟩) aB.out _).trans (((cell_far (p:=⟨ai,_,none⟩) aB.out _).trans (hHeld.2.2.1)))),((cell_far (p:=⟨ai,_,none⟩) aB.out _).trans (((cell_far (p:=⟨ai,_,none⟩) aB.out _).trans (hHeld.2.2.2))))⟩ (fun hHeld=>?_)
  clear hK K
  refine on_ 6 none (bl 8 127) HT_ (fun K hK=>?_)
  have hs42:w39.cell? ⟨aj,0,none⟩=some (.slice none 0 0):=(blk_cell ae.out 0).trans rfl
  have hfs42:=blk_frozen ae.out 0
  have hns42_0:=aI.out
  have hns42_2:=aA.out
  have hns42_3:=aC.out
  have hms42_0:=aJ.out
  have hms42_2:=aQ.out
  have hms42_3:=aL.out
  have hs43:w39.cell? ⟨aj,1,none⟩=some (.slice none 0 0):=(blk_cell ae.out 1).trans rfl
  have hfs43:=blk_frozen ae.out 1
  have hns43_0:=aI.out
  have hns43_2:=aA.out
  have hns43_3:=aC.out
  have hms43_0:=aJ.out
  have hms43_2:=aQ.out
  have hms43_3:=aL.out
  refine skip_ (w1:=?_) (by rfl) rfl ?_ ?_
  rotate_left
  ·go_simp
   rfl
  refine hK.out _ _ ⟨((cell_far (p:=⟨aj,_,none⟩) aA.out _).trans (((cell_far (p:=⟨aj,_,none⟩) aA.out _).trans (hHeld.1)))),((cell_far (p:=⟨aj,_,none⟩) aA.out _).trans (((cell_far (p:=⟨aj,_,none⟩) aA.out _).trans (hHeld.2.1)))),((cell_far (p:=⟨aj,_,none⟩) aC.out _).trans (((cell_far (p:=⟨aj,_,none⟩) aC.out _).trans (hHeld.2.2.1)))),((cell_far (p:=⟨aj,_,none⟩) aC.out _).trans (((cell_far (p:=⟨aj,_,none⟩) aC.out _).trans (hHeld.2.2.2))))⟩ (fun hHeld=>?_)
  clear hK K
  refine pu_ 7 4 (bl 8 255) HT_ ?_
  refine done_ (done_of HT_.out (by kernel_rfl)) ?_
  try go_wp2
  refine bodyPost_ret (results_list (rs:=[.cell 2 27,.cell 3 27,.tmp 4]) rfl (by simp) (.cell ai 27 #[.slice aV aw.length aW,.slice aZ ax.length ba] (0,0) _ rfl (by refine rb_ ?_;refine blk_far ?_ aI.out _;refine rb_ ?_;refine blk_far ?_ aI.out _;refine rb_ ?_;refine blk_put (cs:=#[.slice aV aw.length aW,.slice none 0 0]) ?_ 1 _ rfl;refine rb_ ?_;refine blk_put (cs:=#[.slice none 0 0,.slice none 0 0]) ?_ 0 _ rfl;refine rb_ ?_;exact aa.out) Try.underlying27 rfl (by kernel_rfl) (.cell aj 27 #[.slice aG ay.length aH,.slice aN aD.length aO] (0,0) _ rfl (by refine rb_ ?_;refine blk_put (cs:=#[.slice aG ay.length aH,.slice none 0 0]) ?_ 1 _ rfl;refine rb_ ?_;refine blk_put (cs:=#[.slice none 0 0,.slice none 0 0]) ?_ 0 _ rfl;refine rb_ ?_;refine blk_far ?_ aJ.out _;refine rb_ ?_;refine blk_far ?_ aJ.out _;refine rb_ ?_;exact ae.out) Try.underlying27 rfl (by kernel_rfl) (.tmp .nil)))) rfl ?_
  exact ⟨_,_,_,_,by first | rfl | (simp [errW_none,errW_some] <;> rfl) | (simp [*,errW_none,errW_some] <;> rfl),by refine rr_ ?_;exact Kd.R_mono (Kd.R_far (p:=⟨aj,1,none⟩) (Kd.R_far (p:=⟨aj,0,none⟩) (Kd.R_far (p:=⟨ai,1,none⟩) (Kd.R_far (p:=⟨ai,0,none⟩) (Kd.R_types (Kd.R_types am.out aa.out (by decide)) ae.out (by decide)) (fun _ hk=>hk.1.2) (.slice aV aw.length aW)) (fun _ hk=>hk.1.2) (.slice aZ ax.length ba)) (fun _ hk=>hk.2) (.slice aG ay.length aH)) (fun _ hk=>hk.2) (.slice aN aD.length aO)) (fun _ hk=>hk.1.1.2),by refine rs_ ?_;exact Kd.S_mono (Kd.S_far (p:=⟨aj,1,none⟩) (Kd.S_far (p:=⟨aj,0,none⟩) (Kd.S_far (p:=⟨ai,1,none⟩) (Kd.S_far (p:=⟨ai,0,none⟩) (Kd.S_types (Kd.S_types an.out aa.out (by decide)) ae.out (by decide)) (fun _ hk=>hk.1.2) (.slice aV aw.length aW)) (fun _ hk=>hk.1.2) (.slice aZ ax.length ba)) (fun _ hk=>hk.2) (.slice aG ay.length aH)) (fun _ hk=>hk.2) (.slice aN aD.length aO)) (fun _ hk=>hk.1.1.1.2),by refine rr_ ?_;exact Kd.R_mono (Kd.R_far (p:=⟨aj,1,none⟩) (Kd.R_far (p:=⟨aj,0,none⟩) (Kd.R_far (p:=⟨ai,1,none⟩) (Kd.R_far (p:=⟨ai,0,none⟩) (Kd.R_types (Kd.R_types bf.out aa.out (by decide)) ae.out (by decide)) (fun _ hk=>hk.1.2) (.slice aV aw.length aW)) (fun _ hk=>hk.1.2) (.slice aZ ax.length ba)) (fun _ hk=>hk.2) (.slice aG ay.length aH)) (fun _ hk=>hk.2) (.slice aN aD.length aO)) (fun _ hk=>hk.1.1.1),by refine rs_ ?_;exact Kd.S_mono (Kd.S_far (p:=⟨aj,1,none⟩) (Kd.S_far (p:=⟨aj,0,none⟩) (Kd.S_far (p:=⟨ai,1,none⟩) (Kd.S_far (p:=⟨ai,0,none⟩) (Kd.S_types (Kd.S_types bg.out aa.out (by decide)) ae.out (by decide)) (fun _ hk=>hk.1.2) (.slice aV aw.length aW)) (fun _ hk=>hk.1.2) (.slice aZ ax.length ba)) (fun _ hk=>hk.2) (.slice aG ay.length aH)) (fun _ hk=>hk.2) (.slice aN aD.length aO)) (fun _ hk=>hk.1.1.1.1),by exact zp49_3_ HB.out (IsS125.ge HI694.out) ap.out ar.out aE.out aY.out⟩
 ·replace c6:=Bool.eq_false_iff.mpr c6
  subst c6
  have H1:((spec_l1PickInt.f aq bd be (([6,7,6,7,9]:List Int))).bind fun bt733=>(some (aw,ax,aF,aM,bt733.1)))=some (r1,r2,r3,r4,r5):=by rw [if_neg (show ¬ (false=true) by decide)] at H;exact H
  clear H
  have H:=H1
  clear H1
  obtain ⟨bF,hy730⟩:∃ y_:List Int,y_=(([6,7,6,7,9]:List Int)):=⟨_,rfl⟩
  replace H:((spec_l1PickInt.f aq bd be bF).bind fun bt733=>(some (aw,ax,aF,aM,bt733.1)))=some (r1,r2,r3,r4,r5):=by first | (rw [hy730];with_reducible exact H) | (have H2_:=(Option.bind_some _ _).symm.trans H;rw [hy730];with_reducible exact H2_) | (have H2_:=(Option.bind_some _ _).symm.trans H;with_reducible exact H2_) | with_reducible exact H | (rw [hy730];exact H) | exact H
  have bH:=am_ hy730
  clear hy730
  replace H:=Option.bind_eq_some_iff.mp H
  obtain ⟨⟨bK,cg,ch⟩,bL,H⟩:=H
  replace H:(some (aw,ax,aF,aM,bK))=some (r1,r2,r3,r4,r5):=H
  have A44:=am_ bL
  clear bL
  simp only [Option.some.injEq,Prod.mk.injEq] at H
  obtain ⟨rfl,rfl,rfl,rfl,rfl⟩:=H
  go_enter Try.func37,Try.ntmps37
  try go_wp2_with (first | ((with_reducible refine gate_dst (N:=2) rfl ?_);refine box_event ?hg (N:=2) ?hd (cs:=#[.slice none 0 0,.slice none 0 0]) (t:=27) ?hr ?_;(case hd=>rfl);(case hg=>rfl);(case hr=>first | (go_simp;done) | (go_simp;rfl));intro ai hg w45 hbox hb;replace aa:=am_ (hbox);replace bN:=am_ ((by rw [hg];exact (below_size (b0_ HB.out)):w.heap.size≤ai));replace ap:=am_ ((by rw [hg];exact (below_size (b0_ HB.out)):w.heap.size≤ai));replace HB:=am_ (below_step (b0_ HB.out) hb);clear hb hbox hg) | ((with_reducible refine gate_dst (N:=3) rfl ?_);refine box_event ?hg (N:=3) ?hd (cs:=#[.slice none 0 0,.slice none 0 0]) (t:=27) ?hr ?_;(case hd=>rfl);(case hg=>rfl);(case hr=>first | (go_simp;done) | (go_simp;rfl));intro aj hg w46 hbox hb;have n0_:=am_ (blk_below (rb_ aa.out) hb);have n1_:=am_ (below_step (b1_ HB.out ap.out) hb);have n2_:=am_ (hbox);have n3_:=am_ ((by rw [hg];exact (below_size (b1_ HB.out ap.out)):w.heap.size≤aj));have n4_:=am_ ((by rw [hg];exact (below_size (b1_ HB.out ap.out)):w.heap.size≤aj));have n5_:=am_ ((by rw [hg];exact Nat.ne_of_lt (blk_lt (rb_ aa.out)):ai ≠ aj));have n6_:=am_ ((by rw [hg];exact Nat.ne_of_gt (blk_lt (rb_ aa.out)):aj ≠ ai));clear aa;clear HB;have aa:=n0_;have HB:=n1_;have ae:=n2_;have bO:=n3_;have ar:=n4_;have aI:=n5_;have aJ:=n6_;clear n0_ n1_ n2_ n3_ n4_ n5_ n6_;clear hb hbox hg) | ((with_reducible refine gate_callee (f:=85) rfl ?_);refine gL_ (some 9) Try.func85 #[.slice A0 l0.length c0] ?_;(with_reducible refine (spec_l1New.calls k _ _ l0 aq bC bD w _ ?side1 ?side2 ?side3 A2.out).mono ?_);(case side1=>repeat (first | (with_reducible first | exact HB.out | apply below_alloc | apply pw_below_drewN | apply below_drew1 | refine below_set ?_ ap.out | refine below_set ?_ ar.out) | exact HB.out));(case side2=>exact HR0.out);(case side3=>exact HC0.out);rintro e w47 ⟨g694,rfl,hi,hb,hb2⟩;refine ⟨_,rfl,?_⟩;have n0_:=am_ (blk_below (rb_ aa.out) hb2);have n1_:=am_ (blk_below (rb_ ae.out) hb2);have n2_:=am_ (hb);have n3_:=am_ (hi);have n4_:=am_ (IsS125.ne_blk hi (blk_below (rb_ aa.out) hb2) (by decide));have n5_:=am_ (Ne.symm (IsS125.ne_blk hi (blk_below (rb_ aa.out) hb2) (by decide)));have n6_:=am_ (IsS125.ne_blk hi (blk_below (rb_ ae.out) hb2) (by decide));have n7_:=am_ (Ne.symm (IsS125.ne_blk hi (blk_below (rb_ ae.out) hb2) (by decide)));clear aa;clear ae;clear HB;have aa:=n0_;have ae:=n1_;have HB:=n2_;have HI694:=n3_;have ab:=n4_;have aR:=n5_;have ad:=n6_;have aS:=n7_;clear n0_ n1_ n2_ n3_ n4_ n5_ n6_ n7_;(try clear hb);(try clear hb2);(try clear hk);(try clear hi)) | ((with_reducible refine gate_callee (f:=86) rfl ?_);refine gL_ (some 11) Try.func86 #[.pointer (some ⟨g694,0,none⟩),.int .i64 4] ?_;(with_reducible refine (spec_l5Draw.calls k g694 aq bC bD 4 aw ax bo bp w _ ?side1 ?side2 A3.out).mono ?_);(case side1=>exact zp49_0_ HI694.out ab.out ad.out);(case side2=>repeat (first | (with_reducible first | exact HB.out | apply below_alloc | apply pw_below_drewN | apply below_drew1 | refine below_set ?_ (IsS125.ge HI694.out) | refine below_set ?_ ap.out | refine below_set ?_ ar.out) | exact HB.out));rintro e w48 ⟨bU,bV,rfl,ho0,ho1,hi,hb,hk⟩;refine ⟨_,rfl,?_⟩;have n0_:=am_ (KeepBut.blk hk (g':=ai) (o:=.cells #[.slice none 0 0,.slice none 0 0] 27 (0,0)) (rb_ aa.out) aR.out (by simp));have n1_:=am_ (KeepBut.blk hk (g':=aj) (o:=.cells #[.slice none 0 0,.slice none 0 0] 27 (0,0)) (rb_ ae.out) aS.out (by simp));have n2_:=am_ (Kd.R_lower ho0 (below_size (b3_ HB.out (IsS125.ge HI694.out) ap.out ar.out)));have n3_:=am_ (Kd.S_lower ho1 (below_size (b3_ HB.out (IsS125.ge HI694.out) ap.out ar.out)));have n4_:=am_ (hb);have n5_:=am_ (hi);clear aa;clear ae;clear HB;clear HI694;have aa:=n0_;have ae:=n1_;have am:=n2_;have an:=n3_;have HB:=n4_;have HI694:=n5_;clear n0_ n1_ n2_ n3_ n4_ n5_;(try clear hb);(try clear hb2);(try clear hk);(try clear hi);(try clear ho0);(try clear ho1)) | ((with_reducible refine gate_dst (N:=6) rfl ?_);refine box_event ?hg (N:=6) ?hd (cs:=#[.slice none 0 0,.slice none 0 0]) (t:=27) ?hr ?_;(case hd=>rfl);(case hg=>rfl);(case hr=>first | (go_simp;done) | (go_simp;rfl));intro ao hg w49 hbox hb;have n0_:=am_ (Kd.R_below (rr_ am.out) hb);have n1_:=am_ (Kd.S_below (rs_ an.out) hb);have n2_:=am_ (blk_below (rb_ aa.out) hb);have n3_:=am_ (blk_below (rb_ ae.out) hb);have n4_:=am_ (IsS125.below (zp49_0_ HI694.out ab.out ad.out) hb);have n5_:=am_ (below_step (b3_ HB.out (IsS125.ge HI694.out) ap.out ar.out) hb);have n6_:=am_ (hbox);have n7_:=am_ ((by rw [hg];exact (below_size (b3_ HB.out (IsS125.ge HI694.out) ap.out ar.out)):w.heap.size≤ao));have n8_:=am_ ((by rw [hg];exact (below_size (b3_ HB.out (IsS125.ge HI694.out) ap.out ar.out)):w.heap.size≤ao));have n9_:=am_ ((by rw [hg];exact Nat.ne_of_lt (blk_lt (rb_ aa.out)):ai ≠ ao));have n10_:=am_ ((by rw [hg];exact Nat.ne_of_gt (blk_lt (rb_ aa.out)):ao ≠ ai));have n11_:=am_ ((by rw [hg];exact Nat.ne_of_lt (blk_lt (rb_ ae.out)):aj ≠ ao));have n12_:=am_ ((by rw [hg];exact Nat.ne_of_gt (blk_lt (rb_ ae.out)):ao ≠ aj));have n13_:=am_ ((by rw [hg];exact Nat.ne_of_lt (IsS125.lt (show IsS125 w _ g694 aq bo bp from by exact zp49_0_ HI694.out ab.out ad.out)):g694 ≠ ao));have n14_:=am_ ((by rw [hg];exact Nat.ne_of_gt (IsS125.lt (show IsS125 w _ g694 aq bo bp from by exact zp49_0_ HI694.out ab.out ad.out)):ao ≠ g694));clear am;clear an;clear aa;clear ae;clear HI694;clear HB;have am:=n0_;have an:=n1_;have aa:=n2_;have ae:=n3_;have HI694:=n4_;have HB:=n5_;have ah:=n6_;have bP:=n7_;have aE:=n8_;have aP:=n9_;have az:=n10_;have aQ:=n11_;have aA:=n12_;have af:=n13_;have aT:=n14_;clear n0_ n1_ n2_ n3_ n4_ n5_ n6_ n7_ n8_ n9_ n10_ n11_ n12_ n13_ n14_;clear hb hbox hg;obtain ⟨bh,bi,ci⟩:=Kd.R_slice am.out;subst ci;have cX:=az.out;have cY:=aP.out;have cZ:=aA.out;have da:=aQ.out;have db:=aT.out;have dc:=af.out;have cB:=ck_ (v:=(.slice none 0 0)) ah 0 rfl;have cC:=ck_ (v:=(.slice none 0 0)) ah 1 rfl;have cD:=blk_frozen ah.out 0;have cE:=blk_frozen ah.out 1;obtain ⟨bm,bn,cj⟩:=Kd.S_slice an.out;subst cj) | ((with_reducible refine gate_callee (f:=86) rfl ?_);refine gL_ (some 13) Try.func86 #[.pointer (some ⟨g694,0,none⟩),.int .i64 4] ?_;(with_reducible refine (spec_l5Draw.calls k g694 aq bo bp 4 aF aM bb bc w _ ?side1 ?side2 A4.out).mono ?_);(case side1=>exact zp49_1_ HI694.out ab.out ad.out af.out);(case side2=>repeat (first | (with_reducible first | exact HB.out | apply below_alloc | apply pw_below_drewN | apply below_drew1 | refine below_set ?_ (IsS125.ge HI694.out) | refine below_set ?_ ap.out | refine below_set ?_ ar.out | refine below_set ?_ aE.out) | exact HB.out));rintro e w56 ⟨bY,bZ,rfl,ho0,ho1,hi,hb,hk⟩;refine ⟨_,rfl,?_⟩;have n0_:=am_ (KeepBut.blk hk (g':=ai) (o:=.cells #[.slice none 0 0,.slice none 0 0] 27 (0,0)) (by refine rb_ ?_;refine blk_far ?_ aP.out _;refine rb_ ?_;refine blk_far ?_ aP.out _;refine rb_ ?_;exact aa.out) aR.out (by simp));have n1_:=am_ (KeepBut.blk hk (g':=aj) (o:=.cells #[.slice none 0 0,.slice none 0 0] 27 (0,0)) (by refine rb_ ?_;refine blk_far ?_ aQ.out _;refine rb_ ?_;refine blk_far ?_ aQ.out _;refine rb_ ?_;exact ae.out) aS.out (by simp));have n2_:=am_ (Kd.R_mono (Kd.R_told (Kd.R_oldK (IsS125.apart (show IsS125 w _ g694 aq bo bp from by exact zp49_1_ HI694.out ab.out ad.out af.out) (rr_ (Kd.R_mono (Kd.R_far (p:=⟨ao,1,none⟩) (Kd.R_far (p:=⟨ao,0,none⟩) (Kd.R_types am.out ah.out (by decide)) (fun _ hk=>hk.2) (.slice bh aw.length bi)) (fun _ hk=>hk.2) (.slice bm ax.length bn)) (fun _ h_=>h_.1))) (by decide)) hk) (Kd.R_base ho0)) (fun _ h_=>h_.1));have n3_:=am_ (Kd.S_mono (Kd.S_told (Kd.S_oldK (IsS125.apartS (show IsS125 w _ g694 aq bo bp from by exact zp49_1_ HI694.out ab.out ad.out af.out) (rs_ (Kd.S_mono (Kd.S_far (p:=⟨ao,1,none⟩) (Kd.S_far (p:=⟨ao,0,none⟩) (Kd.S_types an.out ah.out (by decide)) (fun _ hk=>hk.2) (.slice bh aw.length bi)) (fun _ hk=>hk.2) (.slice bm ax.length bn)) (fun _ h_=>h_.1))) (by decide)) hk) (Kd.S_base ho1)) (fun _ h_=>h_.1));have n4_:=am_ (KeepBut.blk hk (g':=ao) (o:=.cells #[.slice bh aw.length bi,.slice bm ax.length bn] 27 (0,0)) (by refine rb_ ?_;refine blk_put (cs:=#[.slice bh aw.length bi,.slice none 0 0]) ?_ 1 _ rfl;refine rb_ ?_;refine blk_put (cs:=#[.slice none 0 0,.slice none 0 0]) ?_ 0 _ rfl;refine rb_ ?_;exact ah.out) aT.out (by simp));have n5_:=am_ (Kd.R_lower (Kd.R_new' ho0 (Kd.R_lt (rr_ (Kd.R_mono (Kd.R_far (p:=⟨ao,1,none⟩) (Kd.R_far (p:=⟨ao,0,none⟩) (Kd.R_types am.out ah.out (by decide)) (fun _ hk=>hk.2) (.slice bh aw.length bi)) (fun _ hk=>hk.2) (.slice bm ax.length bn)) (fun _ h_=>h_.1))))) (below_size (b4_ HB.out (IsS125.ge HI694.out) ap.out ar.out aE.out)));have n6_:=am_ (Kd.S_lower (Kd.S_new' ho1 (Kd.S_lt (rs_ (Kd.S_mono (Kd.S_far (p:=⟨ao,1,none⟩) (Kd.S_far (p:=⟨ao,0,none⟩) (Kd.S_types an.out ah.out (by decide)) (fun _ hk=>hk.2) (.slice bh aw.length bi)) (fun _ hk=>hk.2) (.slice bm ax.length bn)) (fun _ h_=>h_.1))))) (below_size (b4_ HB.out (IsS125.ge HI694.out) ap.out ar.out aE.out)));have n7_:=am_ (hb);have n8_:=am_ (hi);clear aa;clear ae;clear am;clear an;clear ah;clear HB;clear HI694;have aa:=n0_;have ae:=n1_;have am:=n2_;have an:=n3_;have ah:=n4_;have au:=n5_;have av:=n6_;have HB:=n7_;have HI694:=n8_;clear n0_ n1_ n2_ n3_ n4_ n5_ n6_ n7_ n8_;(try clear hb);(try clear hb2);(try clear hk);(try clear hi);(try clear ho0);(try clear ho1)) | ((with_reducible refine gate_dst (N:=7) rfl ?_);refine box_event ?hg (N:=7) ?hd (cs:=#[.slice none 0 0,.slice none 0 0]) (t:=27) ?hr ?_;(case hd=>rfl);(case hg=>rfl);(case hr=>first | (go_simp;done) | (go_simp;rfl));intro ag hg w57 hbox hb;have n0_:=am_ (Kd.R_below (rr_ am.out) hb);have n1_:=am_ (Kd.S_below (rs_ an.out) hb);have n2_:=am_ (Kd.R_below (rr_ au.out) hb);have n3_:=am_ (Kd.S_below (rs_ av.out) hb);have n4_:=am_ (blk_below (rb_ aa.out) hb);have n5_:=am_ (blk_below (rb_ ae.out) hb);have n6_:=am_ (IsS125.below (zp49_1_ HI694.out ab.out ad.out af.out) hb);have n7_:=am_ (blk_below (rb_ ah.out) hb);have n8_:=am_ (below_step (b4_ HB.out (IsS125.ge HI694.out) ap.out ar.out aE.out) hb);have n9_:=am_ (hbox);have n10_:=am_ ((by rw [hg];exact (below_size (b4_ HB.out (IsS125.ge HI694.out) ap.out ar.out aE.out)):w.heap.size≤ag));have n11_:=am_ ((by rw [hg];exact (below_size (b4_ HB.out (IsS125.ge HI694.out) ap.out ar.out aE.out)):w.heap.size≤ag));have n12_:=am_ ((by rw [hg];exact Nat.ne_of_lt (blk_lt (rb_ aa.out)):ai ≠ ag));have n13_:=am_ ((by rw [hg];exact Nat.ne_of_gt (blk_lt (rb_ aa.out)):ag ≠ ai));have n14_:=am_ ((by rw [hg];exact Nat.ne_of_lt (blk_lt (rb_ ae.out)):aj ≠ ag));have n15_:=am_ ((by rw [hg];exact Nat.ne_of_gt (blk_lt (rb_ ae.out)):ag ≠ aj));have n16_:=am_ ((by rw [hg];exact Nat.ne_of_lt (blk_lt (rb_ ah.out)):ao ≠ ag));have n17_:=am_ ((by rw [hg];exact Nat.ne_of_gt (blk_lt (rb_ ah.out)):ag ≠ ao));have n18_:=am_ ((by rw [hg];exact Nat.ne_of_lt (IsS125.lt (show IsS125 w _ g694 aq bb bc from by exact zp49_1_ HI694.out ab.out ad.out af.out)):g694 ≠ ag));have n19_:=am_ ((by rw [hg];exact Nat.ne_of_gt (IsS125.lt (show IsS125 w _ g694 aq bb bc from by exact zp49_1_ HI694.out ab.out ad.out af.out)):ag ≠ g694));clear am;clear an;clear au;clear av;clear aa;clear ae;clear HI694;clear ah;clear HB;have am:=n0_;have an:=n1_;have au:=n2_;have av:=n3_;have aa:=n4_;have ae:=n5_;have HI694:=n6_;have ah:=n7_;have HB:=n8_;have ak:=n9_;have bQ:=n10_;have aY:=n11_;have aK:=n12_;have aB:=n13_;have aL:=n14_;have aC:=n15_;have aU:=n16_;have bz:=n17_;have al:=n18_;have aX:=n19_;clear n0_ n1_ n2_ n3_ n4_ n5_ n6_ n7_ n8_ n9_ n10_ n11_ n12_ n13_ n14_ n15_ n16_ n17_ n18_ n19_;clear hb hbox hg;obtain ⟨bj,bk,ck⟩:=Kd.R_slice au.out;subst ck;have dd:=aB.out;have de:=aK.out;have df:=aC.out;have dg:=aL.out;have dh:=bz.out;have di:=aU.out;have dj:=aX.out;have dk:=al.out;have cF:=ck_ (v:=(.slice none 0 0)) ak 0 rfl;have cG:=ck_ (v:=(.slice none 0 0)) ak 1 rfl;have cH:=blk_frozen ak.out 0;have cI:=blk_frozen ak.out 1;obtain ⟨bu,bv,cl⟩:=Kd.S_slice av.out;subst cl) | ((with_reducible refine gate_callee (f:=87) rfl ?_);refine gL_ (some 15) Try.func87 #[.pointer (some ⟨g694,0,none⟩),.int .i64 12] ?_;(with_reducible refine (spec_l1Once.calls g694 aq bb bc 12 false bd be w _ ?side1 ?side2 A5.out).mono ?_);(case side1=>exact zp49_2_ HI694.out ab.out ad.out af.out al.out);(case side2=>exact zp49_3_ HB.out (IsS125.ge HI694.out) ap.out ar.out aE.out aY.out);rintro e w65 ⟨rfl,hi,hb,hk⟩;refine ⟨_,rfl,?_⟩;have n0_:=am_ (KeepBut.blk hk (g':=ai) (o:=.cells #[.slice none 0 0,.slice none 0 0] 27 (0,0)) (by refine rb_ ?_;refine blk_far ?_ aK.out _;refine rb_ ?_;refine blk_far ?_ aK.out _;refine rb_ ?_;exact aa.out) aR.out (by simp));have n1_:=am_ (KeepBut.blk hk (g':=aj) (o:=.cells #[.slice none 0 0,.slice none 0 0] 27 (0,0)) (by refine rb_ ?_;refine blk_far ?_ aL.out _;refine rb_ ?_;refine blk_far ?_ aL.out _;refine rb_ ?_;exact ae.out) aS.out (by simp));have n2_:=am_ (Kd.R_mono (Kd.R_keep (IsS125.apart (show IsS125 w _ g694 aq bb bc from by exact zp49_2_ HI694.out ab.out ad.out af.out al.out) (rr_ (Kd.R_mono (Kd.R_far (p:=⟨ag,1,none⟩) (Kd.R_far (p:=⟨ag,0,none⟩) (Kd.R_types am.out ak.out (by decide)) (fun _ hk=>hk.2) (.slice bj aF.length bk)) (fun _ hk=>hk.2) (.slice bu aM.length bv)) (fun _ h_=>h_.1))) (by decide)) hk (fun _ h=>h.2)) (fun _ h=>h.1));have n3_:=am_ (Kd.S_mono (Kd.S_keep (IsS125.apartS (show IsS125 w _ g694 aq bb bc from by exact zp49_2_ HI694.out ab.out ad.out af.out al.out) (rs_ (Kd.S_mono (Kd.S_far (p:=⟨ag,1,none⟩) (Kd.S_far (p:=⟨ag,0,none⟩) (Kd.S_types an.out ak.out (by decide)) (fun _ hk=>hk.2) (.slice bj aF.length bk)) (fun _ hk=>hk.2) (.slice bu aM.length bv)) (fun _ h_=>h_.1))) (by decide)) hk (fun _ h=>h.2)) (fun _ h=>h.1));have n4_:=am_ (KeepBut.blk hk (g':=ao) (o:=.cells #[.slice bh aw.length bi,.slice bm ax.length bn] 27 (0,0)) (by refine rb_ ?_;refine blk_far ?_ aU.out _;refine rb_ ?_;refine blk_far ?_ aU.out _;refine rb_ ?_;exact ah.out) aT.out (by simp));have n5_:=am_ (Kd.R_mono (Kd.R_keep (IsS125.apart (show IsS125 w _ g694 aq bb bc from by exact zp49_2_ HI694.out ab.out ad.out af.out al.out) (rr_ (Kd.R_mono (Kd.R_far (p:=⟨ag,1,none⟩) (Kd.R_far (p:=⟨ag,0,none⟩) (Kd.R_types au.out ak.out (by decide)) (fun _ hk=>hk.2) (.slice bj aF.length bk)) (fun _ hk=>hk.2) (.slice bu aM.length bv)) (fun _ h_=>h_.1))) (by decide)) hk (fun _ h=>h.2)) (fun _ h=>h.1));have n6_:=am_ (Kd.S_mono (Kd.S_keep (IsS125.apartS (show IsS125 w _ g694 aq bb bc from by exact zp49_2_ HI694.out ab.out ad.out af.out al.out) (rs_ (Kd.S_mono (Kd.S_far (p:=⟨ag,1,none⟩) (Kd.S_far (p:=⟨ag,0,none⟩) (Kd.S_types av.out ak.out (by decide)) (fun _ hk=>hk.2) (.slice bj aF.length bk)) (fun _ hk=>hk.2) (.slice bu aM.length bv)) (fun _ h_=>h_.1))) (by decide)) hk (fun _ h=>h.2)) (fun _ h=>h.1));have n7_:=am_ (KeepBut.blk hk (g':=ag) (o:=.cells #[.slice bj aF.length bk,.slice bu aM.length bv] 27 (0,0)) (by refine rb_ ?_;refine blk_put (cs:=#[.slice bj aF.length bk,.slice none 0 0]) ?_ 1 _ rfl;refine rb_ ?_;refine blk_put (cs:=#[.slice none 0 0,.slice none 0 0]) ?_ 0 _ rfl;refine rb_ ?_;exact ak.out) aX.out (by simp));have n8_:=am_ (hb);have n9_:=am_ (hi);clear aa;clear ae;clear am;clear an;clear ah;clear au;clear av;clear ak;clear HB;clear HI694;have aa:=n0_;have ae:=n1_;have am:=n2_;have an:=n3_;have ah:=n4_;have au:=n5_;have av:=n6_;have ak:=n7_;have HB:=n8_;have HI694:=n9_;clear n0_ n1_ n2_ n3_ n4_ n5_ n6_ n7_ n8_ n9_;(try clear hb);(try clear hb2);(try clear hk);(try clear hi)))
  replace am:=am_ (Kd.R_drew am.out)
  replace an:=am_ (Kd.S_drew an.out)
  replace au:=am_ (Kd.R_drew au.out)
  replace av:=am_ (Kd.S_drew av.out)
  replace aa:=am_ (blk_drew aa.out)
  replace ae:=am_ (blk_drew ae.out)
  replace ah:=am_ (blk_drew ah.out)
  replace ak:=am_ (blk_drew ak.out)
  replace HI694:=am_ (IsS125.drew HI694.out)
  replace HB:=am_ (below_drew1 HB.out)
  refine start_ (n:=8) (S:=fun w'=>w'.cell? ⟨ao,0,none⟩=some (.slice bh aw.length bi)∧w'.cell? ⟨ao,1,none⟩=some (.slice bm ax.length bn)∧w'.cell? ⟨ag,0,none⟩=some (.slice bj aF.length bk)∧w'.cell? ⟨ag,1,none⟩=some (.slice bu aM.length bv)) (ds:=[]) (bl 8 0) (by kernel_rfl) rfl rfl ⟨(blk_cell ah.out 0).trans rfl,(blk_cell ah.out 1).trans rfl,(blk_cell ak.out 0).trans rfl,(blk_cell ak.out 1).trans rfl⟩ (fun hHeld=>?_);refine with_tabW spec_DrawProductDfa.tab6 spec_DrawProductDfa.bits6 (fun HT_ HW_=>?_)
  generalize w65.drew=w66 at am an au av aa ae ah ak HI694 HB hHeld ⊢
  refine pu_ 2 20 (bl 8 4) HT_ ?_
  refine tk_ 0 18 (bl 8 5) HT_ HW_ hHeld ?_
  refine tk_ 1 19 (bl 8 7) HT_ HW_ hHeld ?_
  refine on_ 3 (some 21) (bl 8 15) HT_ (fun K hK=>?_)
  refine Kd.R_lit_step (Kd.int .i64) _ 3 ?hg (N:=21) ?hd (xs:=([6,7,6,7,9]:List Int)) (inner:=[.int .i64 6,.int .i64 7,.int .i64 6,.int .i64 7,.int .i64 9]) (ok:=fun _=>True) (okp:=fun _=>True) ?hr ?hp (fun _ hk=>hk) trivial (Below.refl _ _) (Nat.le_refl _) (by simp) ?_;(case hd=>rfl);(case hg=>rfl);(case hr=>first | (go_simp;done) | (go_simp;rfl));(case hp=>exact (Reps.one (show Kd.M (Kd.int .i64) _ _ _ 6 [.int .i64 6] from rfl) (Reps.one (show Kd.M (Kd.int .i64) _ _ _ 7 [.int .i64 7] from rfl) (Reps.one (show Kd.M (Kd.int .i64) _ _ _ 6 [.int .i64 6] from rfl) (Reps.one (show Kd.M (Kd.int .i64) _ _ _ 7 [.int .i64 7] from rfl) (Reps.one (show Kd.M (Kd.int .i64) _ _ _ 9 [.int .i64 9] from rfl) (Reps.none _ _)))))))
  intro dp w67 ho68 hb hg_ hnew_
  clear hg_ hnew_
  (first | rw [← bH.out] at ho68 | (simp only [Int.reduceToNat] at ho68;rw [← bH.out] at ho68))
  replace am:=am_ (Kd.R_below (rr_ am.out) hb)
  replace an:=am_ (Kd.S_elder' (rs_ an.out) (Kd.R_base ho68) hb)
  replace au:=am_ (Kd.R_below (rr_ au.out) hb)
  replace av:=am_ (Kd.S_elder' (rs_ av.out) (Kd.R_base ho68) hb)
  replace bB:=am_ (Kd.R_lower ho68 (below_size (zp49_3_ HB.out (IsS125.ge HI694.out) ap.out ar.out aE.out aY.out)))
  replace aa:=am_ (blk_below (rb_ aa.out) hb)
  replace ae:=am_ (blk_below (rb_ ae.out) hb)
  replace ah:=am_ (blk_below (rb_ ah.out) hb)
  replace ak:=am_ (blk_below (rb_ ak.out) hb)
  replace HB:=am_ (below_step (zp49_3_ HB.out (IsS125.ge HI694.out) ap.out ar.out aE.out aY.out) hb)
  replace HI694:=am_ (IsS125.below (zp49_2_ HI694.out ab.out ad.out af.out al.out) hb)
  clear hb ho68
  obtain ⟨cm,cn,bM⟩:=Kd.R_slice bB.out
  (first | subst bM | (injection bM with f1_ f2_ f3_;have f4_:=f1_.symm;have f5_:=f3_.symm;clear f1_ f2_ f3_;subst f4_;subst f5_))
  refine hK.out _ _ ⟨(blk_cell ah.out 0).trans rfl,(blk_cell ah.out 1).trans rfl,(blk_cell ak.out 0).trans rfl,(blk_cell ak.out 1).trans rfl⟩ (fun hHeld=>?_)
  clear hK K
  refine norm_ (a':=?_) ?_ ?_
  rotate_left
  ·show Act.put _ (some 21) _=_
   simp only [pn_,sz_,ss_,i64_w,i32_w]
   rfl
  refine on_ 4 (some 22) (bl 8 31) HT_ (fun K hK=>?_)
  refine gO_ Try.func100 #[.pointer (some ⟨g694,0,none⟩),.slice cm bF.length cn] ?_
  with_reducible refine (spec_l1PickInt.calls g694 aq bd be _ _ bF bK cg ch w _ ?side1 ?side2 ?side3 ?side4 ?side5 A44.out).mono ?_
  (case side1=>exact zp49_2_ HI694.out ab.out ad.out af.out al.out)
  (case side2=>exact zp49_3_ HB.out (IsS125.ge HI694.out) ap.out ar.out aE.out aY.out)
  (case side3=>exact rc_ ((Kd.R_reads' bB.out).2.2))
  (case side4=>exact (Kd.R_reads' bB.out).2.1)
  (case side5=>exact far_slice (IsS125.own_ne HI694.out bB.out (by decide)))
  rintro e w70 ⟨rfl,hi,hb,hk⟩
  refine ⟨_,rfl,?_⟩
  replace aa:=am_ (KeepBut.blk hk (g':=ai) (o:=.cells #[.slice none 0 0,.slice none 0 0] 27 (0,0)) (rb_ aa.out) aR.out (by simp))
  replace ae:=am_ (KeepBut.blk hk (g':=aj) (o:=.cells #[.slice none 0 0,.slice none 0 0] 27 (0,0)) (rb_ ae.out) aS.out (by simp))
  replace am:=am_ (Kd.R_mono (Kd.R_keep (IsS125.apart (show IsS125 w _ g694 aq bd be from by exact zp49_2_ HI694.out ab.out ad.out af.out al.out) (rr_ am.out) (by decide)) hk (fun _ h=>h.2)) (fun _ h=>h.1))
  replace an:=am_ (Kd.S_mono (Kd.S_keep (IsS125.apartS (show IsS125 w _ g694 aq bd be from by exact zp49_2_ HI694.out ab.out ad.out af.out al.out) (rs_ an.out) (by decide)) hk (fun _ h=>h.2)) (fun _ h=>h.1))
  replace ah:=am_ (KeepBut.blk hk (g':=ao) (o:=.cells #[.slice bh aw.length bi,.slice bm ax.length bn] 27 (0,0)) (rb_ ah.out) aT.out (by simp))
  replace au:=am_ (Kd.R_mono (Kd.R_keep (IsS125.apart (show IsS125 w _ g694 aq bd be from by exact zp49_2_ HI694.out ab.out ad.out af.out al.out) (rr_ au.out) (by decide)) hk (fun _ h=>h.2)) (fun _ h=>h.1))
  replace av:=am_ (Kd.S_mono (Kd.S_keep (IsS125.apartS (show IsS125 w _ g694 aq bd be from by exact zp49_2_ HI694.out ab.out ad.out af.out al.out) (rs_ av.out) (by decide)) hk (fun _ h=>h.2)) (fun _ h=>h.1))
  replace ak:=am_ (KeepBut.blk hk (g':=ag) (o:=.cells #[.slice bj aF.length bk,.slice bu aM.length bv] 27 (0,0)) (rb_ ak.out) aX.out (by simp))
  replace bB:=am_ (Kd.R_mono (Kd.R_keep (IsS125.apart (show IsS125 w _ g694 aq bd be from by exact zp49_2_ HI694.out ab.out ad.out af.out al.out) (rr_ bB.out) (by decide)) hk (fun _ h=>h.2)) (fun _ h=>h.1))
  replace HB:=am_ (hb)
  replace HI694:=am_ (hi)
  (try clear hb)
  (try clear hb2)
  (try clear hk)
  (try clear hi)
  refine hK.out _ _ ⟨(blk_cell ah.out 0).trans rfl,(blk_cell ah.out 1).trans rfl,(blk_cell ak.out 0).trans rfl,(blk_cell ak.out 1).trans rfl⟩ (fun hHeld=>?_)
  clear hK K
  refine norm_ (a':=?_) ?_ ?_
  rotate_left
  ·show Act.put _ (some 22) _=_
   simp only [pn_,sz_,ss_,i64_w,i32_w]
   rfl
  refine on_ 5 none (bl 8 63) HT_ (fun K hK=>?_)
  have hs71:w70.cell? ⟨ai,0,none⟩=some (.slice none 0 0):=(blk_cell aa.out 0).trans rfl
  have hfs71:=blk_frozen aa.out 0
  have hns71_1:=aJ.out
  have hns71_2:=az.out
  have hns71_3:=aB.out
  have hms71_1:=aI.out
  have hms71_2:=aP.out
  have hms71_3:=aK.out
  have hs72:w70.cell? ⟨ai,1,none⟩=some (.slice none 0 0):=(blk_cell aa.out 1).trans rfl
  have hfs72:=blk_frozen aa.out 1
  have hns72_1:=aJ.out
  have hns72_2:=az.out
  have hns72_3:=aB.out
  have hms72_1:=aI.out
  have hms72_2:=aP.out
  have hms72_3:=aK.out
  refine skip_ (w1:=?_) (by rfl) rfl ?_ ?_
  rotate_left
  ·go_simp
   rfl
  refine hK.out _ _ ⟨((cell_far (p:=⟨ai,_,none⟩) az.out _).trans (((cell_far (p:=⟨ai,_,none⟩) az.out _).trans (hHeld.1)))),((cell_far (p:=⟨ai,_,none⟩) az.out _).trans (((cell_far (p:=⟨ai,_,none⟩) az.out _).trans (hHeld.2.1)))),((cell_far (p:=⟨ai,_,none⟩) aB.out _).trans (((cell_far (p:=⟨ai,_,none⟩) aB.out _).trans (hHeld.2.2.1)))),((cell_far (p:=⟨ai,_,none⟩) aB.out _).trans (((cell_far (p:=⟨ai,_,none⟩) aB.out _).trans (hHeld.2.2.2))))⟩ (fun hHeld=>?_)
  clear hK K
  refine on_ 6 none (bl 8 127) HT_ (fun K hK=>?_)
  have hs73:w70.cell? ⟨aj,0,none⟩=some (.slice none 0 0):=(blk_cell ae.out 0).trans rfl
  have hfs73:=blk_frozen ae.out 0
  have hns73_0:=aI.out
  have hns73_2:=aA.out
  have hns73_3:=aC.out
  have hms73_0:=aJ.out
  have hms73_2:=aQ.out
  have hms73_3:=aL.out
  have hs74:w70.cell? ⟨aj,1,none⟩=some (.slice none 0 0):=(blk_cell ae.out 1).trans rfl
  have hfs74:=blk_frozen ae.out 1
  have hns74_0:=aI.out
  have hns74_2:=aA.out
  have hns74_3:=aC.out
  have hms74_0:=aJ.out
  have hms74_2:=aQ.out
  have hms74_3:=aL.out
  refine skip_ (w1:=?_) (by rfl) rfl ?_ ?_
  rotate_left
  ·go_simp
   rfl
  refine hK.out _ _ ⟨((cell_far (p:=⟨aj,_,none⟩) aA.out _).trans (((cell_far (p:=⟨aj,_,none⟩) aA.out _).trans (hHeld.1)))),((cell_far (p:=⟨aj,_,none⟩) aA.out _).trans (((cell_far (p:=⟨aj,_,none⟩) aA.out _).trans (hHeld.2.1)))),((cell_far (p:=⟨aj,_,none⟩) aC.out _).trans (((cell_far (p:=⟨aj,_,none⟩) aC.out _).trans (hHeld.2.2.1)))),((cell_far (p:=⟨aj,_,none⟩) aC.out _).trans (((cell_far (p:=⟨aj,_,none⟩) aC.out _).trans (hHeld.2.2.2))))⟩ (fun hHeld=>?_)
  clear hK K
  refine pu_ 7 4 (bl 8 255) HT_ ?_
  refine done_ (done_of HT_.out (by kernel_rfl)) ?_
  try go_wp2
  refine bodyPost_ret (results_list (rs:=[.cell 2 27,.cell 3 27,.tmp 4]) rfl (by simp) (.cell ai 27 #[.slice bh aw.length bi,.slice bm ax.length bn] (0,0) _ rfl (by refine rb_ ?_;refine blk_far ?_ aI.out _;refine rb_ ?_;refine blk_far ?_ aI.out _;refine rb_ ?_;refine blk_put (cs:=#[.slice bh aw.length bi,.slice none 0 0]) ?_ 1 _ rfl;refine rb_ ?_;refine blk_put (cs:=#[.slice none 0 0,.slice none 0 0]) ?_ 0 _ rfl;refine rb_ ?_;exact aa.out) Try.underlying27 rfl (by kernel_rfl) (.cell aj 27 #[.slice bj aF.length bk,.slice bu aM.length bv] (0,0) _ rfl (by refine rb_ ?_;refine blk_put (cs:=#[.slice bj aF.length bk,.slice none 0 0]) ?_ 1 _ rfl;refine rb_ ?_;refine blk_put (cs:=#[.slice none 0 0,.slice none 0 0]) ?_ 0 _ rfl;refine rb_ ?_;refine blk_far ?_ aJ.out _;refine rb_ ?_;refine blk_far ?_ aJ.out _;refine rb_ ?_;exact ae.out) Try.underlying27 rfl (by kernel_rfl) (.tmp .nil)))) rfl ?_
  exact ⟨_,_,_,_,by first | rfl | (simp [errW_none,errW_some] <;> rfl) | (simp [*,errW_none,errW_some] <;> rfl),by refine rr_ ?_;exact Kd.R_mono (Kd.R_far (p:=⟨aj,1,none⟩) (Kd.R_far (p:=⟨aj,0,none⟩) (Kd.R_far (p:=⟨ai,1,none⟩) (Kd.R_far (p:=⟨ai,0,none⟩) (Kd.R_types (Kd.R_types am.out aa.out (by decide)) ae.out (by decide)) (fun _ hk=>hk.1.2) (.slice bh aw.length bi)) (fun _ hk=>hk.1.2) (.slice bm ax.length bn)) (fun _ hk=>hk.2) (.slice bj aF.length bk)) (fun _ hk=>hk.2) (.slice bu aM.length bv)) (fun _ hk=>hk.1.1.2),by refine rs_ ?_;exact Kd.S_mono (Kd.S_far (p:=⟨aj,1,none⟩) (Kd.S_far (p:=⟨aj,0,none⟩) (Kd.S_far (p:=⟨ai,1,none⟩) (Kd.S_far (p:=⟨ai,0,none⟩) (Kd.S_types (Kd.S_types an.out aa.out (by decide)) ae.out (by decide)) (fun _ hk=>hk.1.2) (.slice bh aw.length bi)) (fun _ hk=>hk.1.2) (.slice bm ax.length bn)) (fun _ hk=>hk.2) (.slice bj aF.length bk)) (fun _ hk=>hk.2) (.slice bu aM.length bv)) (fun _ hk=>hk.1.1.1.2),by refine rr_ ?_;exact Kd.R_mono (Kd.R_far (p:=⟨aj,1,none⟩) (Kd.R_far (p:=⟨aj,0,none⟩) (Kd.R_far (p:=⟨ai,1,none⟩) (Kd.R_far (p:=⟨ai,0,none⟩) (Kd.R_types (Kd.R_types au.out aa.out (by decide)) ae.out (by decide)) (fun _ hk=>hk.1.2) (.slice bh aw.length bi)) (fun _ hk=>hk.1.2) (.slice bm ax.length bn)) (fun _ hk=>hk.2) (.slice bj aF.length bk)) (fun _ hk=>hk.2) (.slice bu aM.length bv)) (fun _ hk=>hk.1.1.2),by refine rs_ ?_;exact Kd.S_mono (Kd.S_far (p:=⟨aj,1,none⟩) (Kd.S_far (p:=⟨aj,0,none⟩) (Kd.S_far (p:=⟨ai,1,none⟩) (Kd.S_far (p:=⟨ai,0,none⟩) (Kd.S_types (Kd.S_types av.out aa.out (by decide)) ae.out (by decide)) (fun _ hk=>hk.1.2) (.slice bh aw.length bi)) (fun _ hk=>hk.1.2) (.slice bm ax.length bn)) (fun _ hk=>hk.2) (.slice bj aF.length bk)) (fun _ hk=>hk.2) (.slice bu aM.length bv)) (fun _ hk=>hk.1.1.1.2),by exact zp49_3_ HB.out (IsS125.ge HI694.out) ap.out ar.out aE.out aY.out⟩
end Go.Proofs.Ytogamkblkoobkaa.P
end
