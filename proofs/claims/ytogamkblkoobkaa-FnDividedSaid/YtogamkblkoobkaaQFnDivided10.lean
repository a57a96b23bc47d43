/- Texts of the proof of FnDivided, put together. No condition. -/
import Derived.Test.YtogamkblkoobkaaQFnDivided2
import Derived.Test.YtogamkblkoobkaaQFnDivided9
set_option linter.unusedVariables false
set_option linter.unusedSimpArgs false
section
namespace Go.Proofs.Ytogamkblkoobkaa.P
open Go.RowKit Go.Proofs.YtogamkblkoobkaaW.PrintWords Go.Proofs.YtogamkblkoobkaaW.PrintLast Go.Proofs.YtogamkblkoobkaaW.PrintMore
attribute [local go_sem] max2_int min2_int max_two min_two max_three min_three max_four min_four
def spec_l5Bent.f (k:Nat) (s0_0:List Int) (s0_1:Int) (s0_2:Int):Option (List Bool × (List (List Int)) × Int × Int):=(spec_l5Draw.f k s0_0 s0_1 s0_2 5).bind fun bt469=>((spec_l1Below.f s0_0 bt469.2.2.1 bt469.2.2.2 12).bind fun bt478=>(if bt478.1=0 then (if 0<(bt469.2.1.length:Int) then (if 0<((rd_L1 bt469.2.1 0).length:Int) then (some (bt469.1,(bt469.2.1.set (0:Int).toNat ((rd_L1 bt469.2.1 0).set (0:Int).toNat (bt469.1.length:Int))),bt478.2.1,bt478.2.2)) else (none)) else (none)) else (if bt478.1=1 then (if bt469.1.length<140737488355328 then (some ((bt469.1 ++ [true]),bt469.2.1,bt478.2.1,bt478.2.2)) else (none)) else (if bt478.1=2 then (if 0<(bt469.2.1.length:Int) then (if (rd_L1 bt469.2.1 0).length<17592186044416 then (some (bt469.1,(bt469.2.1.set (0:Int).toNat ((rd_L1 bt469.2.1 0) ++ [0])),bt478.2.1,bt478.2.2)) else (none)) else (none)) else (some (bt469.1,bt469.2.1,bt478.2.1,bt478.2.2))))))
theorem spec_l5Bent.mono:∀ a0 a1 a2 k,LeO (spec_l5Bent.f k a0 a1 a2) (spec_l5Bent.f (k+1) a0 a1 a2):=by
 intro a0 a1 a2 k
 unfold spec_l5Bent.f
 repeat' first
  | (with_reducible exact spec_l5Draw.mono _ _ _ _ _)
  | (with_reducible exact LeO.refl _)
  | (with_reducible exact LeO.none _)
  | (with_reducible refine LeO.ite ?_ ?_)
  | (with_reducible refine LeO.bind ?_ (fun _=>?_))
  | exact spec_l5Draw.mono _ _ _ _ _
  | exact LeO.none _
  | refine LeO.ite ?_ ?_
  | refine LeO.bind ?_ (fun _=>?_)
def spec_l5Bent.T4:Bool × List (List Nat × List Nat):=(true,[([],[]),([0],[0]),([1],[1]),([2],[2]),([],[]),([4],[4]),([5],[5]),([3,0,1,2,3,4,5,6],[3]),([7,6,0,1,2,3,4,5,6],[6,7])])
def spec_l5Bent.B4:List Nat:=[0,1,3,7,0,16,48,127,255]
theorem spec_l5Bent.tab4:rtab .any (opsOf Try.f88 4)=spec_l5Bent.T4:=by kernel_rfl
theorem spec_l5Bent.bits4:waitsOk spec_l5Bent.T4.2 spec_l5Bent.B4=true:=by kernel_rfl
def spec_l5Bent.T8:Bool × List (List Nat × List Nat):=(true,[([],[]),([0],[0]),([],[]),([2],[2]),([3],[3]),([4],[4]),([],[]),([5,6],[5,6]),([1,0,1,2,3,4,5,6,7],[1]),([8,7,7,0,1,2,3,4,5,6,7],[7,8])])
def spec_l5Bent.B8:List Nat:=[0,1,0,4,12,28,0,124,255,511]
theorem spec_l5Bent.tab8:rtab .any (opsOf Try.f88 8)=spec_l5Bent.T8:=by kernel_rfl
theorem spec_l5Bent.bits8:waitsOk spec_l5Bent.T8.2 spec_l5Bent.B8=true:=by kernel_rfl
theorem zp37_0_ {p q:Prop} (h:p) (c:p→q:=by intro h_;repeat (first | (with_reducible first | exact h_ | apply IsS125.alloc | apply IsS125.drewN | apply IsS125.drew | apply IsS125.set_1 | apply IsS125.set_2) | exact h_)):q:=c h
theorem zp37_1_ {p q g1:Prop} (h:p) (h1:g1) (c:p→g1→q:=by intro h_ h1_;repeat (first | (with_reducible first | exact h_ | apply IsS125.alloc | apply IsS125.drewN | apply IsS125.drew | apply IsS125.set_1 | apply IsS125.set_2 | refine IsS125.far ?_ h1_ _) | exact h_)):q:=c h h1
theorem zp37_2_ {p q g1 g2:Prop} (h:p) (h1:g1) (h2:g2) (c:p→g1→g2→q:=by intro h_ h1_ h2_;repeat (first | (with_reducible first | exact h_ | apply below_alloc | apply pw_below_drewN | apply below_drew1 | refine below_set ?_ h1_ | refine below_set ?_ h2_) | exact h_)):q:=c h h1 h2
theorem zp37_3_ {p q g1 g2:Prop} (h:p) (h1:g1) (h2:g2) (c:p→g1→g2→q:=by intro h_ h1_ h2_;repeat (first | (with_reducible first | exact h_ | apply IsS125.alloc | apply IsS125.drewN | apply IsS125.drew | apply IsS125.set_1 | apply IsS125.set_2 | refine IsS125.far ?_ h1_ _ | refine IsS125.far ?_ h2_ _) | exact h_)):q:=c h h1 h2
theorem zp37_4_ {p q g1 g2 g3:Prop} (h:p) (h1:g1) (h2:g2) (h3:g3) (c:p→g1→g2→g3→q:=by intro h_ h1_ h2_ h3_;repeat (first | (with_reducible first | exact h_ | apply below_alloc | apply pw_below_drewN | apply below_drew1 | refine below_set ?_ h1_ | refine below_set ?_ h2_ | refine below_set ?_ h3_) | exact h_)):q:=c h h1 h2 h3
theorem zp37_5_ {p q g1 g2:Prop} (h:p) (h1:g1) (h2:g2) (c:p→g1→g2→q:=by intro h_ h1_ h2_;repeat (first | (with_reducible first | exact h_ | apply KeepBut.set_ | apply keep_drewN | apply keep_drew | apply keep_alloc | refine keep_far ?_ h1_ _ | refine keep_far ?_ h2_ _) | exact h_)):q:=c h h1 h2
set_option maxHeartbeats 8000000 in
set_option maxRecDepth 100000 in
theorem spec_l5Bent.calls (k:Nat) (g:Nat) (s0_0:List Int) (s0_1:Int) (s0_2:Int) (r1:List Bool) (r2:List (List Int)) (r3:Int) (r4:Int) (w0 w:World) (hI:IsS125 w0 w g s0_0 s0_1 s0_2) (hB:Below w0.heap.size w0 w) (h:spec_l5Bent.f k s0_0 s0_1 s0_2=some (r1,r2,r3,r4)) :
  Calls Try.prog 88 #[.pointer (some ⟨g,0,none⟩)] w fun e w'=>∃ v0_ v1_:Value,e = .returned (.agg #[v0_,v1_])∧Kd.R Kd.bool 4 w' w.heap.size (fun _=>True) v0_ r1∧Kd.S (Kd.slice 3 (Kd.int .i64)) 67 w' w.heap.size (fun _=>True) v1_ r2∧IsS125 w0 w' g s0_0 r3 r4∧Below w0.heap.size w0 w'∧KeepBut w w' g none:=by
 have hu27:=Try.underlying27
 have HI0:=am_ hI
 have HK:=am_ (KeepBut.refl w g none)
 have HL:=am_ hB.size
 clear hI
 have HW0:=am_ hB.size
 have HB:=am_ hB
 clear hB
 have H:((spec_l5Draw.f k s0_0 s0_1 s0_2 5).bind fun bt469=>((spec_l1Below.f s0_0 bt469.2.2.1 bt469.2.2.2 12).bind fun bt478=>(if bt478.1=0 then (if 0<(bt469.2.1.length:Int) then (if 0<((rd_L1 bt469.2.1 0).length:Int) then (some (bt469.1,(bt469.2.1.set (0:Int).toNat ((rd_L1 bt469.2.1 0).set (0:Int).toNat (bt469.1.length:Int))),bt478.2.1,bt478.2.2)) else (none)) else (none)) else (if bt478.1=1 then (if bt469.1.length<140737488355328 then (some ((bt469.1 ++ [true]),bt469.2.1,bt478.2.1,bt478.2.2)) else (none)) else (if bt478.1=2 then (if 0<(bt469.2.1.length:Int) then (if (rd_L1 bt469.2.1 0).length<17592186044416 then (some (bt469.1,(bt469.2.1.set (0:Int).toNat ((rd_L1 bt469.2.1 0) ++ [0])),bt478.2.1,bt478.2.2)) else (none)) else (none)) else (some (bt469.1,bt469.2.1,bt478.2.1,bt478.2.2)))))))=some (r1,r2,r3,r4):=h
 clear h
 replace H:=Option.bind_eq_some_iff.mp H
 obtain ⟨⟨aj,ad,ap,aq⟩,A20,H⟩:=H
 have A2:=am_ A20
 clear A20
 replace H:=Option.bind_eq_some_iff.mp H
 obtain ⟨⟨aw,aI,aJ⟩,A30,H⟩:=H
 have A3:=am_ A30
 clear A30
 by_cases c4:aw=0
 ·rw [if_pos c4] at H
  have c4b0:(aw == 0)=true:=beq_iff_eq.mpr c4
  have c4b1:(aw != 0)=false:=bne_eq_false_iff_eq.mpr c4
  clear c4
  by_cases c5:0<(ad.length:Int)
  ·rw [if_pos c5] at H
   have c5b0:decide (0<(ad.length:Int))=true:=decide_eq_true c5
   have c5b1:decide (0<ad.length)=true:=decide_eq_true (by omega)
   clear c5
   by_cases c6:0<((rd_L1 ad 0).length:Int)
   ·rw [if_pos c6] at H
    have c6b0:decide (0<((rd_L1 ad 0).length:Int))=true:=decide_eq_true c6
    have c6b1:decide (0<(rd_L1 ad 0).length)=true:=decide_eq_true (by omega)
    clear c6
    obtain ⟨bg,hy482⟩:∃ y_:List Int,y_=((rd_L1 ad 0).set (0:Int).toNat (aj.length:Int)):=⟨_,rfl⟩
    replace H:(some (aj,(ad.set (0:Int).toNat bg),aI,aJ))=some (r1,r2,r3,r4):=by first | (rw [hy482];with_reducible exact H) | (have H2_:=(Option.bind_some _ _).symm.trans H;rw [hy482];with_reducible exact H2_) | (have H2_:=(Option.bind_some _ _).symm.trans H;with_reducible exact H2_) | with_reducible exact H | (rw [hy482];exact H) | exact H
    have bw:=am_ hy482
    clear hy482
    obtain ⟨bq,hy484⟩:∃ y_:List (List Int),y_=(ad.set (0:Int).toNat bg):=⟨_,rfl⟩
    replace H:(some (aj,bq,aI,aJ))=some (r1,r2,r3,r4):=by first | (rw [hy484];with_reducible exact H) | (have H2_:=(Option.bind_some _ _).symm.trans H;rw [hy484];with_reducible exact H2_) | (have H2_:=(Option.bind_some _ _).symm.trans H;with_reducible exact H2_) | with_reducible exact H | (rw [hy484];exact H) | exact H
    have bx:=am_ hy484
    clear hy484
    simp only [Option.some.injEq,Prod.mk.injEq] at H
    obtain ⟨rfl,rfl,rfl,rfl⟩:=H
    go_enter Try.func88,Try.ntmps88
    try go_wp2_with (first | ((with_reducible refine gate_dst (N:=2) rfl ?_);refine box_event ?hg (N:=2) ?hd (cs:=#[.slice none 0 0,.slice none 0 0]) (t:=27) ?hr ?_;(case hd=>rfl);(case hg=>rfl);(case hr=>first | (go_simp;done) | (go_simp;rfl));intro ae hg w8 hbox hb;have n0_:=am_ (IsS125.below (zp37_0_ HI0.out) hb);have n1_:=am_ (KeepBut.trans (k0_ HK.out) (KeepBut.of_below hb g none) (.inl rfl));have n2_:=am_ (below_step (b1_ HB.out (IsS125.ge HI0.out)) hb);have n3_:=am_ (hbox);have n4_:=am_ ((by rw [hg];exact (keep_size (w:=w) (g:=g) (row:=none) (k0_ HK.out)):w.heap.size≤ae));have n5_:=am_ ((Nat.le_trans HW0.out (by rw [hg];exact (keep_size (w:=w) (g:=g) (row:=none) (k0_ HK.out)):w.heap.size≤ae):w0.heap.size≤ae));have n6_:=am_ ((by rw [hg];exact Nat.ne_of_lt (IsS125.lt (show IsS125 w0 _ g s0_0 s0_1 s0_2 from by exact zp37_0_ HI0.out)):g ≠ ae));have n7_:=am_ ((by rw [hg];exact Nat.ne_of_gt (IsS125.lt (show IsS125 w0 _ g s0_0 s0_1 s0_2 from by exact zp37_0_ HI0.out)):ae ≠ g));clear HI0;clear HK;clear HB;have HI0:=n0_;have HK:=n1_;have HB:=n2_;have aa:=n3_;have ak:=n4_;have an:=n5_;have ah:=n6_;have ao:=n7_;clear n0_ n1_ n2_ n3_ n4_ n5_ n6_ n7_;clear hb hbox hg) | ((with_reducible refine gate_callee (f:=86) rfl ?_);refine gL_ (some 5) Try.func86 #[.pointer (some ⟨g,0,none⟩),.int .i64 5] ?_;(with_reducible refine (spec_l5Draw.calls k g s0_0 s0_1 s0_2 5 aj ad ap aq w0 _ ?side1 ?side2 A2.out).mono ?_);(case side1=>exact zp37_1_ HI0.out ah.out);(case side2=>exact zp37_2_ HB.out (IsS125.ge HI0.out) an.out);rintro e w9 ⟨bh,bi,rfl,ho0,ho1,hi,hb,hk⟩;refine ⟨_,rfl,?_⟩;have n0_:=am_ (KeepBut.blk hk (g':=ae) (o:=.cells #[.slice none 0 0,.slice none 0 0] 27 (0,0)) (rb_ aa.out) ao.out (by simp));have n1_:=am_ (Kd.R_lower ho0 (keep_size (w:=w) (g:=g) (row:=none) (k1_ HK.out ak.out)));have n2_:=am_ (Kd.S_lower ho1 (keep_size (w:=w) (g:=g) (row:=none) (k1_ HK.out ak.out)));have n3_:=am_ (KeepBut.trans (k1_ HK.out ak.out) hk (.inl rfl));have n4_:=am_ (hb);have n5_:=am_ (hi);clear aa;clear HK;clear HB;clear HI0;have aa:=n0_;have ai:=n1_;have af:=n2_;have HK:=n3_;have HB:=n4_;have HI0:=n5_;clear n0_ n1_ n2_ n3_ n4_ n5_;(try clear hb);(try clear hb2);(try clear hk);(try clear hi);(try clear ho0);(try clear ho1)) | ((with_reducible refine gate_dst (N:=3) rfl ?_);refine box_event ?hg (N:=3) ?hd (cs:=#[.slice none 0 0,.slice none 0 0]) (t:=27) ?hr ?_;(case hd=>rfl);(case hg=>rfl);(case hr=>first | (go_simp;done) | (go_simp;rfl));intro ag hg w10 hbox hb;have n0_:=am_ (Kd.R_below (rr_ ai.out) hb);have n1_:=am_ (Kd.S_below (rs_ af.out) hb);have n2_:=am_ (IsS125.below (zp37_1_ HI0.out ah.out) hb);have n3_:=am_ (blk_below (rb_ aa.out) hb);have n4_:=am_ (KeepBut.trans (k1_ HK.out ak.out) (KeepBut.of_below hb g none) (.inl rfl));have n5_:=am_ (below_step (b2_ HB.out (IsS125.ge HI0.out) an.out) hb);have n6_:=am_ (hbox);have n7_:=am_ ((by rw [hg];exact (keep_size (w:=w) (g:=g) (row:=none) (k1_ HK.out ak.out)):w.heap.size≤ag));have n8_:=am_ ((Nat.le_trans HW0.out (by rw [hg];exact (keep_size (w:=w) (g:=g) (row:=none) (k1_ HK.out ak.out)):w.heap.size≤ag):w0.heap.size≤ag));have n9_:=am_ ((by rw [hg];exact Nat.ne_of_lt (blk_lt (rb_ aa.out)):ae ≠ ag));have n10_:=am_ ((by rw [hg];exact Nat.ne_of_gt (blk_lt (rb_ aa.out)):ag ≠ ae));have n11_:=am_ ((by rw [hg];exact Nat.ne_of_lt (IsS125.lt (show IsS125 w0 _ g s0_0 ap aq from by exact zp37_1_ HI0.out ah.out)):g ≠ ag));have n12_:=am_ ((by rw [hg];exact Nat.ne_of_gt (IsS125.lt (show IsS125 w0 _ g s0_0 ap aq from by exact zp37_1_ HI0.out ah.out)):ag ≠ g));clear ai;clear af;clear HI0;clear aa;clear HK;clear HB;have ai:=n0_;have af:=n1_;have HI0:=n2_;have aa:=n3_;have HK:=n4_;have HB:=n5_;have ab:=n6_;have au:=n7_;have ax:=n8_;have am:=n9_;have ay:=n10_;have al:=n11_;have av:=n12_;clear n0_ n1_ n2_ n3_ n4_ n5_ n6_ n7_ n8_ n9_ n10_ n11_ n12_;clear hb hbox hg;obtain ⟨aD,aE,bC⟩:=Kd.R_slice ai.out;subst bC;have cO:=ay.out;have cP:=am.out;have cQ:=av.out;have cR:=al.out;have bL:=ck_ (v:=(.slice none 0 0)) ab 0 rfl;have bM:=ck_ (v:=(.slice none 0 0)) ab 1 rfl;have bN:=blk_frozen ab.out 0;have bO:=blk_frozen ab.out 1;obtain ⟨bj,aN,bD⟩:=Kd.S_slice af.out;subst bD) | ((with_reducible refine gate_callee (f:=107) rfl ?_);refine gL_ (some 7) Try.func107 #[.pointer (some ⟨g,0,none⟩),.int .i64 12] ?_;(with_reducible refine (spec_l1Below.calls g s0_0 ap aq 12 aw aI aJ w0 _ ?side1 ?side2 A3.out).mono ?_);(case side1=>exact zp37_3_ HI0.out ah.out al.out);(case side2=>exact zp37_4_ HB.out (IsS125.ge HI0.out) an.out ax.out);rintro e w16 ⟨rfl,hi,hb,hk⟩;refine ⟨_,rfl,?_⟩;have n0_:=am_ (KeepBut.blk hk (g':=ae) (o:=.cells #[.slice none 0 0,.slice none 0 0] 27 (0,0)) (by refine rb_ ?_;refine blk_far ?_ am.out _;refine rb_ ?_;refine blk_far ?_ am.out _;refine rb_ ?_;exact aa.out) ao.out (by simp));have n1_:=am_ (Kd.R_mono (Kd.R_keep (IsS125.apart (show IsS125 w0 _ g s0_0 ap aq from by exact zp37_3_ HI0.out ah.out al.out) (rr_ (Kd.R_mono (Kd.R_far (p:=⟨ag,1,none⟩) (Kd.R_far (p:=⟨ag,0,none⟩) (Kd.R_types ai.out ab.out (by decide)) (fun _ hk=>hk.2) (.slice aD aj.length aE)) (fun _ hk=>hk.2) (.slice bj ad.length aN)) (fun _ h_=>h_.1))) (by decide)) hk (fun _ h=>h.2)) (fun _ h=>h.1));have n2_:=am_ (Kd.S_mono (Kd.S_keep (IsS125.apartS (show IsS125 w0 _ g s0_0 ap aq from by exact zp37_3_ HI0.out ah.out al.out) (rs_ (Kd.S_mono (Kd.S_far (p:=⟨ag,1,none⟩) (Kd.S_far (p:=⟨ag,0,none⟩) (Kd.S_types af.out ab.out (by decide)) (fun _ hk=>hk.2) (.slice aD aj.length aE)) (fun _ hk=>hk.2) (.slice bj ad.length aN)) (fun _ h_=>h_.1))) (by decide)) hk (fun _ h=>h.2)) (fun _ h=>h.1));have n3_:=am_ (KeepBut.blk hk (g':=ag) (o:=.cells #[.slice aD aj.length aE,.slice bj ad.length aN] 27 (0,0)) (by refine rb_ ?_;refine blk_put (cs:=#[.slice aD aj.length aE,.slice none 0 0]) ?_ 1 _ rfl;refine rb_ ?_;refine blk_put (cs:=#[.slice none 0 0,.slice none 0 0]) ?_ 0 _ rfl;refine rb_ ?_;exact ab.out) av.out (by simp));have n4_:=am_ (KeepBut.trans (k2_ HK.out ak.out au.out) hk (.inl rfl));have n5_:=am_ (hb);have n6_:=am_ (hi);clear aa;clear ai;clear af;clear ab;clear HK;clear HB;clear HI0;have aa:=n0_;have ai:=n1_;have af:=n2_;have ab:=n3_;have HK:=n4_;have HB:=n5_;have HI0:=n6_;clear n0_ n1_ n2_ n3_ n4_ n5_ n6_;(try clear hb);(try clear hb2);(try clear hk);(try clear hi)))
    replace ai:=am_ (Kd.R_drew ai.out)
    replace af:=am_ (Kd.S_drew af.out)
    replace aa:=am_ (blk_drew aa.out)
    replace ab:=am_ (blk_drew ab.out)
    replace HI0:=am_ (IsS125.drew HI0.out)
    replace HK:=am_ (keep_drew HK.out)
    replace HB:=am_ (below_drew1 HB.out)
    have p481:0≤(0:Int):=(by omega)
    have q481:0<(ad.length:Int):=of_decide_eq_true ah_
    obtain ⟨aM,A481_0,c481_0,e481,aG,hl481_0,hi481_0⟩:=at_L1 (Kd.S_reads' af.out).2.2 0 p481 q481
    cases e481
    obtain ⟨ce481,hce481,hMe481,hcc481⟩:=Kd.S_get af.out [] 0 p481 (by first | exact q481 | exact of_decide_eq_true ah_ | (have e_:=(Kd.S_reads' af.out).1;omega))
    obtain ⟨ve481_0,rfl,ge481_0⟩:=hMe481
    have hv481_0:=hcc481 0 _ rfl
    rw [Nat.add_zero,show ((Kd.slice 3 (Kd.int .i64))).sz=1 from rfl,Nat.mul_one] at hv481_0
    replace hv481_0:=Option.some.inj (hv481_0.symm.trans aG)
    rw [hv481_0] at ge481_0
    have aH:=am_ (show Kd.R (Kd.int .i64) 3 _ _ _ _ (rd_L1 ad 0) from ge481_0)
    clear hv481_0 ge481_0
    have HX481_0:=am_ aG
    clear hcc481 hce481
    have qi481:(0<ad.length)=True:=eq_true (by omega)
    (try rw [show ((0:Int)).toNat=0 from rfl] at aG)
    (try rw [Addr.add_zero'] at aG)
    have bo:=am_ hi481_0
    have bP:=am_ hl481_0
    clear hi481_0 hl481_0
    replace p481:=eq_true p481
    replace q481:=eq_true q481
    have p7:0≤(0:Int):=(by omega)
    have q7:(0:Int)<(((rd_L1 ad 0).length:Int):Int):=of_decide_eq_true ah_
    have qi7:(0<(rd_L1 ad 0).length)=True:=eq_true (by omega)
    obtain ⟨go7,co7,eo7,gb7,gl7,cl7,HG7⟩:=Kd.R_form aH.out (by omega)
    (first | cases eo7 | (injection eo7 with ea_ en_ ec_;(first | subst ea_ | (injection ea_ with ea_;subst ea_));subst ec_;clear en_))
    have GB7:=am_ gb7
    have GG7:=am_ HG7
    clear gb7 gl7 HG7
    obtain ⟨bf,hf7_0⟩:=Kd.R_celln 0 aH.out (0:Int) p7 q7
    (try rw [show ((0:Int)).toNat=0 from rfl] at bf)
    (try simp only [Nat.reduceMul,Nat.zero_mul,Nat.zero_add,Nat.reduceAdd] at bf)
    (try rw [show ((0:Int)).toNat=0 from rfl] at hf7_0)
    (try simp only [Nat.reduceMul,Nat.zero_mul,Nat.zero_add,Nat.reduceAdd] at hf7_0)
    replace p7:=eq_true p7
    replace q7:=eq_true q7
    have hq18:(0:Int)<(ad.length:Int):=(by have h_:(0:Int)<((ad.length:Int):Int):=of_decide_eq_true ah_;first | exact h_ | (have e_:=(Kd.S_reads' af.out).1;omega) | simpa only [List.length_set,List.length_set] using h_)
    obtain ⟨oki18,ce18,hcl18,hM18,hcc18,hok18,hbk18⟩:=Kd.S_borrow af.out [] (0:Int) (by omega) hq18
    obtain ⟨ve18_0,rfl,ge18_0⟩:=hM18
    have hv18:=hcc18 0 _ rfl
    rw [Nat.add_zero,show ((Kd.slice 3 (Kd.int .i64))).sz=1 from rfl,Nat.mul_one] at hv18
    replace hv18:=Option.some.inj (hv18.symm.trans HX481_0.out)
    subst hv18
    clear hcc18 hcl18
    replace ge18_0:=(show Kd.R (Kd.int .i64) 3 _ _ _ _ (rd_L1 ad 0) from ge18_0)
    have HP18:=Kd.R_putg ge18_0 (0:Int) (aj.length:Int)
    have HN0_go7:=am_ (show g ≠ go7 from by have h_:=IsS125.own_ne HI0.out aH.out (by decide);intro e_;exact h_ (by rw [e_];rfl))
    rw [← bw.out] at HP18
    have HS18:=hbk18 HP18.2 (fun k_ e_=>by injection e_ with e_;subst e_;exact ge18_0.1 _ rfl) (x':=bg) (Kd.M_row HP18.1)
    rw [← bx.out] at HS18
    have HQ18:=am_ HS18
    clear HP18 HS18 hbk18 hok18
    refine start_ (n:=9) (S:=fun w'=>w'.cell? ⟨ag,0,none⟩=some (.slice aD aj.length aE)∧w'.cell? ⟨ag,1,none⟩=some (.slice (some aM) ad.length aN)∧w'.cell? aM=some (.slice (some ⟨go7,0,none⟩) (rd_L1 ad 0).length c481_0)) (ds:=[8]) (bl 9 0) (by kernel_rfl) rfl rfl ⟨(blk_cell ab.out 0).trans rfl,(blk_cell ab.out 1).trans rfl,aG⟩ (fun hHeld=>?_);refine with_tabW spec_l5Bent.tab4 spec_l5Bent.bits4 (fun HT_ HW_=>?_)
    generalize w16.drew=w17 at ai af aa ab HI0 HK HB GG7 aH HQ18 bo HX481_0 hf7_0 aG bf hHeld ⊢
    refine pu_ 0 10 (bl 9 1) HT_ ?_
    refine pu_ 4 14 (bl 9 17) HT_ ?_
    refine tk_ 1 11 (bl 9 19) HT_ HW_ hHeld ?_
    refine pu_ 2 12 (bl 9 23) HT_ ?_
    refine tk_ 3 13 (bl 9 31) HT_ HW_ hHeld ?_
    refine tk_ 5 15 (bl 9 63) HT_ HW_ hHeld ?_
    refine pu_ 6 16 (bl 9 127) HT_ ?_
    refine pu_ 7 17 (bl 9 255) HT_ ?_
    refine last_ (i:=8) (N:=none) (bl 9 511) rfl rfl (one_of HT_.out (by kernel_rfl)) (by decide) (fun K hK=>?_)
    refine skip_ (w1:=?_) (by rfl) rfl ?_ ?_
    rotate_left
    ·go_simp
     rfl
    refine hK.out _ _ ?_
    clear hK K
    refine done_ (done_of HT_.out (by kernel_rfl)) ?_
    have n0_:Aside0 (Kd.R Kd.bool 4 (w17.setCell ⟨go7,0,none⟩ (.int .i64 (aj.length:Int))) w.heap.size (fun _=>True) (.slice aD aj.length aE) aj):=⟨by refine rr_ ?_;exact Kd.R_mono (Kd.R_far (p:=⟨go7,0,none⟩) (Kd.R_types ai.out GG7.out (by decide)) (fun _ hk=>hk.2) (.int .i64 (aj.length:Int))) (fun _ hk=>trivial)⟩
    have n1_:Aside0 (Kd.S (Kd.slice 3 (Kd.int .i64)) 67 (w17.setCell ⟨go7,0,none⟩ (.int .i64 (aj.length:Int))) w.heap.size (fun _=>True) (.slice (some aM) ad.length aN) bq):=⟨by refine rs_ ?_;exact HQ18.out⟩
    have n2_:Aside0 ((w17.setCell ⟨go7,0,none⟩ (.int .i64 (aj.length:Int))).heap[ae]? = some (.cells #[.slice none 0 0,.slice none 0 0] 27 (0,0))):=⟨by refine rb_ ?_;refine blk_far ?_ (by have h_:=Kd.R_ne aH.out aa.out (by decide);intro e_;exact h_ (by rw [e_];rfl)) _;refine rb_ ?_;exact aa.out⟩
    have n3_:Aside0 ((w17.setCell ⟨go7,0,none⟩ (.int .i64 (aj.length:Int))).heap[ag]? = some (.cells #[.slice aD aj.length aE,.slice (some aM) ad.length aN] 27 (0,0))):=⟨by refine rb_ ?_;refine blk_far ?_ (by have h_:=Kd.R_ne aH.out ab.out (by decide);intro e_;exact h_ (by rw [e_];rfl)) _;refine rb_ ?_;exact ab.out⟩
    have n4_:Aside0 (IsS125 w0 (w17.setCell ⟨go7,0,none⟩ (.int .i64 (aj.length:Int))) g s0_0 aI aJ):=⟨by repeat (first | (with_reducible first | exact HI0.out | apply IsS125.alloc | apply IsS125.drewN | apply IsS125.drew | apply IsS125.set_1 | apply IsS125.set_2 | refine IsS125.far ?_ HN0_go7.out _ | refine IsS125.far ?_ ah.out _ | refine IsS125.far ?_ al.out _) | exact HI0.out)⟩
    have n5_:Aside0 (KeepBut w (w17.setCell ⟨go7,0,none⟩ (.int .i64 (aj.length:Int))) g none):=⟨by repeat (first | (with_reducible first | exact HK.out | apply KeepBut.set_ | apply keep_drewN | apply keep_drew | apply keep_alloc | refine keep_far ?_ GB7.out _ | refine keep_far ?_ ak.out _ | refine keep_far ?_ au.out _) | exact HK.out)⟩
    have n6_:Aside0 (Below w0.heap.size w0 (w17.setCell ⟨go7,0,none⟩ (.int .i64 (aj.length:Int)))):=⟨by repeat (first | (with_reducible first | exact HB.out | apply below_alloc | apply pw_below_drewN | apply below_drew1 | refine below_set ?_ (Nat.le_trans HL.out GB7.out) | refine below_set ?_ (IsS125.ge HI0.out) | refine below_set ?_ an.out | refine below_set ?_ ax.out) | exact HB.out)⟩
    (try clear ai)
    (try clear af)
    (try clear aa)
    (try clear ab)
    (try clear HI0)
    (try clear HK)
    (try clear HB)
    generalize (w17.setCell ⟨go7,0,none⟩ (.int .i64 (aj.length:Int)))=w20 at n0_ n1_ n2_ n3_ n4_ n5_ n6_ ⊢
    have ai:=n0_;have af:=n1_;have aa:=n2_;have ab:=n3_;have HI0:=n4_;have HK:=n5_;have HB:=n6_
    clear n0_ n1_ n2_ n3_ n4_ n5_ n6_
    have bQ:=ck_ (v:=(.slice aD aj.length aE)) ab 0 rfl
    have bR:=ck_ (v:=(.slice (some aM) ad.length aN)) ab 1 rfl
    have bS:=blk_frozen ab.out 0
    have bT:=blk_frozen ab.out 1
    have cS:=ao.out
    have cT:=ah.out
    have bU:=ck_ (v:=(.slice none 0 0)) aa 0 rfl
    have bV:=ck_ (v:=(.slice none 0 0)) aa 1 rfl
    have bW:=blk_frozen aa.out 0
    have bX:=blk_frozen aa.out 1
    try go_wp2
    refine bodyPost_ret (results_cell_row rfl _ _ ae 27 #[.slice aD aj.length aE,.slice (some aM) ad.length aN] (0,0) _ rfl (by refine rb_ ?_;refine blk_put (cs:=#[.slice aD aj.length aE,.slice none 0 0]) ?_ 1 _ rfl;refine rb_ ?_;refine blk_put (cs:=#[.slice none 0 0,.slice none 0 0]) ?_ 0 _ rfl;refine rb_ ?_;exact aa.out) Try.underlying27 rfl (by kernel_rfl)) rfl ?_
    exact ⟨_,_,by first | rfl | (simp [errW_none,errW_some] <;> rfl) | (simp [*,errW_none,errW_some] <;> rfl),by refine rr_ ?_;exact Kd.R_mono (Kd.R_far (p:=⟨ae,1,none⟩) (Kd.R_far (p:=⟨ae,0,none⟩) (Kd.R_types ai.out aa.out (by decide)) (fun _ hk=>hk.2) (.slice aD aj.length aE)) (fun _ hk=>hk.2) (.slice (some aM) ad.length aN)) (fun _ hk=>trivial),by refine rs_ ?_;exact Kd.S_mono (Kd.S_far (p:=⟨ae,1,none⟩) (Kd.S_far (p:=⟨ae,0,none⟩) (Kd.S_types af.out aa.out (by decide)) (fun _ hk=>hk.2) (.slice aD aj.length aE)) (fun _ hk=>hk.2) (.slice (some aM) ad.length aN)) (fun _ hk=>trivial),by exact zp37_3_ HI0.out ah.out al.out,by exact zp37_4_ HB.out (IsS125.ge HI0.out) an.out ax.out,by exact zp37_5_ HK.out ak.out au.out⟩
   ·rw [if_neg c6] at H
    exact absurd H (by simp)
  ·rw [if_neg c5] at H
   exact absurd H (by simp)
 ·rw [if_neg c4] at H
  have c4b0:(aw == 0)=false:=beq_eq_false_iff_ne.mpr c4
  have c4b1:(aw != 0)=true:=bne_iff_ne.mpr c4
  by_cases c24:aw=1
  ·rw [if_pos c24] at H
   have c24b0:(aw == 1)=true:=beq_iff_eq.mpr c24
   have c24b1:(aw != 1)=false:=bne_eq_false_iff_eq.mpr c24
   clear c24
   by_cases c25:aj.length<140737488355328
   ·rw [if_pos c25] at H
    have LMc25:=am_ c25
    clear c25
    obtain ⟨aZ,hy485⟩:∃ y_:List Bool,y_=(aj ++ [true]):=⟨_,rfl⟩
    replace H:(some (aZ,ad,aI,aJ))=some (r1,r2,r3,r4):=by first | (rw [hy485];with_reducible exact H) | (have H2_:=(Option.bind_some _ _).symm.trans H;rw [hy485];with_reducible exact H2_) | (have H2_:=(Option.bind_some _ _).symm.trans H;with_reducible exact H2_) | with_reducible exact H | (rw [hy485];exact H) | exact H
    have bz:=am_ hy485
    clear hy485
    simp only [Option.some.injEq,Prod.mk.injEq] at H
    obtain ⟨rfl,rfl,rfl,rfl⟩:=H
    go_enter Try.func88,Try.ntmps88
    go_wp2_with (first | ((with_reducible refine gate_dst (N:=2) rfl ?_);refine box_event ?hg (N:=2) ?hd (cs:=#[.slice none 0 0,.slice none 0 0]) (t:=27) ?hr ?_;(case hd=>rfl);(case hg=>rfl);(case hr=>first | (go_simp;done) | (go_simp;rfl));intro ae hg w26 hbox hb;have n0_:=am_ (IsS125.below (zp37_0_ HI0.out) hb);have n1_:=am_ (KeepBut.trans (k0_ HK.out) (KeepBut.of_below hb g none) (.inl rfl));have n2_:=am_ (below_step (b1_ HB.out (IsS125.ge HI0.out)) hb);have n3_:=am_ (hbox);have n4_:=am_ ((by rw [hg];exact (keep_size (w:=w) (g:=g) (row:=none) (k0_ HK.out)):w.heap.size≤ae));have n5_:=am_ ((Nat.le_trans HW0.out (by rw [hg];exact (keep_size (w:=w) (g:=g) (row:=none) (k0_ HK.out)):w.heap.size≤ae):w0.heap.size≤ae));have n6_:=am_ ((by rw [hg];exact Nat.ne_of_lt (IsS125.lt (show IsS125 w0 _ g s0_0 s0_1 s0_2 from by exact zp37_0_ HI0.out)):g ≠ ae));have n7_:=am_ ((by rw [hg];exact Nat.ne_of_gt (IsS125.lt (show IsS125 w0 _ g s0_0 s0_1 s0_2 from by exact zp37_0_ HI0.out)):ae ≠ g));clear HI0;clear HK;clear HB;have HI0:=n0_;have HK:=n1_;have HB:=n2_;have aa:=n3_;have ak:=n4_;have an:=n5_;have ah:=n6_;have ao:=n7_;clear n0_ n1_ n2_ n3_ n4_ n5_ n6_ n7_;clear hb hbox hg) | ((with_reducible refine gate_callee (f:=86) rfl ?_);refine gL_ (some 5) Try.func86 #[.pointer (some ⟨g,0,none⟩),.int .i64 5] ?_;(with_reducible refine (spec_l5Draw.calls k g s0_0 s0_1 s0_2 5 aj ad ap aq w0 _ ?side1 ?side2 A2.out).mono ?_);(case side1=>exact zp37_1_ HI0.out ah.out);(case side2=>exact zp37_2_ HB.out (IsS125.ge HI0.out) an.out);rintro e w27 ⟨bh,bi,rfl,ho0,ho1,hi,hb,hk⟩;refine ⟨_,rfl,?_⟩;have n0_:=am_ (KeepBut.blk hk (g':=ae) (o:=.cells #[.slice none 0 0,.slice none 0 0] 27 (0,0)) (rb_ aa.out) ao.out (by simp));have n1_:=am_ (Kd.R_lower ho0 (keep_size (w:=w) (g:=g) (row:=none) (k1_ HK.out ak.out)));have n2_:=am_ (Kd.S_lower ho1 (keep_size (w:=w) (g:=g) (row:=none) (k1_ HK.out ak.out)));have n3_:=am_ (KeepBut.trans (k1_ HK.out ak.out) hk (.inl rfl));have n4_:=am_ (hb);have n5_:=am_ (hi);clear aa;clear HK;clear HB;clear HI0;have aa:=n0_;have ai:=n1_;have af:=n2_;have HK:=n3_;have HB:=n4_;have HI0:=n5_;clear n0_ n1_ n2_ n3_ n4_ n5_;(try clear hb);(try clear hb2);(try clear hk);(try clear hi);(try clear ho0);(try clear ho1)) | ((with_reducible refine gate_dst (N:=3) rfl ?_);refine box_event ?hg (N:=3) ?hd (cs:=#[.slice none 0 0,.slice none 0 0]) (t:=27) ?hr ?_;(case hd=>rfl);(case hg=>rfl);(case hr=>first | (go_simp;done) | (go_simp;rfl));intro ag hg w28 hbox hb;have n0_:=am_ (Kd.R_below (rr_ ai.out) hb);have n1_:=am_ (Kd.S_below (rs_ af.out) hb);have n2_:=am_ (IsS125.below (zp37_1_ HI0.out ah.out) hb);have n3_:=am_ (blk_below (rb_ aa.out) hb);have n4_:=am_ (KeepBut.trans (k1_ HK.out ak.out) (KeepBut.of_below hb g none) (.inl rfl));have n5_:=am_ (below_step (b2_ HB.out (IsS125.ge HI0.out) an.out) hb);have n6_:=am_ (hbox);have n7_:=am_ ((by rw [hg];exact (keep_size (w:=w) (g:=g) (row:=none) (k1_ HK.out ak.out)):w.heap.size≤ag));have n8_:=am_ ((Nat.le_trans HW0.out (by rw [hg];exact (keep_size (w:=w) (g:=g) (row:=none) (k1_ HK.out ak.out)):w.heap.size≤ag):w0.heap.size≤ag));have n9_:=am_ ((by rw [hg];exact Nat.ne_of_lt (blk_lt (rb_ aa.out)):ae ≠ ag));have n10_:=am_ ((by rw [hg];exact Nat.ne_of_gt (blk_lt (rb_ aa.out)):ag ≠ ae));have n11_:=am_ ((by rw [hg];exact Nat.ne_of_lt (IsS125.lt (show IsS125 w0 _ g s0_0 ap aq from by exact zp37_1_ HI0.out ah.out)):g ≠ ag));have n12_:=am_ ((by rw [hg];exact Nat.ne_of_gt (IsS125.lt (show IsS125 w0 _ g s0_0 ap aq from by exact zp37_1_ HI0.out ah.out)):ag ≠ g));clear ai;clear af;clear HI0;clear aa;clear HK;clear HB;have ai:=n0_;have af:=n1_;have HI0:=n2_;have aa:=n3_;have HK:=n4_;have HB:=n5_;have ab:=n6_;have au:=n7_;have ax:=n8_;have am:=n9_;have ay:=n10_;have al:=n11_;have av:=n12_;clear n0_ n1_ n2_ n3_ n4_ n5_ n6_ n7_ n8_ n9_ n10_ n11_ n12_;clear hb hbox hg;obtain ⟨aX,aY,bE⟩:=Kd.R_slice ai.out;subst bE;have cU:=ay.out;have cV:=am.out;have cW:=av.out;have cX:=al.out;have bY:=ck_ (v:=(.slice none 0 0)) ab 0 rfl;have bZ:=ck_ (v:=(.slice none 0 0)) ab 1 rfl;have ca:=blk_frozen ab.out 0;have cb:=blk_frozen ab.out 1;obtain ⟨aT,aU,bF⟩:=Kd.S_slice af.out;subst bF) | ((with_reducible refine gate_callee (f:=107) rfl ?_);refine gL_ (some 7) Try.func107 #[.pointer (some ⟨g,0,none⟩),.int .i64 12] ?_;(with_reducible refine (spec_l1Below.calls g s0_0 ap aq 12 aw aI aJ w0 _ ?side1 ?side2 A3.out).mono ?_);(case side1=>exact zp37_3_ HI0.out ah.out al.out);(case side2=>exact zp37_4_ HB.out (IsS125.ge HI0.out) an.out ax.out);rintro e w34 ⟨rfl,hi,hb,hk⟩;refine ⟨_,rfl,?_⟩;have n0_:=am_ (KeepBut.blk hk (g':=ae) (o:=.cells #[.slice none 0 0,.slice none 0 0] 27 (0,0)) (by refine rb_ ?_;refine blk_far ?_ am.out _;refine rb_ ?_;refine blk_far ?_ am.out _;refine rb_ ?_;exact aa.out) ao.out (by simp));have n1_:=am_ (Kd.R_mono (Kd.R_keep (IsS125.apart (show IsS125 w0 _ g s0_0 ap aq from by exact zp37_3_ HI0.out ah.out al.out) (rr_ (Kd.R_mono (Kd.R_far (p:=⟨ag,1,none⟩) (Kd.R_far (p:=⟨ag,0,none⟩) (Kd.R_types ai.out ab.out (by decide)) (fun _ hk=>hk.2) (.slice aX aj.length aY)) (fun _ hk=>hk.2) (.slice aT ad.length aU)) (fun _ h_=>h_.1))) (by decide)) hk (fun _ h=>h.2)) (fun _ h=>h.1));have n2_:=am_ (Kd.S_mono (Kd.S_keep (IsS125.apartS (show IsS125 w0 _ g s0_0 ap aq from by exact zp37_3_ HI0.out ah.out al.out) (rs_ (Kd.S_mono (Kd.S_far (p:=⟨ag,1,none⟩) (Kd.S_far (p:=⟨ag,0,none⟩) (Kd.S_types af.out ab.out (by decide)) (fun _ hk=>hk.2) (.slice aX aj.length aY)) (fun _ hk=>hk.2) (.slice aT ad.length aU)) (fun _ h_=>h_.1))) (by decide)) hk (fun _ h=>h.2)) (fun _ h=>h.1));have n3_:=am_ (KeepBut.blk hk (g':=ag) (o:=.cells #[.slice aX aj.length aY,.slice aT ad.length aU] 27 (0,0)) (by refine rb_ ?_;refine blk_put (cs:=#[.slice aX aj.length aY,.slice none 0 0]) ?_ 1 _ rfl;refine rb_ ?_;refine blk_put (cs:=#[.slice none 0 0,.slice none 0 0]) ?_ 0 _ rfl;refine rb_ ?_;exact ab.out) av.out (by simp));have n4_:=am_ (KeepBut.trans (k2_ HK.out ak.out au.out) hk (.inl rfl));have n5_:=am_ (hb);have n6_:=am_ (hi);clear aa;clear ai;clear af;clear ab;clear HK;clear HB;clear HI0;have aa:=n0_;have ai:=n1_;have af:=n2_;have ab:=n3_;have HK:=n4_;have HB:=n5_;have HI0:=n6_;clear n0_ n1_ n2_ n3_ n4_ n5_ n6_;(try clear hb);(try clear hb2);(try clear hk);(try clear hi);have cc:=ck_ (v:=(.slice aX aj.length aY)) ab 0 rfl;have cd:=ck_ (v:=(.slice aT ad.length aU)) ab 1 rfl;have ce:=blk_frozen ab.out 0;have cf:=blk_frozen ab.out 1) | ((with_reducible refine gate_builtin (b:=.append) (xs:=#[.tmp 21,.tmp 22]) rfl ?_);at_builtin;refine Kd.R_append Kd.bool w.heap.size rfl (.tmp 21) (.tmp 22) 22 4 (.bool false) 1 rfl Try.underlying22 info4 rfl (by decide) (by omega) (.slice aX aj.length aY) aj true [.bool true] (fun _=>True) (fun _=>False) rfl rfl ?aP (fun _ hk=>hk.elim) ?aF ?aO (Below.refl _ _) ?aS ?aL ?_;(case aP=>exact rfl);(case aF=>exact (fun _ _=>trivial));(case aO=>exact (rr_ ai.out));(case aS=>exact (keep_size (w:=w) (g:=g) (row:=none) (k2_ HK.out ak.out au.out)));(case aL=>have:=LMc25.out;omega);intro dn w36 ho hb hg hat;rw [← bz.out] at ho;have n0_:=am_ (IsS125.grown (zp37_3_ HI0.out ah.out al.out) hg (IsS125.own_ne HI0.out ai.out (by decide)));have n1_:=am_ (blk_grown (g:=ae) (o:=.cells #[.slice none 0 0,.slice none 0 0] 27 (0,0)) (rb_ aa.out) hg (Kd.R_ne ai.out aa.out (by decide)));have n2_:=am_ (Kd.S_over' (rs_ af.out) (Kd.R_typed (rr_ ai.out)) (by decide) hg);have n3_:=am_ (blk_grown (g:=ag) (o:=.cells #[.slice aX aj.length aY,.slice aT ad.length aU] 27 (0,0)) (rb_ ab.out) hg (Kd.R_ne ai.out ab.out (by decide)));have n4_:=am_ (below_weaken (b3_ HB.out (IsS125.ge HI0.out) an.out ax.out) HL.out hb);have n5_:=am_ (KeepBut.trans (k2_ HK.out ak.out au.out) (KeepBut.of_grown hg g) (Kd.R_base2 ai.out));have n6_:=am_ (ho);clear HI0;clear aa;clear af;clear ab;clear HB;clear HK;clear ai;have HI0:=n0_;have aa:=n1_;have af:=n2_;have ab:=n3_;have HB:=n4_;have HK:=n5_;have bm:=n6_;clear n0_ n1_ n2_ n3_ n4_ n5_ n6_;clear ho hb hg hat;obtain ⟨bd,be,bG⟩:=Kd.R_slice bm.out;subst bG;have cg:=ck_ (v:=(.slice aX aj.length aY)) ab 0 rfl;have ch:=ck_ (v:=(.slice aT ad.length aU)) ab 1 rfl;have ci:=blk_frozen ab.out 0;have cj:=blk_frozen ab.out 1;have cY:=ao.out;have cZ:=ah.out;have ck:=ck_ (v:=(.slice none 0 0)) aa 0 rfl;have cl:=ck_ (v:=(.slice none 0 0)) aa 1 rfl;have cm:=blk_frozen aa.out 0;have cn:=blk_frozen aa.out 1))
    refine bodyPost_ret (results_cell_row rfl _ _ ae 27 #[.slice bd aZ.length be,.slice aT ad.length aU] (0,0) _ rfl (by refine rb_ ?_;refine blk_put (cs:=#[.slice bd aZ.length be,.slice none 0 0]) ?_ 1 _ rfl;refine rb_ ?_;refine blk_put (cs:=#[.slice none 0 0,.slice none 0 0]) ?_ 0 _ rfl;refine rb_ ?_;refine blk_far ?_ am.out _;refine rb_ ?_;exact aa.out) Try.underlying27 rfl (by kernel_rfl)) rfl ?_
    exact ⟨_,_,by first | rfl | (simp [errW_none,errW_some] <;> rfl) | (simp [*,errW_none,errW_some] <;> rfl),by refine rr_ ?_;exact Kd.R_mono (Kd.R_far (p:=⟨ae,1,none⟩) (Kd.R_far (p:=⟨ae,0,none⟩) (Kd.R_far (p:=⟨ag,0,none⟩) (Kd.R_types (Kd.R_types bm.out ab.out (by decide)) aa.out (by decide)) (fun _ hk=>hk.1.2) (.slice bd aZ.length be)) (fun _ hk=>hk.2) (.slice bd aZ.length be)) (fun _ hk=>hk.2) (.slice aT ad.length aU)) (fun _ hk=>trivial),by refine rs_ ?_;exact Kd.S_mono (Kd.S_far (p:=⟨ae,1,none⟩) (Kd.S_far (p:=⟨ae,0,none⟩) (Kd.S_far (p:=⟨ag,0,none⟩) (Kd.S_types (Kd.S_types af.out ab.out (by decide)) aa.out (by decide)) (fun _ hk=>hk.1.2) (.slice bd aZ.length be)) (fun _ hk=>hk.2) (.slice bd aZ.length be)) (fun _ hk=>hk.2) (.slice aT ad.length aU)) (fun _ hk=>trivial),by exact zp37_3_ HI0.out ah.out al.out,by exact zp37_4_ HB.out (IsS125.ge HI0.out) an.out ax.out,by exact zp37_5_ HK.out ak.out au.out⟩
   ·rw [if_neg c25] at H
    exact absurd H (by simp)
  ·rw [if_neg c24] at H
   have c24b0:(aw == 1)=false:=beq_eq_false_iff_ne.mpr c24
   have c24b1:(aw != 1)=true:=bne_iff_ne.mpr c24
   by_cases c41:aw=2
   ·rw [if_pos c41] at H
    have c41b0:(aw == 2)=true:=beq_iff_eq.mpr c41
    have c41b1:(aw != 2)=false:=bne_eq_false_iff_eq.mpr c41
    clear c41
    by_cases c42:0<(ad.length:Int)
    ·rw [if_pos c42] at H
     have c42b0:decide (0<(ad.length:Int))=true:=decide_eq_true c42
     have c42b1:decide (0<ad.length)=true:=decide_eq_true (by omega)
     clear c42
     by_cases c43:(rd_L1 ad 0).length<17592186044416
     ·rw [if_pos c43] at H
      have LMc43:=am_ c43
      clear c43
      obtain ⟨az,hy489⟩:∃ y_:List Int,y_=((rd_L1 ad 0) ++ [0]):=⟨_,rfl⟩
      replace H:(some (aj,(ad.set (0:Int).toNat az),aI,aJ))=some (r1,r2,r3,r4):=by first | (rw [hy489];with_reducible exact H) | (have H2_:=(Option.bind_some _ _).symm.trans H;rw [hy489];with_reducible exact H2_) | (have H2_:=(Option.bind_some _ _).symm.trans H;with_reducible exact H2_) | with_reducible exact H | (rw [hy489];exact H) | exact H
      have bA:=am_ hy489
      clear hy489
      obtain ⟨br,hy492⟩:∃ y_:List (List Int),y_=(ad.set (0:Int).toNat az):=⟨_,rfl⟩
      replace H:(some (aj,br,aI,aJ))=some (r1,r2,r3,r4):=by first | (rw [hy492];with_reducible exact H) | (have H2_:=(Option.bind_some _ _).symm.trans H;rw [hy492];with_reducible exact H2_) | (have H2_:=(Option.bind_some _ _).symm.trans H;with_reducible exact H2_) | with_reducible exact H | (rw [hy492];exact H) | exact H
      have bB:=am_ hy492
      clear hy492
      simp only [Option.some.injEq,Prod.mk.injEq] at H
      obtain ⟨rfl,rfl,rfl,rfl⟩:=H
      go_enter Try.func88,Try.ntmps88
      try go_wp2_with (first | ((with_reducible refine gate_dst (N:=2) rfl ?_);refine box_event ?hg (N:=2) ?hd (cs:=#[.slice none 0 0,.slice none 0 0]) (t:=27) ?hr ?_;(case hd=>rfl);(case hg=>rfl);(case hr=>first | (go_simp;done) | (go_simp;rfl));intro ae hg w45 hbox hb;have n0_:=am_ (IsS125.below (zp37_0_ HI0.out) hb);have n1_:=am_ (KeepBut.trans (k0_ HK.out) (KeepBut.of_below hb g none) (.inl rfl));have n2_:=am_ (below_step (b1_ HB.out (IsS125.ge HI0.out)) hb);have n3_:=am_ (hbox);have n4_:=am_ ((by rw [hg];exact (keep_size (w:=w) (g:=g) (row:=none) (k0_ HK.out)):w.heap.size≤ae));have n5_:=am_ ((Nat.le_trans HW0.out (by rw [hg];exact (keep_size (w:=w) (g:=g) (row:=none) (k0_ HK.out)):w.heap.size≤ae):w0.heap.size≤ae));have n6_:=am_ ((by rw [hg];exact Nat.ne_of_lt (IsS125.lt (show IsS125 w0 _ g s0_0 s0_1 s0_2 from by exact zp37_0_ HI0.out)):g ≠ ae));have n7_:=am_ ((by rw [hg];exact Nat.ne_of_gt (IsS125.lt (show IsS125 w0 _ g s0_0 s0_1 s0_2 from by exact zp37_0_ HI0.out)):ae ≠ g));clear HI0;clear HK;clear HB;have HI0:=n0_;have HK:=n1_;have HB:=n2_;have aa:=n3_;have ak:=n4_;have an:=n5_;have ah:=n6_;have ao:=n7_;clear n0_ n1_ n2_ n3_ n4_ n5_ n6_ n7_;clear hb hbox hg) | ((with_reducible refine gate_callee (f:=86) rfl ?_);refine gL_ (some 5) Try.func86 #[.pointer (some ⟨g,0,none⟩),.int .i64 5] ?_;(with_reducible refine (spec_l5Draw.calls k g s0_0 s0_1 s0_2 5 aj ad ap aq w0 _ ?side1 ?side2 A2.out).mono ?_);(case side1=>exact zp37_1_ HI0.out ah.out);(case side2=>exact zp37_2_ HB.out (IsS125.ge HI0.out) an.out);rintro e w46 ⟨bh,bi,rfl,ho0,ho1,hi,hb,hk⟩;refine ⟨_,rfl,?_⟩;have n0_:=am_ (KeepBut.blk hk (g':=ae) (o:=.cells #[.slice none 0 0,.slice none 0 0] 27 (0,0)) (rb_ aa.out) ao.out (by simp));have n1_:=am_ (Kd.R_lower ho0 (keep_size (w:=w) (g:=g) (row:=none) (k1_ HK.out ak.out)));have n2_:=am_ (Kd.S_lower ho1 (keep_size (w:=w) (g:=g) (row:=none) (k1_ HK.out ak.out)));have n3_:=am_ (KeepBut.trans (k1_ HK.out ak.out) hk (.inl rfl));have n4_:=am_ (hb);have n5_:=am_ (hi);clear aa;clear HK;clear HB;clear HI0;have aa:=n0_;have ai:=n1_;have af:=n2_;have HK:=n3_;have HB:=n4_;have HI0:=n5_;clear n0_ n1_ n2_ n3_ n4_ n5_;(try clear hb);(try clear hb2);(try clear hk);(try clear hi);(try clear ho0);(try clear ho1)) | ((with_reducible refine gate_dst (N:=3) rfl ?_);refine box_event ?hg (N:=3) ?hd (cs:=#[.slice none 0 0,.slice none 0 0]) (t:=27) ?hr ?_;(case hd=>rfl);(case hg=>rfl);(case hr=>first | (go_simp;done) | (go_simp;rfl));intro ag hg w47 hbox hb;have n0_:=am_ (Kd.R_below (rr_ ai.out) hb);have n1_:=am_ (Kd.S_below (rs_ af.out) hb);have n2_:=am_ (IsS125.below (zp37_1_ HI0.out ah.out) hb);have n3_:=am_ (blk_below (rb_ aa.out) hb);have n4_:=am_ (KeepBut.trans (k1_ HK.out ak.out) (KeepBut.of_below hb g none) (.inl rfl));have n5_:=am_ (below_step (b2_ HB.out (IsS125.ge HI0.out) an.out) hb);have n6_:=am_ (hbox);have n7_:=am_ ((by rw [hg];exact (keep_size (w:=w) (g:=g) (row:=none) (k1_ HK.out ak.out)):w.heap.size≤ag));have n8_:=am_ ((Nat.le_trans HW0.out (by rw [hg];exact (keep_size (w:=w) (g:=g) (row:=none) (k1_ HK.out ak.out)):w.heap.size≤ag):w0.heap.size≤ag));have n9_:=am_ ((by rw [hg];exact Nat.ne_of_lt (blk_lt (rb_ aa.out)):ae ≠ ag));have n10_:=am_ ((by rw [hg];exact Nat.ne_of_gt (blk_lt (rb_ aa.out)):ag ≠ ae));have n11_:=am_ ((by rw [hg];exact Nat.ne_of_lt (IsS125.lt (show IsS125 w0 _ g s0_0 ap aq from by exact zp37_1_ HI0.out ah.out)):g ≠ ag));have n12_:=am_ ((by rw [hg];exact Nat.ne_of_gt (IsS125.lt (show IsS125 w0 _ g s0_0 ap aq from by exact zp37_1_ HI0.out ah.out)):ag ≠ g));clear ai;clear af;clear HI0;clear aa;clear HK;clear HB;have ai:=n0_;have af:=n1_;have HI0:=n2_;have aa:=n3_;have HK:=n4_;have HB:=n5_;have ab:=n6_;have au:=n7_;have ax:=n8_;have am:=n9_;have ay:=n10_;have al:=n11_;have av:=n12_;clear n0_ n1_ n2_ n3_ n4_ n5_ n6_ n7_ n8_ n9_ n10_ n11_ n12_;clear hb hbox hg;obtain ⟨aA,aB,bH⟩:=Kd.R_slice ai.out;subst bH;have da:=ay.out;have db:=am.out;have dc:=av.out;have dd:=al.out;have co:=ck_ (v:=(.slice none 0 0)) ab 0 rfl;have cp:=ck_ (v:=(.slice none 0 0)) ab 1 rfl;have cq:=blk_frozen ab.out 0;have cr:=blk_frozen ab.out 1;obtain ⟨bk,aK,bI⟩:=Kd.S_slice af.out;subst bI) | ((with_reducible refine gate_callee (f:=107) rfl ?_);refine gL_ (some 7) Try.func107 #[.pointer (some ⟨g,0,none⟩),.int .i64 12] ?_;(with_reducible refine (spec_l1Below.calls g s0_0 ap aq 12 aw aI aJ w0 _ ?side1 ?side2 A3.out).mono ?_);(case side1=>exact zp37_3_ HI0.out ah.out al.out);(case side2=>exact zp37_4_ HB.out (IsS125.ge HI0.out) an.out ax.out);rintro e w53 ⟨rfl,hi,hb,hk⟩;refine ⟨_,rfl,?_⟩;have n0_:=am_ (KeepBut.blk hk (g':=ae) (o:=.cells #[.slice none 0 0,.slice none 0 0] 27 (0,0)) (by refine rb_ ?_;refine blk_far ?_ am.out _;refine rb_ ?_;refine blk_far ?_ am.out _;refine rb_ ?_;exact aa.out) ao.out (by simp));have n1_:=am_ (Kd.R_mono (Kd.R_keep (IsS125.apart (show IsS125 w0 _ g s0_0 ap aq from by exact zp37_3_ HI0.out ah.out al.out) (rr_ (Kd.R_mono (Kd.R_far (p:=⟨ag,1,none⟩) (Kd.R_far (p:=⟨ag,0,none⟩) (Kd.R_types ai.out ab.out (by decide)) (fun _ hk=>hk.2) (.slice aA aj.length aB)) (fun _ hk=>hk.2) (.slice bk ad.length aK)) (fun _ h_=>h_.1))) (by decide)) hk (fun _ h=>h.2)) (fun _ h=>h.1));have n2_:=am_ (Kd.S_mono (Kd.S_keep (IsS125.apartS (show IsS125 w0 _ g s0_0 ap aq from by exact zp37_3_ HI0.out ah.out al.out) (rs_ (Kd.S_mono (Kd.S_far (p:=⟨ag,1,none⟩) (Kd.S_far (p:=⟨ag,0,none⟩) (Kd.S_types af.out ab.out (by decide)) (fun _ hk=>hk.2) (.slice aA aj.length aB)) (fun _ hk=>hk.2) (.slice bk ad.length aK)) (fun _ h_=>h_.1))) (by decide)) hk (fun _ h=>h.2)) (fun _ h=>h.1));have n3_:=am_ (KeepBut.blk hk (g':=ag) (o:=.cells #[.slice aA aj.length aB,.slice bk ad.length aK] 27 (0,0)) (by refine rb_ ?_;refine blk_put (cs:=#[.slice aA aj.length aB,.slice none 0 0]) ?_ 1 _ rfl;refine rb_ ?_;refine blk_put (cs:=#[.slice none 0 0,.slice none 0 0]) ?_ 0 _ rfl;refine rb_ ?_;exact ab.out) av.out (by simp));have n4_:=am_ (KeepBut.trans (k2_ HK.out ak.out au.out) hk (.inl rfl));have n5_:=am_ (hb);have n6_:=am_ (hi);clear aa;clear ai;clear af;clear ab;clear HK;clear HB;clear HI0;have aa:=n0_;have ai:=n1_;have af:=n2_;have ab:=n3_;have HK:=n4_;have HB:=n5_;have HI0:=n6_;clear n0_ n1_ n2_ n3_ n4_ n5_ n6_;(try clear hb);(try clear hb2);(try clear hk);(try clear hi)))
      replace ai:=am_ (Kd.R_drew ai.out)
      replace af:=am_ (Kd.S_drew af.out)
      replace aa:=am_ (blk_drew aa.out)
      replace ab:=am_ (blk_drew ab.out)
      replace HI0:=am_ (IsS125.drew HI0.out)
      replace HK:=am_ (keep_drew HK.out)
      replace HB:=am_ (below_drew1 HB.out)
      have p488:0≤(0:Int):=(by omega)
      have q488:0<(ad.length:Int):=of_decide_eq_true ah_
      obtain ⟨de,A488_0,c488_0,e488,aC,hl488_0,hi488_0⟩:=at_L1 (Kd.S_reads' af.out).2.2 0 p488 q488
      cases e488
      obtain ⟨ce488,hce488,hMe488,hcc488⟩:=Kd.S_get af.out [] 0 p488 (by first | exact q488 | exact of_decide_eq_true ah_ | (have e_:=(Kd.S_reads' af.out).1;omega))
      obtain ⟨ve488_0,rfl,ge488_0⟩:=hMe488
      have hv488_0:=hcc488 0 _ rfl
      rw [Nat.add_zero,show ((Kd.slice 3 (Kd.int .i64))).sz=1 from rfl,Nat.mul_one] at hv488_0
      replace hv488_0:=Option.some.inj (hv488_0.symm.trans aC)
      rw [hv488_0] at ge488_0
      have ar:=am_ (show Kd.R (Kd.int .i64) 3 _ _ _ _ (rd_L1 ad 0) from ge488_0)
      clear hv488_0 ge488_0
      have HX488_0:=am_ aC
      clear hcc488 hce488
      have qi488:(0<ad.length)=True:=eq_true (by omega)
      (try rw [show ((0:Int)).toNat=0 from rfl] at aC)
      (try rw [Addr.add_zero'] at aC)
      have bp:=am_ hi488_0
      have ct:=am_ hl488_0
      clear hi488_0 hl488_0
      replace p488:=eq_true p488
      replace q488:=eq_true q488
      obtain ⟨go55,dp,bs,bt,gl55,cl55,HG55⟩:=Kd.S_form af.out (by have h_:(0:Int)<((ad.length:Int):Int):=of_decide_eq_true ah_;have h2_:0≤(0:Int):=(by omega);omega)
      (first | cases bs | (injection bs with ea_ en_ ec_;(first | subst ea_ | (injection ea_ with ea_;subst ea_));subst ec_;clear en_))
      have GB55:=am_ bt
      have GG55:=am_ HG55
      clear bt gl55 HG55
      (first | simp only [add_plain] at aC | skip)
      obtain ⟨oki55,ce55,hcl55,hM55,hcc55,_,_,hH55⟩:=Kd.S_elem af.out [] (0:Int) (by omega) (by have h_:(0:Int)<((ad.length:Int):Int):=of_decide_eq_true ah_;first | exact h_ | (have e_:=(Kd.S_reads' af.out).1;omega) | simpa using h_)
      obtain ⟨ve55_0,rfl,ge55_0⟩:=hM55
      have hv55:=hcc55 0 _ rfl
      have hX55:=HX488_0.out
      (try simp only [add_plain] at hX55)
      (try simp only [Nat.add_zero] at hv55)
      (try rw [show ((Kd.slice 3 (Kd.int .i64))).sz=1 from rfl,Nat.mul_one] at hv55)
      replace hv55:=Option.some.inj (hv55.symm.trans hX55)
      subst hv55
      clear hX55 hcc55 hcl55
      have UU55:=am_ (show Kd.R (Kd.int .i64) 3 _ w.heap.size oki55 (.slice A488_0 (rd_L1 ad 0).length c488_0) (rd_L1 ad 0) from ge55_0)
      have HH55:=am_ hH55
      have HN55:=am_ (Kd.S_reads' af.out).1
      clear hH55 ge55_0
      refine start_ (n:=10) (S:=fun w'=>w'.cell? ⟨ag,0,none⟩=some (.slice aA aj.length aB)∧w'.cell? ⟨ag,1,none⟩=some (.slice (some ⟨go55,0,none⟩) ad.length aK)∧w'.cell? ⟨go55,0,none⟩=some (.slice A488_0 (rd_L1 ad 0).length c488_0)) (ds:=[9]) (bl 10 0) (by kernel_rfl) rfl rfl ⟨(blk_cell ab.out 0).trans rfl,(blk_cell ab.out 1).trans rfl,aC⟩ (fun hHeld=>?_);refine with_tabW spec_l5Bent.tab8 spec_l5Bent.bits8 (fun HT_ HW_=>?_)
      generalize w53.drew=w54 at ai af aa ab HI0 HK HB GG55 HH55 ar bp HX488_0 UU55 aC hHeld ⊢
      refine pu_ 0 27 (bl 10 1) HT_ ?_
      refine pu_ 2 29 (bl 10 5) HT_ ?_
      refine tk_ 1 28 (bl 10 7) HT_ HW_ hHeld ?_
      refine tk_ 3 30 (bl 10 15) HT_ HW_ hHeld ?_
      refine pu_ 4 31 (bl 10 31) HT_ ?_
      refine tk_ 5 32 (bl 10 63) HT_ HW_ hHeld ?_
      refine on_ 6 (some 33) (bl 10 127) HT_ (fun K hK=>?_)
      refine value_ (w1:=?_) (v:=?_) (by rfl) rfl ?_ ?_
      rotate_left 2
      ·go_simp
       constructor
       ·rfl
       ·rfl
      refine hK.out _ _ ⟨(blk_cell (blk_alloc ab.out _) 0).trans rfl,(blk_cell (blk_alloc ab.out _) 1).trans rfl,(World.cell?_alloc_lt _ _ _ (World.block_lt_of_cell? _ _ (hHeld.2.2))).trans (hHeld.2.2)⟩ (fun hHeld=>?_)
      clear hK K
      refine norm_ (a':=?_) ?_ ?_
      rotate_left
      ·show Act.put _ (some 33) _=_
       simp only [pn_,sz_,ss_,i64_w,i32_w]
       rfl
      refine on_ 7 (some 34) (bl 10 255) HT_ (fun K hK=>?_)
      refine Kd.R_append_step (Kd.int .i64) w.heap.size (by rfl) (.tmp 32) (.tmp 33) 67 3 (.int .i64 0) 8 rfl Try.underlying67 info3 rfl (by decide) (by omega) (.slice A488_0 (rd_L1 ad 0).length c488_0) (rd_L1 ad 0) 0 [.int .i64 0] (fun k_=>oki55 k_∨((fun _=>True)) k_∧w54.heap.size≤k_) (fun _=>False) rfl rfl ?aP (fun _ hk=>hk.elim) ?aF ?aO (Below.refl _ _) ?aS ?aL ?_
      (case aP=>exact rfl)
      (case aF=>exact (fun k_ hk=>.inr ⟨trivial,hk⟩))
      (case aO=>exact (by refine rr_ ?_;exact Kd.R_mono UU55.out (fun _ hk=>.inl hk)))
      (case aS=>exact (keep_size (w:=w) (g:=g) (row:=none) (k2_ HK.out ak.out au.out)))
      (case aL=>have:=LMc43.out;omega)
      intro dq w56 ho hb hg hat
      (first | have bu:=cell_grown hg (hHeld.2.2) (by first | (rw [add_block];exact (fun e_=>((ar.out.1 _ e_.symm).2) rfl)) | (show some (Addr.add _ _).block ≠ _;rw [add_block];exact (fun e_=>((ar.out.1 _ e_.symm).2) rfl)) | exact (fun e_=>((ar.out.1 _ e_.symm).2) rfl)) | have bu:=cell_grown hg (cell_unalloc (hHeld.2.2) (by first | (rw [add_block];exact Kd.S_lt af.out _ rfl) | (show (Addr.add _ _).block<_;rw [add_block];exact Kd.S_lt af.out _ rfl) | exact Kd.S_lt af.out _ rfl)) (by first | (rw [add_block];exact (fun e_=>((ar.out.1 _ e_.symm).2) rfl)) | (show some (Addr.add _ _).block ≠ _;rw [add_block];exact (fun e_=>((ar.out.1 _ e_.symm).2) rfl)) | exact (fun e_=>((ar.out.1 _ e_.symm).2) rfl)))
      rw [← bA.out] at ho
      replace aa:=am_ (blk_grown (g:=ae) (o:=.cells #[.slice none 0 0,.slice none 0 0] 27 (0,0)) (rb_ aa.out) hg (Kd.R_ne ar.out aa.out (by decide)))
      replace ai:=am_ (Kd.R_over' (v:=(.slice A488_0 (rd_L1 ad 0).length c488_0)) (rr_ ai.out) (Kd.R_typed ar.out) (by decide) hg)
      replace ab:=am_ (blk_grown (g:=ag) (o:=.cells #[.slice aA aj.length aB,.slice (some ⟨go55,0,none⟩) ad.length aK] 27 (0,0)) (rb_ ab.out) hg (Kd.R_ne ar.out ab.out (by decide)))
      replace HB:=am_ (below_weaken (b3_ HB.out (IsS125.ge HI0.out) an.out ax.out) HL.out hb)
      replace HI0:=am_ (IsS125.grown (zp37_3_ HI0.out ah.out al.out) hg (IsS125.own_ne HI0.out ar.out (by decide)))
      replace HK:=am_ (KeepBut.trans (k2_ HK.out ak.out au.out) (KeepBut.of_grown hg g) (Kd.R_base2 ar.out))
      replace HH55:=am_ (Kd.H_grown (Kd.H_widen (by repeat (first | exact HH55.out | refine Kd.H_alloc ?_ _ | refine Kd.H_drewN ?_ _ | refine Kd.H_drew ?_))) hg (fun k_ e_=>.inl (UU55.out.1 k_ e_)))
      replace bn:=am_ (ho)
      clear af UU55 ar ho hb hg hat
      have p44:0≤(0:Int):=(by omega)
      have q44:(0:Int)<((ad.length:Int):Int):=of_decide_eq_true ah_
      replace p44:=eq_true p44
      replace q44:=eq_true q44
      obtain ⟨aQ,aR,bv⟩:=Kd.R_slice bn.out
      (first | subst bv | (injection bv with f1_ f2_ f3_;have f4_:=f1_.symm;have f5_:=f3_.symm;clear f1_ f2_ f3_;subst f4_;subst f5_))
      obtain ⟨_,_,hraw57,_,_,hcc57,_⟩:=Kd.H_raw HH55.out (by omega) (by have h_:(0:Int)<((ad.length:Int):Int):=of_decide_eq_true ah_;first | exact h_ | (have e_:=(HN55.out);omega) | simpa using h_)
      obtain ⟨_,hfr57⟩:=Kd.H_at HH55.out (by omega) (by have h_:(0:Int)<((ad.length:Int):Int):=of_decide_eq_true ah_;first | exact h_ | (have e_:=(HN55.out);omega) | simpa using h_)
      have bc:=hcc57 0 _ rfl
      have hf57_0:=hfr57 0
      (try simp only [Nat.add_zero] at bc hf57_0)
      (try rw [show ((Kd.slice 3 (Kd.int .i64))).sz=1 from rfl,Nat.mul_one] at bc)
      (try rw [show ((Kd.slice 3 (Kd.int .i64))).sz=1 from rfl,Nat.mul_one] at hf57_0)
      (try rw [show ((0:Int)).toNat=0 from rfl] at bc)
      (try simp only [Nat.reduceMul,Nat.zero_mul,Nat.zero_add,Nat.reduceAdd] at bc)
      (try rw [show ((0:Int)).toNat=0 from rfl] at hf57_0)
      (try simp only [Nat.reduceMul,Nat.zero_mul,Nat.zero_add,Nat.reduceAdd] at hf57_0)
      have HP57:=Kd.S_seg0 HH55.out (by omega) (by have h_:(0:Int)<((ad.length:Int):Int):=of_decide_eq_true ah_;first | exact h_ | (have e_:=(HN55.out);omega) | simpa using h_) (seg:=[.slice aQ az.length aR]) (j:=0) (show 1≤1 from by decide) (x':=az) (Kd.M_row bn.out) (fun _ hk=>hk)
      (try simp only [show ((Kd.slice 3 (Kd.int .i64))).sz=1 from rfl,Nat.mul_one,Nat.add_zero] at HP57)
      clear hcc57 hfr57
      have HN0_go55:=am_ (show g ≠ go55 from by have h_:=IsS125.own_ne HI0.out hraw57 (by decide);intro e_;exact h_ (by rw [e_];rfl))
      have HNB468_go55:=am_ (show ae ≠ go55 from by have h_:=Kd.R_ne hraw57 aa.out (by decide);intro e_;exact h_ (by rw [e_];rfl))
      have HNB477_go55:=am_ (show ag ≠ go55 from by have h_:=Kd.R_ne hraw57 ab.out (by decide);intro e_;exact h_ (by rw [e_];rfl))
      have HS57:=HP57.1
      rw [← bB.out] at HS57
      have HQ57:=am_ HS57
      obtain ⟨_,hgg57⟩:=Kd.R_typed hraw57 go55 rfl
      have GG57_:=am_ hgg57
      clear HP57 HS57 hgg57
      refine hK.out _ _ ⟨(blk_cell ab.out 0).trans rfl,(blk_cell ab.out 1).trans rfl,bu⟩ (fun hHeld=>?_)
      clear hK K
      refine norm_ (a':=?_) ?_ ?_
      rotate_left
      ·show Act.put _ (some 34) _=_
       simp only [pn_,sz_,ss_,i64_w,i32_w]
       rfl
      refine pu_ 8 35 (bl 10 511) HT_ ?_
      refine last_ (i:=9) (N:=none) (bl 10 1023) rfl rfl (one_of HT_.out (by kernel_rfl)) (by decide) (fun K hK=>?_)
      refine skip_ (w1:=?_) (by rfl) rfl ?_ ?_
      rotate_left
      ·go_simp
       rfl
      refine hK.out _ _ ?_
      clear hK K
      refine done_ (done_of HT_.out (by kernel_rfl)) ?_
      have n0_:Aside0 (Kd.R Kd.bool 4 (w56.setCell ⟨go55,0,none⟩ (.slice aQ az.length aR)) w.heap.size (fun _=>True) (.slice aA aj.length aB) aj):=⟨by refine rr_ ?_;exact Kd.R_mono (Kd.R_far (p:=⟨go55,0,none⟩) (Kd.R_types ai.out GG57_.out (by decide)) (fun _ hk=>hk.2) (.slice aQ az.length aR)) (fun _ hk=>trivial)⟩
      have n1_:Aside0 (Kd.S (Kd.slice 3 (Kd.int .i64)) 67 (w56.setCell ⟨go55,0,none⟩ (.slice aQ az.length aR)) w.heap.size (fun _=>True) (.slice (some ⟨go55,0,none⟩) ad.length aK) br):=⟨by refine rs_ ?_;exact HQ57.out⟩
      have n2_:Aside0 ((w56.setCell ⟨go55,0,none⟩ (.slice aQ az.length aR)).heap[ae]? = some (.cells #[.slice none 0 0,.slice none 0 0] 27 (0,0))):=⟨by refine rb_ ?_;refine blk_far ?_ HNB468_go55.out _;refine rb_ ?_;exact aa.out⟩
      have n3_:Aside0 ((w56.setCell ⟨go55,0,none⟩ (.slice aQ az.length aR)).heap[ag]? = some (.cells #[.slice aA aj.length aB,.slice (some ⟨go55,0,none⟩) ad.length aK] 27 (0,0))):=⟨by refine rb_ ?_;refine blk_far ?_ HNB477_go55.out _;refine rb_ ?_;exact ab.out⟩
      have n4_:Aside0 (IsS125 w0 (w56.setCell ⟨go55,0,none⟩ (.slice aQ az.length aR)) g s0_0 aI aJ):=⟨by repeat (first | (with_reducible first | exact HI0.out | apply IsS125.alloc | apply IsS125.drewN | apply IsS125.drew | apply IsS125.set_1 | apply IsS125.set_2 | refine IsS125.far ?_ HN0_go55.out _ | refine IsS125.far ?_ ah.out _ | refine IsS125.far ?_ al.out _) | exact HI0.out)⟩
      have n5_:Aside0 (KeepBut w (w56.setCell ⟨go55,0,none⟩ (.slice aQ az.length aR)) g none):=⟨by repeat (first | (with_reducible first | exact HK.out | apply KeepBut.set_ | apply keep_drewN | apply keep_drew | apply keep_alloc | refine keep_far ?_ GB55.out _ | refine keep_far ?_ ak.out _ | refine keep_far ?_ au.out _) | exact HK.out)⟩
      have n6_:Aside0 (Below w0.heap.size w0 (w56.setCell ⟨go55,0,none⟩ (.slice aQ az.length aR))):=⟨by repeat (first | (with_reducible first | exact HB.out | apply below_alloc | apply pw_below_drewN | apply below_drew1 | refine below_set ?_ (Nat.le_trans HL.out GB55.out) | refine below_set ?_ (IsS125.ge HI0.out) | refine below_set ?_ an.out | refine below_set ?_ ax.out) | exact HB.out)⟩
      (try clear ai)
      (try clear af)
      (try clear aa)
      (try clear ab)
      (try clear HI0)
      (try clear HK)
      (try clear HB)
      generalize (w56.setCell ⟨go55,0,none⟩ (.slice aQ az.length aR))=w60 at n0_ n1_ n2_ n3_ n4_ n5_ n6_ ⊢
      have ai:=n0_;have af:=n1_;have aa:=n2_;have ab:=n3_;have HI0:=n4_;have HK:=n5_;have HB:=n6_
      clear n0_ n1_ n2_ n3_ n4_ n5_ n6_
      have cu:=ck_ (v:=(.slice aA aj.length aB)) ab 0 rfl
      have cv:=ck_ (v:=(.slice (some ⟨go55,0,none⟩) ad.length aK)) ab 1 rfl
      have cw:=blk_frozen ab.out 0
      have cx:=blk_frozen ab.out 1
      have df:=ao.out
      have dg:=ah.out
      have cy:=ck_ (v:=(.slice none 0 0)) aa 0 rfl
      have cz:=ck_ (v:=(.slice none 0 0)) aa 1 rfl
      have cA:=blk_frozen aa.out 0
      have cB:=blk_frozen aa.out 1
      try go_wp2
      refine bodyPost_ret (results_cell_row rfl _ _ ae 27 #[.slice aA aj.length aB,.slice (some ⟨go55,0,none⟩) ad.length aK] (0,0) _ rfl (by refine rb_ ?_;refine blk_put (cs:=#[.slice aA aj.length aB,.slice none 0 0]) ?_ 1 _ rfl;refine rb_ ?_;refine blk_put (cs:=#[.slice none 0 0,.slice none 0 0]) ?_ 0 _ rfl;refine rb_ ?_;exact aa.out) Try.underlying27 rfl (by kernel_rfl)) rfl ?_
      exact ⟨_,_,by first | rfl | (simp [errW_none,errW_some] <;> rfl) | (simp [*,errW_none,errW_some] <;> rfl),by refine rr_ ?_;exact Kd.R_mono (Kd.R_far (p:=⟨ae,1,none⟩) (Kd.R_far (p:=⟨ae,0,none⟩) (Kd.R_types ai.out aa.out (by decide)) (fun _ hk=>hk.2) (.slice aA aj.length aB)) (fun _ hk=>hk.2) (.slice (some ⟨go55,0,none⟩) ad.length aK)) (fun _ hk=>trivial),by refine rs_ ?_;exact Kd.S_mono (Kd.S_far (p:=⟨ae,1,none⟩) (Kd.S_far (p:=⟨ae,0,none⟩) (Kd.S_types af.out aa.out (by decide)) (fun _ hk=>hk.2) (.slice aA aj.length aB)) (fun _ hk=>hk.2) (.slice (some ⟨go55,0,none⟩) ad.length aK)) (fun _ hk=>trivial),by exact zp37_3_ HI0.out ah.out al.out,by exact zp37_4_ HB.out (IsS125.ge HI0.out) an.out ax.out,by exact zp37_5_ HK.out ak.out au.out⟩
     ·rw [if_neg c43] at H
      exact absurd H (by simp)
    ·rw [if_neg c42] at H
     exact absurd H (by simp)
   ·rw [if_neg c41] at H
    have c41b0:(aw == 2)=false:=beq_eq_false_iff_ne.mpr c41
    have c41b1:(aw != 2)=true:=bne_iff_ne.mpr c41
    simp only [Option.some.injEq,Prod.mk.injEq] at H
    obtain ⟨rfl,rfl,rfl,rfl⟩:=H
    go_enter Try.func88,Try.ntmps88
    go_wp2_with (first | ((with_reducible refine gate_dst (N:=2) rfl ?_);refine box_event ?hg (N:=2) ?hd (cs:=#[.slice none 0 0,.slice none 0 0]) (t:=27) ?hr ?_;(case hd=>rfl);(case hg=>rfl);(case hr=>first | (go_simp;done) | (go_simp;rfl));intro ae hg w64 hbox hb;have n0_:=am_ (IsS125.below (zp37_0_ HI0.out) hb);have n1_:=am_ (KeepBut.trans (k0_ HK.out) (KeepBut.of_below hb g none) (.inl rfl));have n2_:=am_ (below_step (b1_ HB.out (IsS125.ge HI0.out)) hb);have n3_:=am_ (hbox);have n4_:=am_ ((by rw [hg];exact (keep_size (w:=w) (g:=g) (row:=none) (k0_ HK.out)):w.heap.size≤ae));have n5_:=am_ ((Nat.le_trans HW0.out (by rw [hg];exact (keep_size (w:=w) (g:=g) (row:=none) (k0_ HK.out)):w.heap.size≤ae):w0.heap.size≤ae));have n6_:=am_ ((by rw [hg];exact Nat.ne_of_lt (IsS125.lt (show IsS125 w0 _ g s0_0 s0_1 s0_2 from by exact zp37_0_ HI0.out)):g ≠ ae));have n7_:=am_ ((by rw [hg];exact Nat.ne_of_gt (IsS125.lt (show IsS125 w0 _ g s0_0 s0_1 s0_2 from by exact zp37_0_ HI0.out)):ae ≠ g));clear HI0;clear HK;clear HB;have HI0:=n0_;have HK:=n1_;have HB:=n2_;have aa:=n3_;have ak:=n4_;have an:=n5_;have ah:=n6_;have ao:=n7_;clear n0_ n1_ n2_ n3_ n4_ n5_ n6_ n7_;clear hb hbox hg) | ((with_reducible refine gate_callee (f:=86) rfl ?_);refine gL_ (some 5) Try.func86 #[.pointer (some ⟨g,0,none⟩),.int .i64 5] ?_;(with_reducible refine (spec_l5Draw.calls k g s0_0 s0_1 s0_2 5 aj ad ap aq w0 _ ?side1 ?side2 A2.out).mono ?_);(case side1=>exact zp37_1_ HI0.out ah.out);(case side2=>exact zp37_2_ HB.out (IsS125.ge HI0.out) an.out);rintro e w65 ⟨bh,bi,rfl,ho0,ho1,hi,hb,hk⟩;refine ⟨_,rfl,?_⟩;have n0_:=am_ (KeepBut.blk hk (g':=ae) (o:=.cells #[.slice none 0 0,.slice none 0 0] 27 (0,0)) (rb_ aa.out) ao.out (by simp));have n1_:=am_ (Kd.R_lower ho0 (keep_size (w:=w) (g:=g) (row:=none) (k1_ HK.out ak.out)));have n2_:=am_ (Kd.S_lower ho1 (keep_size (w:=w) (g:=g) (row:=none) (k1_ HK.out ak.out)));have n3_:=am_ (KeepBut.trans (k1_ HK.out ak.out) hk (.inl rfl));have n4_:=am_ (hb);have n5_:=am_ (hi);clear aa;clear HK;clear HB;clear HI0;have aa:=n0_;have ai:=n1_;have af:=n2_;have HK:=n3_;have HB:=n4_;have HI0:=n5_;clear n0_ n1_ n2_ n3_ n4_ n5_;(try clear hb);(try clear hb2);(try clear hk);(try clear hi);(try clear ho0);(try clear ho1)) | ((with_reducible refine gate_dst (N:=3) rfl ?_);refine box_event ?hg (N:=3) ?hd (cs:=#[.slice none 0 0,.slice none 0 0]) (t:=27) ?hr ?_;(case hd=>rfl);(case hg=>rfl);(case hr=>first | (go_simp;done) | (go_simp;rfl));intro ag hg w66 hbox hb;have n0_:=am_ (Kd.R_below (rr_ ai.out) hb);have n1_:=am_ (Kd.S_below (rs_ af.out) hb);have n2_:=am_ (IsS125.below (zp37_1_ HI0.out ah.out) hb);have n3_:=am_ (blk_below (rb_ aa.out) hb);have n4_:=am_ (KeepBut.trans (k1_ HK.out ak.out) (KeepBut.of_below hb g none) (.inl rfl));have n5_:=am_ (below_step (b2_ HB.out (IsS125.ge HI0.out) an.out) hb);have n6_:=am_ (hbox);have n7_:=am_ ((by rw [hg];exact (keep_size (w:=w) (g:=g) (row:=none) (k1_ HK.out ak.out)):w.heap.size≤ag));have n8_:=am_ ((Nat.le_trans HW0.out (by rw [hg];exact (keep_size (w:=w) (g:=g) (row:=none) (k1_ HK.out ak.out)):w.heap.size≤ag):w0.heap.size≤ag));have n9_:=am_ ((by rw [hg];exact Nat.ne_of_lt (blk_lt (rb_ aa.out)):ae ≠ ag));have n10_:=am_ ((by rw [hg];exact Nat.ne_of_gt (blk_lt (rb_ aa.out)):ag ≠ ae));have n11_:=am_ ((by rw [hg];exact Nat.ne_of_lt (IsS125.lt (show IsS125 w0 _ g s0_0 ap aq from by exact zp37_1_ HI0.out ah.out)):g ≠ ag));have n12_:=am_ ((by rw [hg];exact Nat.ne_of_gt (IsS125.lt (show IsS125 w0 _ g s0_0 ap aq from by exact zp37_1_ HI0.out ah.out)):ag ≠ g));clear ai;clear af;clear HI0;clear aa;clear HK;clear HB;have ai:=n0_;have af:=n1_;have HI0:=n2_;have aa:=n3_;have HK:=n4_;have HB:=n5_;have ab:=n6_;have au:=n7_;have ax:=n8_;have am:=n9_;have ay:=n10_;have al:=n11_;have av:=n12_;clear n0_ n1_ n2_ n3_ n4_ n5_ n6_ n7_ n8_ n9_ n10_ n11_ n12_;clear hb hbox hg;obtain ⟨aV,aW,bJ⟩:=Kd.R_slice ai.out;subst bJ;have dh:=ay.out;have di:=am.out;have dj:=av.out;have dk:=al.out;have cC:=ck_ (v:=(.slice none 0 0)) ab 0 rfl;have cD:=ck_ (v:=(.slice none 0 0)) ab 1 rfl;have cE:=blk_frozen ab.out 0;have cF:=blk_frozen ab.out 1;obtain ⟨ba,bb,bK⟩:=Kd.S_slice af.out;subst bK) | ((with_reducible refine gate_callee (f:=107) rfl ?_);refine gL_ (some 7) Try.func107 #[.pointer (some ⟨g,0,none⟩),.int .i64 12] ?_;(with_reducible refine (spec_l1Below.calls g s0_0 ap aq 12 aw aI aJ w0 _ ?side1 ?side2 A3.out).mono ?_);(case side1=>exact zp37_3_ HI0.out ah.out al.out);(case side2=>exact zp37_4_ HB.out (IsS125.ge HI0.out) an.out ax.out);rintro e w72 ⟨rfl,hi,hb,hk⟩;refine ⟨_,rfl,?_⟩;have n0_:=am_ (KeepBut.blk hk (g':=ae) (o:=.cells #[.slice none 0 0,.slice none 0 0] 27 (0,0)) (by refine rb_ ?_;refine blk_far ?_ am.out _;refine rb_ ?_;refine blk_far ?_ am.out _;refine rb_ ?_;exact aa.out) ao.out (by simp));have n1_:=am_ (Kd.R_mono (Kd.R_keep (IsS125.apart (show IsS125 w0 _ g s0_0 ap aq from by exact zp37_3_ HI0.out ah.out al.out) (rr_ (Kd.R_mono (Kd.R_far (p:=⟨ag,1,none⟩) (Kd.R_far (p:=⟨ag,0,none⟩) (Kd.R_types ai.out ab.out (by decide)) (fun _ hk=>hk.2) (.slice aV aj.length aW)) (fun _ hk=>hk.2) (.slice ba ad.length bb)) (fun _ h_=>h_.1))) (by decide)) hk (fun _ h=>h.2)) (fun _ h=>h.1));have n2_:=am_ (Kd.S_mono (Kd.S_keep (IsS125.apartS (show IsS125 w0 _ g s0_0 ap aq from by exact zp37_3_ HI0.out ah.out al.out) (rs_ (Kd.S_mono (Kd.S_far (p:=⟨ag,1,none⟩) (Kd.S_far (p:=⟨ag,0,none⟩) (Kd.S_types af.out ab.out (by decide)) (fun _ hk=>hk.2) (.slice aV aj.length aW)) (fun _ hk=>hk.2) (.slice ba ad.length bb)) (fun _ h_=>h_.1))) (by decide)) hk (fun _ h=>h.2)) (fun _ h=>h.1));have n3_:=am_ (KeepBut.blk hk (g':=ag) (o:=.cells #[.slice aV aj.length aW,.slice ba ad.length bb] 27 (0,0)) (by refine rb_ ?_;refine blk_put (cs:=#[.slice aV aj.length aW,.slice none 0 0]) ?_ 1 _ rfl;refine rb_ ?_;refine blk_put (cs:=#[.slice none 0 0,.slice none 0 0]) ?_ 0 _ rfl;refine rb_ ?_;exact ab.out) av.out (by simp));have n4_:=am_ (KeepBut.trans (k2_ HK.out ak.out au.out) hk (.inl rfl));have n5_:=am_ (hb);have n6_:=am_ (hi);clear aa;clear ai;clear af;clear ab;clear HK;clear HB;clear HI0;have aa:=n0_;have ai:=n1_;have af:=n2_;have ab:=n3_;have HK:=n4_;have HB:=n5_;have HI0:=n6_;clear n0_ n1_ n2_ n3_ n4_ n5_ n6_;(try clear hb);(try clear hb2);(try clear hk);(try clear hi);have cG:=ck_ (v:=(.slice aV aj.length aW)) ab 0 rfl;have cH:=ck_ (v:=(.slice ba ad.length bb)) ab 1 rfl;have cI:=blk_frozen ab.out 0;have cJ:=blk_frozen ab.out 1;have dl:=ao.out;have dm:=ah.out;have cK:=ck_ (v:=(.slice none 0 0)) aa 0 rfl;have cL:=ck_ (v:=(.slice none 0 0)) aa 1 rfl;have cM:=blk_frozen aa.out 0;have cN:=blk_frozen aa.out 1))
    refine bodyPost_ret (results_cell_row rfl _ _ ae 27 #[.slice aV aj.length aW,.slice ba ad.length bb] (0,0) _ rfl (by refine rb_ ?_;refine blk_put (cs:=#[.slice aV aj.length aW,.slice none 0 0]) ?_ 1 _ rfl;refine rb_ ?_;refine blk_put (cs:=#[.slice none 0 0,.slice none 0 0]) ?_ 0 _ rfl;refine rb_ ?_;exact aa.out) Try.underlying27 rfl (by kernel_rfl)) rfl ?_
    exact ⟨_,_,by first | rfl | (simp [errW_none,errW_some] <;> rfl) | (simp [*,errW_none,errW_some] <;> rfl),by refine rr_ ?_;exact Kd.R_mono (Kd.R_far (p:=⟨ae,1,none⟩) (Kd.R_far (p:=⟨ae,0,none⟩) (Kd.R_types ai.out aa.out (by decide)) (fun _ hk=>hk.2) (.slice aV aj.length aW)) (fun _ hk=>hk.2) (.slice ba ad.length bb)) (fun _ hk=>trivial),by refine rs_ ?_;exact Kd.S_mono (Kd.S_far (p:=⟨ae,1,none⟩) (Kd.S_far (p:=⟨ae,0,none⟩) (Kd.S_types af.out aa.out (by decide)) (fun _ hk=>hk.2) (.slice aV aj.length aW)) (fun _ hk=>hk.2) (.slice ba ad.length bb)) (fun _ hk=>trivial),by exact zp37_3_ HI0.out ah.out al.out,by exact zp37_4_ HB.out (IsS125.ge HI0.out) an.out ax.out,by exact zp37_5_ HK.out ak.out au.out⟩
end Go.Proofs.Ytogamkblkoobkaa.P
end
section
namespace Go.Proofs.Ytogamkblkoobkaa.Pl
open Go.RowKit Go.Proofs.Ytogamkblkoobkaa.P Go.Proofs.YtogamkblkoobkaaW.PrintWords Go.Proofs.YtogamkblkoobkaaW.PrintLast Go.Proofs.YtogamkblkoobkaaW.PrintMore
def OkRow (n:Nat) (r:List Int):Prop:=r.length=3∧∀ q ∈ r,0≤q∧q<(n:Int)
section
variable (b:List Int) (hb:b.length≤140737488351232)
include hb
theorem once (i h:Int) (hi:Cur b i) (n:Int) (hn:0<n) (hn2:n≤256):∃ x i' h',spec_l1Once.f b i h n=some (x,i',h')∧Cur b i':=by
 obtain ⟨x,i',h',e,_,_,hc⟩:=below b hb i h hi n hn hn2
 refine ⟨x == 0,i',h',?_,hc⟩
 simp only [spec_l1Once.f,e,Option.bind_some]
theorem draw_row (n:Nat) (hn:1≤n) (hn2:n≤100) (q:Int) (hq:0≤q∧q≤1000) (acc:List Bool) (nx:List (List Int)) (hx:nx.length≤1000):∀ (d j:Nat) (row:List Int) (i h:Int),j+d=3→row.length=j→(∀ x ∈ row,0≤x∧x<(n:Int))→Cur b i →
  ∃ row' i' h',OkRow n row'∧Cur b i'∧∀ r,Ev (fun k=>spec_l5Draw.l0 k (n:Int) (q+1) b i' h' acc (nx ++ [row'])) r→Ev (fun k=>spec_l5Draw.l1 k (n:Int) q row (j:Int) b i h acc nx) r:=by
 intro d
 induction d with
 | zero =>
  intro j row i h hj hr ho hi
  refine ⟨row,i,h,⟨by omega,ho⟩,hi,fun r hrr=>next ?_⟩
  simp only [spec_l5Draw.l1,if_neg (show ¬ (j:Int)<3 by omega),if_pos (show nx.length<5864062014805 by omega)]
  rw [w64 (show -9223372036854775808≤q+1 by omega) (by omega)]
  exact hrr
 | succ d ih =>
  intro j row i h hj hr ho hi
  obtain ⟨x,i1,h1,e,x0,x1,c1⟩:=below b hb i h hi (n:Int) (by omega) (by omega)
  obtain ⟨row',i',h',o',c',H⟩:=ih (j+1) (row ++ [x]) i1 h1 (by omega) (by simp [hr]) (fun y hy=>by
   rcases List.mem_append.mp hy with hy | hy
   ·exact ho y hy
   ·rw [List.mem_singleton] at hy;subst hy;exact ⟨x0,x1⟩) c1
  refine ⟨row',i',h',o',c',fun r hrr=>next ?_⟩
  simp only [spec_l5Draw.l1,if_pos (show (j:Int)<3 by omega),e,Option.bind_some,if_pos (show row.length<17592186044416 by omega)]
  rw [up1 (by omega)]
  exact H r hrr
theorem draw_l0 (n:Nat) (hn:1≤n) (hn2:n≤100):∀ (d q:Nat) (acc:List Bool) (nx:List (List Int)) (i h:Int),q+d=n→acc.length=q→nx.length=q→(∀ r ∈ nx,OkRow n r)→Cur b i →
  ∃ acc' nx' i' h',Ev (fun k=>spec_l5Draw.l0 k (n:Int) (q:Int) b i h acc nx) (acc',nx',i',h')∧acc'.length=n∧nx'.length=n∧(∀ r ∈ nx',OkRow n r)∧Cur b i':=by
 intro d
 induction d with
 | zero =>
  intro q acc nx i h hq ha hx ho hi
  refine ⟨acc,nx,i,h,next ?_,by omega,by omega,ho,hi⟩
  simp only [spec_l5Draw.l0,if_neg (show ¬ (q:Int)<(n:Int) by omega)]
  exact Ev.now _
 | succ d ih =>
  intro q acc nx i h hq ha hx ho hi
  obtain ⟨x,i1,h1,e,c1⟩:=once b hb i h hi 2 (by omega) (by omega)
  obtain ⟨row',i2,h2,o2,c2,H⟩:=draw_row b hb n hn hn2 (q:Int) (by omega) (acc ++ [x]) nx (by omega) 3 0 [] i1 h1 rfl rfl (fun _ hx=>by cases hx) c1
  obtain ⟨acc',nx',i',h',hev,la,ln,oo,cc⟩:=ih (q+1) (acc ++ [x]) (nx ++ [row']) i2 h2 (by omega) (by simp [ha]) (by simp [hx]) (fun r hr=>by
   rcases List.mem_append.mp hr with hr | hr
   ·exact ho r hr
   ·rw [List.mem_singleton] at hr;subst hr;exact o2) c2
  refine ⟨acc',nx',i',h',next ?_,la,ln,oo,cc⟩
  simp only [spec_l5Draw.l0,if_pos (show (q:Int)<(n:Int) by omega),e,Option.bind_some,if_pos (show acc.length<140737488355328 by omega)]
  exact H _ hev
theorem draw (i h:Int) (hi:Cur b i) (m:Nat) (hm:1≤m) (hm2:m≤99):∃ acc nx i' h',Ev (fun k=>spec_l5Draw.f k b i h (m:Int)) (acc,nx,i',h')∧1≤acc.length∧acc.length≤m∧nx.length=acc.length∧(∀ r ∈ nx,OkRow acc.length r)∧Cur b i':=by
 obtain ⟨x,i1,h1,e,x0,x1,c1⟩:=below b hb i h hi (m:Int) (by omega) (by omega)
 obtain ⟨t,rfl⟩:∃ t:Nat,x=(t:Int):=⟨x.toNat,by omega⟩
 obtain ⟨acc,nx,i',h',hev,la,ln,oo,cc⟩:=draw_l0 b hb (t+1) (by omega) (by omega) (t+1) 0 [] [] i1 h1 (by omega) rfl rfl (fun _ hx=>by cases hx) c1
 refine ⟨acc,nx,i',h',?_,by omega,by omega,by omega,by rw [la];exact oo,cc⟩
 simp only [spec_l5Draw.f,e,Option.bind_some]
 rw [w64 (show -9223372036854775808≤1+(t:Int) by omega) (by omega),show 1+(t:Int)=((t+1:Nat):Int) by omega]
 exact hev
theorem bent (i h:Int) (hi:Cur b i):∃ acc nx i' h',Ev (fun k=>spec_l5Bent.f k b i h) (acc,nx,i',h')∧acc.length≤6∧nx.length≤6∧(∀ r ∈ nx,r.length≤4)∧Cur b i':=by
 obtain ⟨acc,nx,i1,h1,hev,a1,a2,a3,a4,c1⟩:=draw b hb i h hi 5 (by omega) (by omega)
 obtain ⟨x,i2,h2,e,x0,x1,c2⟩:=below b hb i1 h1 c1 12 (by omega) (by omega)
 have h0:0<nx.length:=by omega
 have hr0:(rd_L1 nx 0).length=3:=by
  show (nx.getD (0:Int).toNat []).length=3
  rw [List.getD_eq_getElem?_getD,show (0:Int).toNat=0 from rfl,List.getElem?_eq_getElem h0]
  exact (a4 _ (List.getElem_mem h0)).1
 have hset:∀ y:List Int,y.length≤4→∀ r ∈ nx.set 0 y,r.length≤4:=fun y hy r hr=>by
  rcases List.mem_or_eq_of_mem_set hr with hr | hr
  ·have:=(a4 r hr).1;omega
  ·subst hr;exact hy
 by_cases e0:x=0
 ·refine ⟨acc,nx.set 0 ((rd_L1 nx 0).set 0 (acc.length:Int)),i2,h2,?_,by omega,by rw [List.length_set];omega,hset _ (by rw [List.length_set];omega),c2⟩
  simp only [spec_l5Bent.f]
  refine Ev.bind hev ?_
  simp only [e,Option.bind_some,if_pos e0,if_pos (show (0:Int)<(nx.length:Int) by omega),if_pos (show (0:Int)<((rd_L1 nx 0).length:Int) by omega)]
  exact Ev.now _
 ·by_cases e1:x=1
  ·refine ⟨acc ++ [true],nx,i2,h2,?_,by simp;omega,by omega,fun r hr=>by have:=(a4 r hr).1;omega,c2⟩
   simp only [spec_l5Bent.f]
   refine Ev.bind hev ?_
   simp only [e,Option.bind_some,if_neg e0,if_pos e1,if_pos (show acc.length<140737488355328 by omega)]
   exact Ev.now _
  ·by_cases e2:x=2
   ·refine ⟨acc,nx.set 0 ((rd_L1 nx 0) ++ [0]),i2,h2,?_,by omega,by rw [List.length_set];omega,hset _ (by rw [List.length_append,hr0];decide),c2⟩
    simp only [spec_l5Bent.f]
    refine Ev.bind hev ?_
    simp only [e,Option.bind_some,if_neg e0,if_neg e1,if_pos e2,if_pos (show (0:Int)<(nx.length:Int) by omega),if_pos (show (rd_L1 nx 0).length<17592186044416 by omega)]
    exact Ev.now _
   ·refine ⟨acc,nx,i2,h2,?_,by omega,by omega,fun r hr=>by have:=(a4 r hr).1;omega,c2⟩
    simp only [spec_l5Bent.f]
    refine Ev.bind hev ?_
    simp only [e,Option.bind_some,if_neg e0,if_neg e1,if_neg e2]
    exact Ev.now _
end
end Go.Proofs.Ytogamkblkoobkaa.Pl
end
