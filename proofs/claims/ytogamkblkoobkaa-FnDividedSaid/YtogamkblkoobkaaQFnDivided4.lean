/- Texts of the proof of FnDivided, put together. No condition. -/
import Derived.Test.YtogamkblkoobkaaQFnDivided2
import Derived.Test.YtogamkblkoobkaaQFnDivided3
import Derived.Shelf.Abstract
import Derived.Lib.Walk
import Derived.Deep.Slices
import Derived.Lib.SmallJoins
import Derived.Shelf.Small.Strs
import Derived.Shelf.Strings.Search1
import Derived.Test.YtogamkblkoobkaaProg
set_option linter.unusedVariables false
set_option linter.unusedSimpArgs false
section
namespace Go.Proofs.Ytogamkblkoobkaa.P
open Go.RowKit Go.Proofs.YtogamkblkoobkaaW.PrintWords Go.Proofs.YtogamkblkoobkaaW.PrintLast Go.Proofs.YtogamkblkoobkaaW.PrintMore
attribute [local go_sem] max2_int min2_int max_two min_two max_three min_three max_four min_four
mutual
def spec_l5Minimal.l0:Nat→List Int→List Int→Int→List Bool→List (List Int)→List Bool→List (List Int)→Option (List Bool × (List (List Int)))
 | 0,_,_,_,_,_,_,_=>none
 | k+1,x3,x4,x6,aM,aC,aN,aQ=>if x6<(x4.length:Int) then (spec_l5Minimal.l1 k x3 x4 x6 (([]:List Int)) 0 aM aC aN aQ) else (some (aN,aQ))
def spec_l5Minimal.l1:Nat→List Int→List Int→Int→List Int→Int→List Bool→List (List Int)→List Bool→List (List Int)→Option (List Bool × (List (List Int)))
 | 0,_,_,_,_,_,_,_,_,_=>none
 | k+1,x3,x4,x6,x7,x8,aM,aC,aN,aQ=>if x8<3 then (if 0≤x6 then (if x6<(x4.length:Int) then (if 0≤(rd x4 x6) then (if (rd x4 x6)<(aC.length:Int) then (if 0≤x8 then (if x8<((rd_L1 aC (rd x4 x6)).length:Int) then (if 0≤(rd (rd_L1 aC (rd x4 x6)) x8) then (if (rd (rd_L1 aC (rd x4 x6)) x8)<(x3.length:Int) then ((spec_l5Find.f k x4 (rd x3 (rd (rd_L1 aC (rd x4 x6)) x8))).bind fun bm=>(if bm<0 then (if x4.length<17592186044416 then ((some (x4 ++ [rd x3 (rd (rd_L1 aC (rd x4 x6)) x8)]:List Int)).bind fun aU=>((spec_l5Find.f k aU (rd x3 (rd (rd_L1 aC (rd x4 x6)) x8))).bind fun bi=>(if x7.length<17592186044416 then (spec_l5Minimal.l1 k x3 aU x6 (x7 ++ [bi]) (wrap64 (x8+1)) aM aC aN aQ) else (none)))) else (none)) else ((spec_l5Find.f k x4 (rd x3 (rd (rd_L1 aC (rd x4 x6)) x8))).bind fun br=>(if x7.length<17592186044416 then (spec_l5Minimal.l1 k x3 x4 x6 (x7 ++ [br]) (wrap64 (x8+1)) aM aC aN aQ) else (none))))) else (none)) else (none)) else (none)) else (none)) else (none)) else (none)) else (none)) else (none)) else (if 0≤x6 then (if x6<(x4.length:Int) then (if 0≤(rd x4 x6) then (if (rd x4 x6)<(aM.length:Int) then (if aN.length<140737488355328 then (if aQ.length<5864062014805 then (spec_l5Minimal.l0 k x3 x4 (wrap64 (x6+1)) aM aC (aN ++ [rdOf false aM (rd x4 x6)]) (aQ ++ [x7])) else (none)) else (none)) else (none)) else (none)) else (none)) else (none))
end
def spec_l5Minimal.f (k:Nat) (l0_0:List Bool) (l0_1:List (List Int)):Option (List Bool × (List (List Int))):=(spec_l5Classes.f k l0_0 l0_1).bind fun ai=>(if 0<(ai.length:Int) then (spec_l5Minimal.l0 k ai (([rd ai 0]:List Int)) 0 l0_0 l0_1 ([]:List Bool) ([]:List (List Int))) else (none))
theorem spec_l5Minimal.mono_l:∀ k,(∀ y0 y1 y2 y3 y4 y5 y6,LeO (spec_l5Minimal.l0 k y0 y1 y2 y3 y4 y5 y6) (spec_l5Minimal.l0 (k+1) y0 y1 y2 y3 y4 y5 y6))∧(∀ y0 y1 y2 y3 y4 y5 y6 y7 y8,LeO (spec_l5Minimal.l1 k y0 y1 y2 y3 y4 y5 y6 y7 y8) (spec_l5Minimal.l1 (k+1) y0 y1 y2 y3 y4 y5 y6 y7 y8))
 | 0=>⟨fun _ _ _ _ _ _ _ r h=>by simp [spec_l5Minimal.l0] at h,fun _ _ _ _ _ _ _ _ _ r h=>by simp [spec_l5Minimal.l1] at h⟩
 | k+1=>by
  obtain ⟨ih0,ih1⟩:=spec_l5Minimal.mono_l k
  refine ⟨?_,?_⟩
  ·intro y0 y1 y2 y3 y4 y5 y6
   unfold spec_l5Minimal.l0
   repeat' first
   | (with_reducible exact ih0 _ _ _ _ _ _ _)
   | (with_reducible exact ih1 _ _ _ _ _ _ _ _ _)
   | (with_reducible exact spec_l5Classes.mono _ _ _)
   | (with_reducible exact spec_l5Find.mono _ _ _)
   | (with_reducible exact LeO.refl _)
   | (with_reducible exact LeO.none _)
   | (with_reducible refine LeO.ite ?_ ?_)
   | (with_reducible refine LeO.bind ?_ (fun _=>?_))
   | exact ih0 _ _ _ _ _ _ _
   | exact ih1 _ _ _ _ _ _ _ _ _
   | exact spec_l5Classes.mono _ _ _
   | exact spec_l5Find.mono _ _ _
   | exact LeO.none _
   | refine LeO.ite ?_ ?_
   | refine LeO.bind ?_ (fun _=>?_)
  ·intro y0 y1 y2 y3 y4 y5 y6 y7 y8
   unfold spec_l5Minimal.l1
   repeat' first
   | (with_reducible exact ih0 _ _ _ _ _ _ _)
   | (with_reducible exact ih1 _ _ _ _ _ _ _ _ _)
   | (with_reducible exact spec_l5Classes.mono _ _ _)
   | (with_reducible exact spec_l5Find.mono _ _ _)
   | (with_reducible exact LeO.refl _)
   | (with_reducible exact LeO.none _)
   | (with_reducible refine LeO.ite ?_ ?_)
   | (with_reducible refine LeO.bind ?_ (fun _=>?_))
   | exact ih0 _ _ _ _ _ _ _
   | exact ih1 _ _ _ _ _ _ _ _ _
   | exact spec_l5Classes.mono _ _ _
   | exact spec_l5Find.mono _ _ _
   | exact LeO.none _
   | refine LeO.ite ?_ ?_
   | refine LeO.bind ?_ (fun _=>?_)
theorem spec_l5Minimal.mono:∀ a0 a1 k,LeO (spec_l5Minimal.f k a0 a1) (spec_l5Minimal.f (k+1) a0 a1):=by
 intro a0 a1 k
 obtain ⟨ih0,ih1⟩:=spec_l5Minimal.mono_l k
 unfold spec_l5Minimal.f
 repeat' first
  | (with_reducible exact ih0 _ _ _ _ _ _ _)
  | (with_reducible exact ih1 _ _ _ _ _ _ _ _ _)
  | (with_reducible exact spec_l5Classes.mono _ _ _)
  | (with_reducible exact spec_l5Find.mono _ _ _)
  | (with_reducible exact LeO.refl _)
  | (with_reducible exact LeO.none _)
  | (with_reducible refine LeO.ite ?_ ?_)
  | (with_reducible refine LeO.bind ?_ (fun _=>?_))
  | exact ih0 _ _ _ _ _ _ _
  | exact ih1 _ _ _ _ _ _ _ _ _
  | exact spec_l5Classes.mono _ _ _
  | exact spec_l5Find.mono _ _ _
  | exact LeO.none _
  | refine LeO.ite ?_ ?_
  | refine LeO.bind ?_ (fun _=>?_)
def spec_l5Minimal.T11:Bool × List (List Nat × List Nat):=(true,[([],[]),([],[]),([1],[1]),([],[]),([],[]),([3,4],[3,4]),([5],[5]),([2,6],[2,6]),([7],[7]),([],[]),([8,9],[8,9]),([10],[10]),([0,11],[0,11]),([12],[12]),([13,0,1,2,3,4,5,6,7,8,9,10,11,12,13],[13])])
def spec_l5Minimal.B11:List Nat:=[0,0,2,0,0,24,56,126,254,0,1022,2046,4095,8191,16383]
theorem spec_l5Minimal.tab11:rtab .any (opsOf Try.f94 11)=spec_l5Minimal.T11:=by kernel_rfl
theorem spec_l5Minimal.bits11:waitsOk spec_l5Minimal.T11.2 spec_l5Minimal.B11=true:=by kernel_rfl
def spec_l5Minimal.T15:Bool × List (List Nat × List Nat):=(true,[([],[]),([0],[0]),([],[]),([2],[2]),([],[]),([],[]),([4,5],[4,5]),([6],[6]),([3,7],[3,7]),([8],[8]),([9],[9]),([1,10],[1,10]),([0,1,2,3,4,5,6,7,8,9,10,11],[]),([12,11,11,0,1,2,3,4,5,6,7,8,9,10,11],[11,12])])
def spec_l5Minimal.B15:List Nat:=[0,1,0,4,0,0,48,112,252,508,1020,2047,4095,8191]
theorem spec_l5Minimal.tab15:rtab .any (opsOf Try.f94 15)=spec_l5Minimal.T15:=by kernel_rfl
theorem spec_l5Minimal.bits15:waitsOk spec_l5Minimal.T15.2 spec_l5Minimal.B15=true:=by kernel_rfl
theorem zp7_0_ {p q g1 g2 g3:Prop} (h:p) (h1:g1) (h2:g2) (h3:g3) (c:p→g1→g2→g3→q:=by intro h_ h1_ h2_ h3_;repeat (first | (with_reducible first | exact h_ | apply below_alloc | apply pw_below_drewN | apply below_drew1 | refine below_set ?_ h1_ | refine below_set ?_ h2_ | refine below_set ?_ h3_) | exact h_)):q:=c h h1 h2 h3
set_option maxHeartbeats 8000000 in
set_option maxRecDepth 100000 in
theorem spec_l5Minimal.calls (k:Nat) (A0_0:Option Addr) (c0_0:Nat) (l0_0:List Bool) (A0_1:Option Addr) (c0_1:Nat) (l0_1:List (List Int)) (r1:List Bool) (r2:List (List Int)) (w:World) (hr0_0:Kd.C Kd.bool w A0_0 l0_0.length l0_0) (hc0_0:l0_0.length≤c0_0) (hr0_1:Kd.C (Kd.slice 3 (Kd.int .i64)) w A0_1 l0_1.length l0_1) (hc0_1:l0_1.length≤c0_1) (h:spec_l5Minimal.f k l0_0 l0_1=some (r1,r2)) :
  Calls Try.prog 94 #[.agg #[.slice A0_0 l0_0.length c0_0,.slice A0_1 l0_1.length c0_1]] w fun e w'=>∃ v0_ v1_:Value,e = .returned (.agg #[v0_,v1_])∧Kd.R Kd.bool 4 w' w.heap.size (fun _=>True) v0_ r1∧Kd.S (Kd.slice 3 (Kd.int .i64)) 67 w' w.heap.size (fun _=>True) v1_ r2∧Below w.heap.size w w':=by
 have hu27:=Try.underlying27
 have bQ:=am_ hr0_0
 have cj:=am_ hc0_0
 clear hr0_0 hc0_0
 have bE:=am_ hr0_1
 have ck:=am_ hc0_1
 clear hr0_1 hc0_1
 have HB:=am_ (Below.refl w.heap.size w)
 have H:((spec_l5Classes.f k l0_0 l0_1).bind fun ai=>(if 0<(ai.length:Int) then (spec_l5Minimal.l0 k ai (([rd ai 0]:List Int)) 0 l0_0 l0_1 ([]:List Bool) ([]:List (List Int))) else (none)))=some (r1,r2):=h
 clear h
 replace H:=Option.bind_eq_some_iff.mp H
 obtain ⟨ai,A20,H⟩:=H
 have A2:=am_ A20
 clear A20
 by_cases c3:0<(ai.length:Int)
 ·rw [if_pos c3] at H
  have c3b0:decide (0<(ai.length:Int))=true:=decide_eq_true c3
  have c3b1:decide (0<ai.length)=true:=decide_eq_true (by omega)
  clear c3
  obtain ⟨bV,hy164⟩:∃ y_:List Int,y_=(([rd ai 0]:List Int)):=⟨_,rfl⟩
  replace H:(spec_l5Minimal.l0 k ai bV 0 l0_0 l0_1 ([]:List Bool) ([]:List (List Int)))=some (r1,r2):=by first | (rw [hy164];with_reducible exact H) | (have H2_:=(Option.bind_some _ _).symm.trans H;rw [hy164];with_reducible exact H2_) | (have H2_:=(Option.bind_some _ _).symm.trans H;with_reducible exact H2_) | with_reducible exact H | (rw [hy164];exact H) | exact H
  have bR:=am_ hy164
  clear hy164
  have H':=am_ H
  clear H
  go_enter Try.func94,Try.ntmps94
  go_wp2_with (first | ((with_reducible refine gate_dst (N:=1) rfl ?_);refine box_event ?hg (N:=1) ?hd (cs:=#[.slice A0_0 l0_0.length c0_0,.slice A0_1 l0_1.length c0_1]) (t:=27) ?hr ?_;(case hd=>rfl);(case hg=>rfl);(case hr=>first | (go_simp;done) | (go_simp;rfl));intro ax hg w4 hbox hb;replace af:=am_ (hbox);replace cR:=am_ ((by rw [hg];exact (below_size (b0_ HB.out)):w.heap.size≤ax));replace aq:=am_ ((by rw [hg];exact (below_size (b0_ HB.out)):w.heap.size≤ax));replace HB:=am_ (below_step (b0_ HB.out) hb);clear hb hbox hg) | ((with_reducible refine gate_dst (N:=2) rfl ?_);refine box_event ?hg (N:=2) ?hd (cs:=#[.slice none 0 0,.slice none 0 0]) (t:=27) ?hr ?_;(case hd=>rfl);(case hg=>rfl);(case hr=>first | (go_simp;done) | (go_simp;rfl));intro az hg w5 hbox hb;have n0_:=am_ (blk_below (rb_ af.out) hb);have n1_:=am_ (below_step (b1_ HB.out aq.out) hb);have n2_:=am_ (hbox);have n3_:=am_ ((by rw [hg];exact (below_size (b1_ HB.out aq.out)):w.heap.size≤az));have n4_:=am_ ((by rw [hg];exact (below_size (b1_ HB.out aq.out)):w.heap.size≤az));have n5_:=am_ ((by rw [hg];exact Nat.ne_of_lt (blk_lt (rb_ af.out)):ax ≠ az));have n6_:=am_ ((by rw [hg];exact Nat.ne_of_gt (blk_lt (rb_ af.out)):az ≠ ax));clear af;clear HB;have af:=n0_;have HB:=n1_;have ah:=n2_;have cS:=n3_;have av:=n4_;have bs:=n5_;have bt:=n6_;clear n0_ n1_ n2_ n3_ n4_ n5_ n6_;clear hb hbox hg;have di:=bs.out;have dj:=bt.out;have bK:=ck_ (v:=(.slice A0_0 l0_0.length c0_0)) af 0 rfl;have bL:=ck_ (v:=(.slice A0_1 l0_1.length c0_1)) af 1 rfl;have bM:=blk_frozen af.out 0;have bN:=blk_frozen af.out 1) | ((with_reducible refine gate_callee (f:=126) rfl ?_);refine gL_ (some 11) Try.func126 #[.agg #[.slice A0_0 l0_0.length c0_0,.slice A0_1 l0_1.length c0_1]] ?_;(with_reducible refine (spec_l5Classes.calls k _ _ l0_0 _ _ l0_1 ai _ ?side1 ?side2 ?side3 ?side4 A2.out).mono ?_);(case side1=>exact rc_ (Kd.C_below bQ.out HB.out));(case side2=>exact cj.out);(case side3=>exact rc_ (Kd.C_below bE.out HB.out));(case side4=>exact ck.out);rintro e w8 ⟨dk,rfl,ho0,hb⟩;refine ⟨_,rfl,?_⟩;have n0_:=am_ (Kd.R_lower ho0 (below_size (b2_ HB.out aq.out av.out)));have n1_:=am_ (blk_below (rb_ af.out) hb);have n2_:=am_ (blk_below (rb_ ah.out) hb);have n3_:=am_ (below_step (b2_ HB.out aq.out av.out) hb);clear af;clear ah;clear HB;have aR:=n0_;have af:=n1_;have ah:=n2_;have HB:=n3_;clear n0_ n1_ n2_ n3_;(try clear hb);(try clear hb2);(try clear hk);(try clear hi);(try clear ho0);obtain ⟨Ao9,co9,eo9⟩:=Kd.R_slice aR.out;subst eo9;have p163:0≤(0:Int):=(by omega);have q163:0<(ai.length:Int):=of_decide_eq_true ah_;obtain ⟨ar,e163,bk⟩:=Kd.at_int (Kd.R_reads' aR.out).2.2 0 p163 q163;cases e163;have qi163:(0<ai.length)=True:=eq_true (by omega);(try rw [show ((0:Int)).toNat=0 from rfl] at bk);(try rw [Addr.add_zero'] at bk);replace p163:=eq_true p163;replace q163:=eq_true q163) | ((with_reducible refine gate_dst (N:=15) rfl ?_);refine Kd.R_lit (Kd.int .i64) _ 3 ?hg (N:=15) ?hd (xs:=([rd ai 0]:List Int)) (inner:=[.int .i64 (rd ai 0)]) (ok:=fun _=>True) (okp:=fun _=>True) ?hr ?hp (fun _ hk=>hk) trivial (Below.refl _ _) (Nat.le_refl _) (by simp) ?_;(case hd=>rfl);(case hg=>rfl);(case hr=>first | (go_simp;done) | (go_simp;rfl));(case hp=>exact (Reps.one (show Kd.M (Kd.int .i64) _ _ _ (rd ai 0) [.int .i64 (rd ai 0)] from rfl) (Reps.none _ _)));intro dl w10 ho11 hb hg_ hnew_;clear hg_ hnew_;(first | rw [← bR.out] at ho11 | (simp only [Int.reduceToNat] at ho11;rw [← bR.out] at ho11));have n0_:=am_ (Kd.R_elder' (rr_ aR.out) (Kd.R_base ho11) hb);have n1_:=am_ (Kd.R_lower (Kd.R_new' ho11 (Kd.R_lt (rr_ aR.out))) (below_size (b2_ HB.out aq.out av.out)));have n2_:=am_ (blk_below (rb_ af.out) hb);have n3_:=am_ (blk_below (rb_ ah.out) hb);have n4_:=am_ (below_step (b2_ HB.out aq.out av.out) hb);clear aR;clear af;clear ah;clear HB;have aR:=n0_;have bu:=n1_;have af:=n2_;have ah:=n3_;have HB:=n4_;clear n0_ n1_ n2_ n3_ n4_;clear hb ho11) | ((with_reducible refine gate_dst (N:=5) rfl ?_);refine box_event ?hg (N:=5) ?hd (cs:=#[.slice none 0 0,.slice none 0 0]) (t:=27) ?hr ?_;(case hd=>rfl);(case hg=>rfl);(case hr=>first | (go_simp;done) | (go_simp;rfl));intro ak hg w12 hbox hb;have n0_:=am_ (Kd.R_below (rr_ aR.out) hb);have n1_:=am_ (Kd.R_below (rr_ bu.out) hb);have n2_:=am_ (blk_below (rb_ af.out) hb);have n3_:=am_ (blk_below (rb_ ah.out) hb);have n4_:=am_ (below_step (b2_ HB.out aq.out av.out) hb);have n5_:=am_ (hbox);have n6_:=am_ ((by rw [hg];exact (below_size (b2_ HB.out aq.out av.out)):w.heap.size≤ak));have n7_:=am_ ((by rw [hg];exact (below_size (b2_ HB.out aq.out av.out)):w.heap.size≤ak));have n8_:=am_ ((by rw [hg];exact Nat.ne_of_lt (blk_lt (rb_ af.out)):ax ≠ ak));have n9_:=am_ ((by rw [hg];exact Nat.ne_of_gt (blk_lt (rb_ af.out)):ak ≠ ax));have n10_:=am_ ((by rw [hg];exact Nat.ne_of_lt (blk_lt (rb_ ah.out)):az ≠ ak));have n11_:=am_ ((by rw [hg];exact Nat.ne_of_gt (blk_lt (rb_ ah.out)):ak ≠ az));clear aR;clear bu;clear af;clear ah;clear HB;have aR:=n0_;have bu:=n1_;have af:=n2_;have ah:=n3_;have HB:=n4_;have ae:=n5_;have cT:=n6_;have aA:=n7_;have aI:=n8_;have aW:=n9_;have aJ:=n10_;have aX:=n11_;clear n0_ n1_ n2_ n3_ n4_ n5_ n6_ n7_ n8_ n9_ n10_ n11_;clear hb hbox hg;have cU:=aW.out;have cV:=aI.out;have cW:=aX.out;have cX:=aJ.out;have bz:=ck_ (v:=(.slice none 0 0)) ae 0 rfl;have bA:=ck_ (v:=(.slice none 0 0)) ae 1 rfl;have bB:=blk_frozen ae.out 0;have bC:=blk_frozen ae.out 1))
  go_loopg [4,6] k (fun kq v4 v6 w'=>∃ (bj:List Int) (ad:Int) (ap:List Bool) (am:List (List Int)) (ay:Value) (ao:Value),v6 = .int .i64 ad∧Aside0 (spec_l5Minimal.l0 kq ai bj ad l0_0 l0_1 ap am=some (r1,r2))∧Aside0 (kq≤k)∧Aside0 (Kd.R (Kd.int .i64) 3 w' w.heap.size (fun k_=>some k_ ≠ (v4:Value).ownBlock) (.slice (some ar) ai.length co9) ai)∧Aside0 (Kd.R (Kd.int .i64) 3 w' w.heap.size (fun k_=>some k_ ≠ ((.slice (some ar) ai.length co9):Value).ownBlock) v4 bj)∧Aside0 (Kd.R Kd.bool 4 w' w.heap.size (fun _=>True) ay ap)∧Aside0 (Kd.S (Kd.slice 3 (Kd.int .i64)) 67 w' w.heap.size (fun k_=>some k_ ≠ ((.slice (some ar) ai.length co9):Value).ownBlock∧some k_ ≠ (v4:Value).ownBlock) ao am)∧Aside0 (w'.heap[ax]? = some (.cells #[(.slice A0_0 l0_0.length c0_0),(.slice A0_1 l0_1.length c0_1)] 27 (0,0)))∧Aside0 (w'.heap[az]? = some (.cells #[(.slice none 0 0),(.slice none 0 0)] 27 (0,0)))∧Aside0 (w'.heap[ak]? = some (.cells #[ay,ao] 27 (0,0)))∧Aside0 (Below w.heap.size w w'))
  case atStart=>exact ⟨(bV),(0),(([]:List Bool)),(([]:List (List Int))),(.slice none 0 0),(.slice none 0 0),(by first | rfl | (simp;done) | (simp [*];done)),H',⟨Nat.le_refl _⟩,⟨by refine rr_ ?_;exact Kd.R_mono (Kd.R_far (p:=⟨ak,1,none⟩) (Kd.R_far (p:=⟨ak,0,none⟩) (Kd.R_types aR.out ae.out (by decide)) (fun _ hk=>hk.2) (.slice none 0 0)) (fun _ hk=>hk.2) (.slice none 0 0)) (fun _ hk=>hk.1.2)⟩,⟨by refine rr_ ?_;exact Kd.R_mono (Kd.R_far (p:=⟨ak,1,none⟩) (Kd.R_far (p:=⟨ak,0,none⟩) (Kd.R_types bu.out ae.out (by decide)) (fun _ hk=>hk.2) (.slice none 0 0)) (fun _ hk=>hk.2) (.slice none 0 0)) (fun _ hk=>hk.1.2)⟩,⟨by first | exact Kd.R_nil _ _ _ _ _ | exact Kd.N_nil _ _ _ _ _ | exact Kd.V_nil _ _ _ _ _ | exact Kd.Q_nil _ _ _ _ _ | exact Kd.S_nil _ _ _ _ _⟩,⟨by first | exact Kd.S_nil _ _ _ _ _ | exact Kd.N_nil _ _ _ _ _ | exact Kd.V_nil _ _ _ _ _ | exact Kd.Q_nil _ _ _ _ _ | exact Kd.R_nil _ _ _ _ _⟩,⟨by refine rb_ ?_;refine blk_far ?_ aI.out _;refine rb_ ?_;refine blk_far ?_ aI.out _;refine rb_ ?_;exact af.out⟩,⟨by refine rb_ ?_;refine blk_far ?_ aJ.out _;refine rb_ ?_;refine blk_far ?_ aJ.out _;refine rb_ ?_;exact ah.out⟩,⟨by refine rb_ ?_;refine blk_put (cs:=#[.slice none 0 0,.slice none 0 0]) ?_ 1 _ rfl;refine rb_ ?_;refine blk_put (cs:=#[.slice none 0 0,.slice none 0 0]) ?_ 0 _ rfl;refine rb_ ?_;exact ae.out⟩,⟨by exact zp7_0_ HB.out aq.out av.out aA.out⟩⟩
  case round =>
   clear H'
   try clear c1
   try clear p1
   try clear q1
   try clear hx1
   try clear qi1
   try clear p2
   try clear c3
   try clear c3b0
   try clear c3b1
   try clear c6
   try clear c9
   try clear c12
   try clear c13
   try clear c14
   try clear bz
   try clear bA
   try clear bK
   try clear bL
   try clear bB
   try clear bC
   try clear bM
   try clear bN
   try clear bk
   try clear p163
   try clear q163
   obtain ⟨bj,ad,ap,am,ay,ao,rfl,HA,HK1,an,al,ag,ab,af,ah,ae,HB⟩:=hrel
   cases gk with
   | zero=>exact absurd HA.out (by simp [spec_l5Minimal.l0])
   | succ k1 =>
    have H:=HA.out
    clear HA
    simp only [spec_l5Minimal.l0] at H
    by_cases c16:ad<(bj.length:Int)
    ·rw [if_pos c16] at H
     have c16b0:decide (ad<(bj.length:Int))=true:=decide_eq_true c16
     clear c16
     obtain ⟨bW,hy168⟩:∃ y_:List Int,y_=(([]:List Int)):=⟨_,rfl⟩
     replace H:(spec_l5Minimal.l1 k1 ai bj ad bW 0 l0_0 l0_1 ap am)=some (r1,r2):=by first | (rw [hy168];with_reducible exact H) | (have H2_:=(Option.bind_some _ _).symm.trans H;rw [hy168];with_reducible exact H2_) | (have H2_:=(Option.bind_some _ _).symm.trans H;with_reducible exact H2_) | with_reducible exact H | (rw [hy168];exact H) | exact H
     have bS:=am_ hy168
     clear hy168
     have H':=am_ H
     clear H
     obtain ⟨dm,dn,cu⟩:=Kd.R_slice al.out
     subst cu
     go_wp2_with (first | ((with_reducible refine gate_dst (N:=23) rfl ?_);refine Kd.R_lit (Kd.int .i64) _ 3 ?hg (N:=23) ?hd (xs:=([]:List Int)) (inner:=[]) (ok:=fun _=>True) (okp:=fun _=>True) ?hr ?hp (fun _ hk=>hk) trivial (Below.refl _ _) (Nat.le_refl _) (by simp) ?_;(case hd=>rfl);(case hg=>rfl);(case hr=>first | (go_simp;done) | (go_simp;rfl));(case hp=>exact (Reps.none _ _));intro dp w18 ho19 hb hg_ hnew_;clear hg_ hnew_;(first | rw [← bS.out] at ho19 | (simp only [Int.reduceToNat] at ho19;rw [← bS.out] at ho19));have n0_:=am_ (Kd.R_elder' (rr_ an.out) (Kd.R_base ho19) hb);have n1_:=am_ (Kd.R_elder' (rr_ al.out) (Kd.R_base ho19) hb);have n2_:=am_ (Kd.R_below (rr_ ag.out) hb);have n3_:=am_ (Kd.S_elder' (rs_ ab.out) (Kd.R_base ho19) hb);have n4_:=am_ (Kd.R_lower (Kd.R_new' (Kd.R_new' ho19 (Kd.R_lt (rr_ an.out))) (Kd.R_lt (rr_ al.out))) (below_size (b3_ HB.out aq.out av.out aA.out)));have n5_:=am_ (blk_below (rb_ af.out) hb);have n6_:=am_ (blk_below (rb_ ah.out) hb);have n7_:=am_ (blk_below (rb_ ae.out) hb);have n8_:=am_ (below_step (b3_ HB.out aq.out av.out aA.out) hb);clear an;clear al;clear ag;clear ab;clear af;clear ah;clear ae;clear HB;have an:=n0_;have al:=n1_;have ag:=n2_;have ab:=n3_;have cl:=n4_;have af:=n5_;have ah:=n6_;have ae:=n7_;have HB:=n8_;clear n0_ n1_ n2_ n3_ n4_ n5_ n6_ n7_ n8_;clear hb ho19))
     go_loopg [4,7,8] k1 (fun kq v4 v7 v8 w'=>∃ (aa:List Int) (aK:List Int) (aj:Int),v8 = .int .i64 aj∧Aside0 (spec_l5Minimal.l1 kq ai aa ad aK aj l0_0 l0_1 ap am=some (r1,r2))∧Aside0 (kq≤k1)∧Aside0 (Kd.R (Kd.int .i64) 3 w' w.heap.size (fun k_=>some k_ ≠ (v4:Value).ownBlock∧some k_ ≠ (v7:Value).ownBlock) (.slice (some ar) ai.length co9) ai)∧Aside0 (Kd.R (Kd.int .i64) 3 w' w.heap.size (fun k_=>some k_ ≠ ((.slice (some ar) ai.length co9):Value).ownBlock∧some k_ ≠ (v7:Value).ownBlock) v4 aa)∧Aside0 (Kd.R (Kd.int .i64) 3 w' w.heap.size (fun k_=>some k_ ≠ ((.slice (some ar) ai.length co9):Value).ownBlock∧some k_ ≠ (v4:Value).ownBlock) v7 aK)∧Aside0 (Kd.R Kd.bool 4 w' w.heap.size (fun _=>True) ay ap)∧Aside0 (Kd.S (Kd.slice 3 (Kd.int .i64)) 67 w' w.heap.size (fun k_=>some k_ ≠ ((.slice (some ar) ai.length co9):Value).ownBlock∧some k_ ≠ (v4:Value).ownBlock∧some k_ ≠ (v7:Value).ownBlock) ao am)∧Aside0 (w'.heap[ax]? = some (.cells #[(.slice A0_0 l0_0.length c0_0),(.slice A0_1 l0_1.length c0_1)] 27 (0,0)))∧Aside0 (w'.heap[az]? = some (.cells #[(.slice none 0 0),(.slice none 0 0)] 27 (0,0)))∧Aside0 (w'.heap[ak]? = some (.cells #[ay,ao] 27 (0,0)))∧Aside0 (Below w.heap.size w w'))
     case atStart=>exact ⟨(bj),(bW),(0),(by first | rfl | (simp;done) | (simp [*];done)),H',⟨Nat.le_refl _⟩,⟨by refine rr_ ?_;exact an.out⟩,⟨by refine rr_ ?_;exact al.out⟩,⟨by refine rr_ ?_;exact Kd.R_mono cl.out (fun _ hk=>⟨hk.1.2,hk.2⟩)⟩,⟨by refine rr_ ?_;exact ag.out⟩,⟨by refine rs_ ?_;exact Kd.S_mono ab.out (fun _ hk=>⟨hk.1.1,⟨hk.1.2,hk.2⟩⟩)⟩,⟨by refine rb_ ?_;exact af.out⟩,⟨by refine rb_ ?_;exact ah.out⟩,⟨by refine rb_ ?_;exact ae.out⟩,⟨by exact zp7_0_ HB.out aq.out av.out aA.out⟩⟩
     case round =>
      clear H'
      try clear c1
      try clear p1
      try clear q1
      try clear hx1
      try clear qi1
      try clear p2
      try clear c3
      try clear c3b0
      try clear c3b1
      try clear c6
      try clear c9
      try clear c12
      try clear c13
      try clear c14
      try clear c16
      try clear c16b0
      try clear p16
      try clear q16
      try clear hx16
      try clear qi16
      try clear bz
      try clear bA
      try clear bK
      try clear bL
      try clear bB
      try clear bC
      try clear bM
      try clear bN
      try clear bk
      try clear p1
      try clear p163
      try clear p2
      try clear q1
      try clear q163
      obtain ⟨aa,aK,aj,rfl,HA,HK2,an,al,au,ag,ab,af,ah,ae,HB⟩:=hrel
      cases gk with
      | zero=>exact absurd HA.out (by simp [spec_l5Minimal.l1])
      | succ k2 =>
       have H:=HA.out
       clear HA
       simp only [spec_l5Minimal.l1] at H
       by_cases c20:aj<3
       ·rw [if_pos c20] at H
        have c20b0:decide (aj<3)=true:=decide_eq_true c20
        clear c20
        by_cases c21:0≤ad
        ·rw [if_pos c21] at H
         have c21b0:decide (0≤ad)=true:=decide_eq_true c21
         clear c21
         by_cases c22:ad<(aa.length:Int)
         ·rw [if_pos c22] at H
          have c22b0:decide (ad<(aa.length:Int))=true:=decide_eq_true c22
          clear c22
          by_cases c23:0≤(rd aa ad)
          ·rw [if_pos c23] at H
           have c23b0:decide (0≤(rd aa ad))=true:=decide_eq_true c23
           clear c23
           by_cases c24:(rd aa ad)<(l0_1.length:Int)
           ·rw [if_pos c24] at H
            have c24b0:decide ((rd aa ad)<(l0_1.length:Int))=true:=decide_eq_true c24
            clear c24
            by_cases c25:0≤aj
            ·rw [if_pos c25] at H
             have c25b0:decide (0≤aj)=true:=decide_eq_true c25
             clear c25
             by_cases c26:aj<((rd_L1 l0_1 (rd aa ad)).length:Int)
             ·rw [if_pos c26] at H
              have c26b0:decide (aj<((rd_L1 l0_1 (rd aa ad)).length:Int))=true:=decide_eq_true c26
              clear c26
              by_cases c27:0≤(rd (rd_L1 l0_1 (rd aa ad)) aj)
              ·rw [if_pos c27] at H
               have c27b0:decide (0≤(rd (rd_L1 l0_1 (rd aa ad)) aj))=true:=decide_eq_true c27
               clear c27
               by_cases c28:(rd (rd_L1 l0_1 (rd aa ad)) aj)<(ai.length:Int)
               ·rw [if_pos c28] at H
                have c28b0:decide ((rd (rd_L1 l0_1 (rd aa ad)) aj)<(ai.length:Int))=true:=decide_eq_true c28
                clear c28
                replace H:=Option.bind_eq_some_iff.mp H
                obtain ⟨bm,bX,H⟩:=H
                have A29:=am_ bX
                clear bX
                by_cases c30:bm<0
                ·rw [if_pos c30] at H
                 have c30b0:decide (bm<0)=true:=decide_eq_true c30
                 clear c30
                 by_cases c31:aa.length<17592186044416
                 ·rw [if_pos c31] at H
                  have LMc31:=am_ c31
                  clear c31
                  obtain ⟨aU,hy184⟩:∃ y_:List Int,y_=(aa ++ [rd ai (rd (rd_L1 l0_1 (rd aa ad)) aj)]):=⟨_,rfl⟩
                  replace H:((spec_l5Find.f k2 aU (rd ai (rd (rd_L1 l0_1 (rd aa ad)) aj))).bind fun bi=>(if aK.length<17592186044416 then (spec_l5Minimal.l1 k2 ai aU ad (aK ++ [bi]) (wrap64 (aj+1)) l0_0 l0_1 ap am) else (none)))=some (r1,r2):=by first | (rw [hy184];with_reducible exact H) | (have H2_:=(Option.bind_some _ _).symm.trans H;rw [hy184];with_reducible exact H2_) | (have H2_:=(Option.bind_some _ _).symm.trans H;with_reducible exact H2_) | with_reducible exact H | (rw [hy184];exact H) | exact H
                  have cm:=am_ hy184
                  clear hy184
                  replace H:=Option.bind_eq_some_iff.mp H
                  obtain ⟨bi,bY,H⟩:=H
                  have A32:=am_ bY
                  clear bY
                  by_cases c33:aK.length<17592186044416
                  ·rw [if_pos c33] at H
                   have LMc33:=am_ c33
                   clear c33
                   obtain ⟨bZ,hy188⟩:∃ y_:List Int,y_=(aK ++ [bi]):=⟨_,rfl⟩
                   replace H:(spec_l5Minimal.l1 k2 ai aU ad bZ (wrap64 (aj+1)) l0_0 l0_1 ap am)=some (r1,r2):=by first | (rw [hy188];with_reducible exact H) | (have H2_:=(Option.bind_some _ _).symm.trans H;rw [hy188];with_reducible exact H2_) | (have H2_:=(Option.bind_some _ _).symm.trans H;with_reducible exact H2_) | with_reducible exact H | (rw [hy188];exact H) | exact H
                   have cn:=am_ hy188
                   clear hy188
                   have H':=am_ H
                   clear H
                   try go_wp2
                   replace an:=am_ (Kd.R_drew an.out)
                   replace al:=am_ (Kd.R_drew al.out)
                   replace au:=am_ (Kd.R_drew au.out)
                   replace ag:=am_ (Kd.R_drew ag.out)
                   replace ab:=am_ (Kd.S_drew ab.out)
                   replace af:=am_ (blk_drew af.out)
                   replace ah:=am_ (blk_drew ah.out)
                   replace ae:=am_ (blk_drew ae.out)
                   replace HB:=am_ (below_drew1 HB.out)
                   obtain ⟨dq,ca,cb⟩:=Kd.R_slice al.out
                   (first | subst cb | (injection cb with f1_ f2_ f3_;have f4_:=f1_.symm;have f5_:=f3_.symm;clear f1_ f2_ f3_;subst f4_;subst f5_))
                   have p179:0≤(ad:Int):=of_decide_eq_true ah_
                   have q179:ad<(aa.length:Int):=of_decide_eq_true ah_
                   obtain ⟨aT,e179,bc⟩:=Kd.at_int (Kd.R_reads' al.out).2.2 ad p179 q179
                   cases e179
                   replace p179:=eq_true p179
                   replace q179:=eq_true q179
                   have p180:0≤((rd aa ad):Int):=of_decide_eq_true ah_
                   have q180:(rd aa ad)<(l0_1.length:Int):=of_decide_eq_true ah_
                   obtain ⟨aY,A180_0,c180_0,e180,aG,hl180_0,hi180_0⟩:=at_L1 bE.out (rd aa ad) p180 q180
                   have bd:=aG
                   cases e180
                   replace aG:=(HB.out.cell (World.block_lt_of_cell? w _ aG)).trans aG
                   have be:=am_ hi180_0
                   have bU:=am_ hl180_0
                   clear hi180_0 hl180_0
                   replace p180:=eq_true p180
                   replace q180:=eq_true q180
                   have p181:0≤(aj:Int):=of_decide_eq_true ah_
                   have q181:aj<((rd_L1 l0_1 (rd aa ad)).length:Int):=of_decide_eq_true ah_
                   obtain ⟨bp,e181,aH⟩:=Kd.at_int be.out aj p181 q181
                   have bf:=aH
                   cases e181
                   replace aH:=(HB.out.cell (World.block_lt_of_cell? w _ aH)).trans aH
                   replace p181:=eq_true p181
                   replace q181:=eq_true q181
                   have p182:0≤((rd (rd_L1 l0_1 (rd aa ad)) aj):Int):=of_decide_eq_true ah_
                   have q182:(rd (rd_L1 l0_1 (rd aa ad)) aj)<(ai.length:Int):=of_decide_eq_true ah_
                   obtain ⟨bF,e182,bg⟩:=Kd.at_int (Kd.R_reads' an.out).2.2 (rd (rd_L1 l0_1 (rd aa ad)) aj) p182 q182
                   obtain rfl:ar=bF:=(by injection e182)
                   replace p182:=eq_true p182
                   replace q182:=eq_true q182
                   refine start_ (n:=15) (S:=fun w'=>w'.cell? ⟨ax,0,none⟩=some (.slice A0_0 l0_0.length c0_0)∧w'.cell? ⟨ax,1,none⟩=some (.slice (some aY) l0_1.length c0_1)∧w'.cell? (aT.add (ad).toNat)=some (.int .i64 (rd aa ad))∧w'.cell? (aY.add ((rd aa ad)).toNat)=some (.slice (some bp) (rd_L1 l0_1 (rd aa ad)).length c180_0)∧w'.cell? (bp.add (aj).toNat)=some (.int .i64 (rd (rd_L1 l0_1 (rd aa ad)) aj))∧w'.cell? (ar.add ((rd (rd_L1 l0_1 (rd aa ad)) aj)).toNat)=some (.int .i64 (rd ai (rd (rd_L1 l0_1 (rd aa ad)) aj)))) (ds:=[]) (bl 15 0) (by kernel_rfl) rfl rfl ⟨(blk_cell af.out 0).trans rfl,(blk_cell af.out 1).trans rfl,bc,((HB.out.cell (World.block_lt_of_cell? w _ bd)).trans bd),((HB.out.cell (World.block_lt_of_cell? w _ bf)).trans bf),bg⟩ (fun hHeld=>?_);refine with_tabW spec_l5Minimal.tab11 spec_l5Minimal.bits11 (fun HT_ HW_=>?_)
                   generalize wr.drew=w34 at an al au ag ab af ah ae HB be bc aG aH bg hHeld ⊢
                   refine pu_ 0 28 (bl 15 1) HT_ ?_
                   refine pu_ 1 29 (bl 15 3) HT_ ?_
                   refine pu_ 3 31 (bl 15 11) HT_ ?_
                   refine pu_ 4 32 (bl 15 27) HT_ ?_
                   refine pu_ 5 33 (bl 15 59) HT_ ?_
                   refine pu_ 9 37 (bl 15 571) HT_ ?_
                   refine tk_ 2 30 (bl 15 575) HT_ HW_ hHeld ?_
                   refine tk_ 6 34 (bl 15 639) HT_ HW_ hHeld ?_
                   refine pu_ 7 35 (bl 15 767) HT_ ?_
                   refine tk_ 8 36 (bl 15 1023) HT_ HW_ hHeld ?_
                   refine pu_ 10 38 (bl 15 2047) HT_ ?_
                   refine tk_ 11 39 (bl 15 4095) HT_ HW_ hHeld ?_
                   refine pu_ 12 40 (bl 15 8191) HT_ ?_
                   refine tk_ 13 41 (bl 15 16383) HT_ HW_ hHeld ?_
                   refine pu_ 14 9 (bl 15 32767) HT_ ?_
                   refine done_ (done_of HT_.out (by kernel_rfl)) ?_
                   try go_wp2_with (first | ((with_reducible refine gate_callee (f:=63) rfl ?_);refine gL_ (some 44) Try.func63 #[.slice (some aT) aa.length ca,.int .i64 (rd ai (rd (rd_L1 l0_1 (rd aa ad)) aj))] ?_;(with_reducible refine (spec_l5Find.calls k2 _ _ aa (rd ai (rd (rd_L1 l0_1 (rd aa ad)) aj)) bm _ ?side1 ?side2 A29.out).mono ?_);(case side1=>exact rc_ ((Kd.R_reads' al.out).2.2));(case side2=>exact (Kd.R_reads' al.out).2.1);rintro e w' ⟨rfl,⟨nd,rfl⟩⟩;refine ⟨_,rfl,?_⟩) | ((with_reducible refine gate_builtin (b:=.append) (xs:=#[.tmp 46,.tmp 48]) rfl ?_);at_builtin;refine Kd.R_append (Kd.int .i64) (w0:=w) w.heap.size rfl (.tmp 46) (.tmp 48) 67 3 (.int .i64 0) 8 rfl Try.underlying67 info3 rfl (by decide) (by omega) (.slice (some aT) aa.length ca) aa (rd ai (rd (rd_L1 l0_1 (rd aa ad)) aj)) [.int .i64 (rd ai (rd (rd_L1 l0_1 (rd aa ad)) aj))] (fun k_=>some k_ ≠ (.slice (some ar) ai.length co9:Value).ownBlock∧some k_ ≠ (u7:Value).ownBlock) (fun _=>False) rfl rfl ?aP (fun _ hk=>hk.elim) ?aF ?aO ?aB ?aS ?aL ?_;(case aP=>exact rfl);(case aB=>exact (b3_ HB.out aq.out av.out aA.out));(case aF=>exact (fun k_ hk=>⟨Kd.fresh' (Kd.R_lt (rr_ an.out)) k_ hk,Kd.fresh' (Kd.R_lt (rr_ au.out)) k_ hk⟩));(case aO=>exact (rr_ al.out));(case aS=>exact (below_size (b3_ HB.out aq.out av.out aA.out)));(case aL=>have:=LMc31.out;omega);intro dr w36 ho hb hg hat;rw [← cm.out] at ho;have n0_:=am_ (Kd.R_after (ok:=(fun k_=>some k_ ≠ (u7:Value).ownBlock)) (by refine rr_ ?_;exact Kd.R_mono an.out (fun _ hk=>⟨hk.2,hk.1⟩)) hg hat);have n1_:=am_ (Kd.R_after (ok:=(fun k_=>some k_ ≠ (.slice (some ar) ai.length co9:Value).ownBlock)) (rr_ au.out) hg hat);have n2_:=am_ (Kd.R_over' (rr_ ag.out) (Kd.R_typed (rr_ al.out)) (by decide) hg);have n3_:=am_ (Kd.S_after (ok:=(fun k_=>some k_ ≠ (.slice (some ar) ai.length co9:Value).ownBlock∧some k_ ≠ (u7:Value).ownBlock)) (by refine rs_ ?_;exact Kd.S_mono ab.out (fun _ hk=>⟨⟨hk.1,hk.2.2⟩,hk.2.1⟩)) hg hat);have n4_:=am_ (blk_grown (g:=ax) (o:=.cells #[.slice A0_0 l0_0.length c0_0,.slice (some aY) l0_1.length c0_1] 27 (0,0)) (rb_ af.out) hg (Kd.R_ne al.out af.out (by decide)));have n5_:=am_ (blk_grown (g:=az) (o:=.cells #[.slice none 0 0,.slice none 0 0] 27 (0,0)) (rb_ ah.out) hg (Kd.R_ne al.out ah.out (by decide)));have n6_:=am_ (blk_grown (g:=ak) (o:=.cells #[ay,ao] 27 (0,0)) (rb_ ae.out) hg (Kd.R_ne al.out ae.out (by decide)));have n7_:=am_ (hb);have n8_:=am_ (ho);clear an;clear au;clear ag;clear ab;clear af;clear ah;clear ae;clear HB;clear al;have an:=n0_;have au:=n1_;have ag:=n2_;have ab:=n3_;have af:=n4_;have ah:=n5_;have ae:=n6_;have HB:=n7_;have aZ:=n8_;clear n0_ n1_ n2_ n3_ n4_ n5_ n6_ n7_ n8_;clear ho hb hg hat;obtain ⟨bG,bH,cv⟩:=Kd.R_slice aZ.out;subst cv) | ((with_reducible refine gate_callee (f:=63) rfl ?_);refine gL_ (some 53) Try.func63 #[.slice bG aU.length bH,.int .i64 (rd ai (rd (rd_L1 l0_1 (rd aa ad)) aj))] ?_;(with_reducible refine (spec_l5Find.calls k2 _ _ aU (rd ai (rd (rd_L1 l0_1 (rd aa ad)) aj)) bi _ ?side1 ?side2 A32.out).mono ?_);(case side1=>exact rc_ ((Kd.R_reads' aZ.out).2.2));(case side2=>exact (Kd.R_reads' aZ.out).2.1);rintro e w' ⟨rfl,⟨nd,rfl⟩⟩;refine ⟨_,rfl,?_⟩) | ((with_reducible refine gate_builtin (b:=.append) (xs:=#[.tmp 50,.tmp 54]) rfl ?_);at_builtin;refine Kd.R_append (Kd.int .i64) (w0:=w) w.heap.size rfl (.tmp 50) (.tmp 54) 67 3 (.int .i64 0) 8 rfl Try.underlying67 info3 rfl (by decide) (by omega) u7 aK bi [.int .i64 bi] (fun k_=>some k_ ≠ (.slice (some ar) ai.length co9:Value).ownBlock∧some k_ ≠ (.slice bG aU.length bH:Value).ownBlock) (fun _=>False) rfl rfl ?aP (fun _ hk=>hk.elim) ?aF ?aO ?aB ?aS ?aL ?_;(case aP=>exact rfl);(case aB=>exact (b3_ HB.out aq.out av.out aA.out));(case aF=>exact (fun k_ hk=>⟨Kd.fresh' (Kd.R_lt (rr_ an.out)) k_ hk,Kd.fresh' (Kd.R_lt (rr_ aZ.out)) k_ hk⟩));(case aO=>exact (rr_ au.out));(case aS=>exact (below_size (b3_ HB.out aq.out av.out aA.out)));(case aL=>have:=LMc33.out;omega);intro dt w38 ho hb hg hat;rw [← cn.out] at ho;have n0_:=am_ (Kd.R_after (ok:=(fun k_=>some k_ ≠ (.slice bG aU.length bH:Value).ownBlock)) (by refine rr_ ?_;exact Kd.R_mono an.out (fun _ hk=>⟨hk.2,hk.1⟩)) hg hat);have n1_:=am_ (Kd.R_over' (rr_ ag.out) (Kd.R_typed (rr_ au.out)) (by decide) hg);have n2_:=am_ (Kd.S_after (ok:=(fun k_=>some k_ ≠ (.slice (some ar) ai.length co9:Value).ownBlock∧some k_ ≠ (.slice bG aU.length bH:Value).ownBlock)) (by refine rs_ ?_;exact Kd.S_mono ab.out (fun _ hk=>⟨⟨hk.1.1,hk.2⟩,hk.1.2⟩)) hg hat);have n3_:=am_ (blk_grown (g:=ax) (o:=.cells #[.slice A0_0 l0_0.length c0_0,.slice (some aY) l0_1.length c0_1] 27 (0,0)) (rb_ af.out) hg (Kd.R_ne au.out af.out (by decide)));have n4_:=am_ (blk_grown (g:=az) (o:=.cells #[.slice none 0 0,.slice none 0 0] 27 (0,0)) (rb_ ah.out) hg (Kd.R_ne au.out ah.out (by decide)));have n5_:=am_ (blk_grown (g:=ak) (o:=.cells #[ay,ao] 27 (0,0)) (rb_ ae.out) hg (Kd.R_ne au.out ae.out (by decide)));have n6_:=am_ (Kd.R_after (ok:=(fun k_=>some k_ ≠ (.slice (some ar) ai.length co9:Value).ownBlock)) (rr_ aZ.out) hg hat);have n7_:=am_ (hb);have n8_:=am_ (ho);clear an;clear ag;clear ab;clear af;clear ah;clear ae;clear aZ;clear HB;clear au;have an:=n0_;have ag:=n1_;have ab:=n2_;have af:=n3_;have ah:=n4_;have ae:=n5_;have aZ:=n6_;have HB:=n7_;have co:=n8_;clear n0_ n1_ n2_ n3_ n4_ n5_ n6_ n7_ n8_;clear ho hb hg hat))
                   go_roundg k2
                   case measure=>have:=HK1.out;have:=HK2.out;omega
                   case rel=>exact ⟨(aU),(bZ),(wrap64 (aj+1)),(by first | rfl | (simp;done) | (simp [*];done)),H',⟨by have:=HK1.out;have:=HK2.out;omega⟩,⟨by refine rr_ ?_;exact an.out⟩,⟨by refine rr_ ?_;exact aZ.out⟩,⟨by refine rr_ ?_;exact co.out⟩,⟨by refine rr_ ?_;exact ag.out⟩,⟨by refine rs_ ?_;exact Kd.S_mono ab.out (fun _ hk=>⟨hk.1.1,⟨hk.1.2,hk.2⟩⟩)⟩,⟨by refine rb_ ?_;exact af.out⟩,⟨by refine rb_ ?_;exact ah.out⟩,⟨by refine rb_ ?_;exact ae.out⟩,⟨by exact zp7_0_ HB.out aq.out av.out aA.out⟩⟩
                  ·rw [if_neg c33] at H
                   exact absurd H (by simp)
                 ·rw [if_neg c31] at H
                  exact absurd H (by simp)
                ·rw [if_neg c30] at H
                 have c30b0:decide (bm<0)=false:=decide_eq_false c30
                 clear c30
                 replace H:=Option.bind_eq_some_iff.mp H
                 obtain ⟨br,cc,H⟩:=H
                 have A39:=am_ cc
                 clear cc
                 by_cases c40:aK.length<17592186044416
                 ·rw [if_pos c40] at H
                  have LMc40:=am_ c40
                  clear c40
                  obtain ⟨cd,hy192⟩:∃ y_:List Int,y_=(aK ++ [br]):=⟨_,rfl⟩
                  replace H:(spec_l5Minimal.l1 k2 ai aa ad cd (wrap64 (aj+1)) l0_0 l0_1 ap am)=some (r1,r2):=by first | (rw [hy192];with_reducible exact H) | (have H2_:=(Option.bind_some _ _).symm.trans H;rw [hy192];with_reducible exact H2_) | (have H2_:=(Option.bind_some _ _).symm.trans H;with_reducible exact H2_) | with_reducible exact H | (rw [hy192];exact H) | exact H
                  have cp:=am_ hy192
                  clear hy192
                  have H':=am_ H
                  clear H
                  try go_wp2
                  replace an:=am_ (Kd.R_drew an.out)
                  replace al:=am_ (Kd.R_drew al.out)
                  replace au:=am_ (Kd.R_drew au.out)
                  replace ag:=am_ (Kd.R_drew ag.out)
                  replace ab:=am_ (Kd.S_drew ab.out)
                  replace af:=am_ (blk_drew af.out)
                  replace ah:=am_ (blk_drew ah.out)
                  replace ae:=am_ (blk_drew ae.out)
                  replace HB:=am_ (below_drew1 HB.out)
                  obtain ⟨du,bv,ce⟩:=Kd.R_slice al.out
                  (first | subst ce | (injection ce with f1_ f2_ f3_;have f4_:=f1_.symm;have f5_:=f3_.symm;clear f1_ f2_ f3_;subst f4_;subst f5_))
                  have p179:0≤(ad:Int):=of_decide_eq_true ah_
                  have q179:ad<(aa.length:Int):=of_decide_eq_true ah_
                  obtain ⟨aT,e179,bc⟩:=Kd.at_int (Kd.R_reads' al.out).2.2 ad p179 q179
                  cases e179
                  replace p179:=eq_true p179
                  replace q179:=eq_true q179
                  have p180:0≤((rd aa ad):Int):=of_decide_eq_true ah_
                  have q180:(rd aa ad)<(l0_1.length:Int):=of_decide_eq_true ah_
                  obtain ⟨aY,A180_0,c180_0,e180,aG,hl180_0,hi180_0⟩:=at_L1 bE.out (rd aa ad) p180 q180
                  have bd:=aG
                  cases e180
                  replace aG:=(HB.out.cell (World.block_lt_of_cell? w _ aG)).trans aG
                  have be:=am_ hi180_0
                  have bU:=am_ hl180_0
                  clear hi180_0 hl180_0
                  replace p180:=eq_true p180
                  replace q180:=eq_true q180
                  have p181:0≤(aj:Int):=of_decide_eq_true ah_
                  have q181:aj<((rd_L1 l0_1 (rd aa ad)).length:Int):=of_decide_eq_true ah_
                  obtain ⟨bp,e181,aH⟩:=Kd.at_int be.out aj p181 q181
                  have bf:=aH
                  cases e181
                  replace aH:=(HB.out.cell (World.block_lt_of_cell? w _ aH)).trans aH
                  replace p181:=eq_true p181
                  replace q181:=eq_true q181
                  have p182:0≤((rd (rd_L1 l0_1 (rd aa ad)) aj):Int):=of_decide_eq_true ah_
                  have q182:(rd (rd_L1 l0_1 (rd aa ad)) aj)<(ai.length:Int):=of_decide_eq_true ah_
                  obtain ⟨bF,e182,bg⟩:=Kd.at_int (Kd.R_reads' an.out).2.2 (rd (rd_L1 l0_1 (rd aa ad)) aj) p182 q182
                  obtain rfl:ar=bF:=(by injection e182)
                  replace p182:=eq_true p182
                  replace q182:=eq_true q182
                  refine start_ (n:=15) (S:=fun w'=>w'.cell? ⟨ax,0,none⟩=some (.slice A0_0 l0_0.length c0_0)∧w'.cell? ⟨ax,1,none⟩=some (.slice (some aY) l0_1.length c0_1)∧w'.cell? (aT.add (ad).toNat)=some (.int .i64 (rd aa ad))∧w'.cell? (aY.add ((rd aa ad)).toNat)=some (.slice (some bp) (rd_L1 l0_1 (rd aa ad)).length c180_0)∧w'.cell? (bp.add (aj).toNat)=some (.int .i64 (rd (rd_L1 l0_1 (rd aa ad)) aj))∧w'.cell? (ar.add ((rd (rd_L1 l0_1 (rd aa ad)) aj)).toNat)=some (.int .i64 (rd ai (rd (rd_L1 l0_1 (rd aa ad)) aj)))) (ds:=[]) (bl 15 0) (by kernel_rfl) rfl rfl ⟨(blk_cell af.out 0).trans rfl,(blk_cell af.out 1).trans rfl,bc,((HB.out.cell (World.block_lt_of_cell? w _ bd)).trans bd),((HB.out.cell (World.block_lt_of_cell? w _ bf)).trans bf),bg⟩ (fun hHeld=>?_);refine with_tabW spec_l5Minimal.tab11 spec_l5Minimal.bits11 (fun HT_ HW_=>?_)
                  generalize wr.drew=w41 at an al au ag ab af ah ae HB be bc aG aH bg hHeld ⊢
                  refine pu_ 0 28 (bl 15 1) HT_ ?_
                  refine pu_ 1 29 (bl 15 3) HT_ ?_
                  refine pu_ 3 31 (bl 15 11) HT_ ?_
                  refine pu_ 4 32 (bl 15 27) HT_ ?_
                  refine pu_ 5 33 (bl 15 59) HT_ ?_
                  refine pu_ 9 37 (bl 15 571) HT_ ?_
                  refine tk_ 2 30 (bl 15 575) HT_ HW_ hHeld ?_
                  refine tk_ 6 34 (bl 15 639) HT_ HW_ hHeld ?_
                  refine pu_ 7 35 (bl 15 767) HT_ ?_
                  refine tk_ 8 36 (bl 15 1023) HT_ HW_ hHeld ?_
                  refine pu_ 10 38 (bl 15 2047) HT_ ?_
                  refine tk_ 11 39 (bl 15 4095) HT_ HW_ hHeld ?_
                  refine pu_ 12 40 (bl 15 8191) HT_ ?_
                  refine tk_ 13 41 (bl 15 16383) HT_ HW_ hHeld ?_
                  refine pu_ 14 9 (bl 15 32767) HT_ ?_
                  refine done_ (done_of HT_.out (by kernel_rfl)) ?_
                  try go_wp2_with (first | ((with_reducible refine gate_callee (f:=63) rfl ?_);refine gL_ (some 44) Try.func63 #[.slice (some aT) aa.length bv,.int .i64 (rd ai (rd (rd_L1 l0_1 (rd aa ad)) aj))] ?_;(with_reducible refine (spec_l5Find.calls k2 _ _ aa (rd ai (rd (rd_L1 l0_1 (rd aa ad)) aj)) bm _ ?side1 ?side2 A29.out).mono ?_);(case side1=>exact rc_ ((Kd.R_reads' al.out).2.2));(case side2=>exact (Kd.R_reads' al.out).2.1);rintro e w' ⟨rfl,⟨nd,rfl⟩⟩;refine ⟨_,rfl,?_⟩) | ((with_reducible refine gate_callee (f:=63) rfl ?_);refine gL_ (some 53) Try.func63 #[.slice (some aT) aa.length bv,.int .i64 (rd ai (rd (rd_L1 l0_1 (rd aa ad)) aj))] ?_;(with_reducible refine (spec_l5Find.calls k2 _ _ aa (rd ai (rd (rd_L1 l0_1 (rd aa ad)) aj)) br _ ?side1 ?side2 A39.out).mono ?_);(case side1=>exact rc_ ((Kd.R_reads' al.out).2.2));(case side2=>exact (Kd.R_reads' al.out).2.1);rintro e w' ⟨rfl,⟨nd,rfl⟩⟩;refine ⟨_,rfl,?_⟩) | ((with_reducible refine gate_builtin (b:=.append) (xs:=#[.tmp 50,.tmp 54]) rfl ?_);at_builtin;refine Kd.R_append (Kd.int .i64) (w0:=w) w.heap.size rfl (.tmp 50) (.tmp 54) 67 3 (.int .i64 0) 8 rfl Try.underlying67 info3 rfl (by decide) (by omega) u7 aK br [.int .i64 br] (fun k_=>some k_ ≠ (.slice (some ar) ai.length co9:Value).ownBlock∧some k_ ≠ (.slice (some aT) aa.length bv:Value).ownBlock) (fun _=>False) rfl rfl ?aP (fun _ hk=>hk.elim) ?aF ?aO ?aB ?aS ?aL ?_;(case aP=>exact rfl);(case aB=>exact (b3_ HB.out aq.out av.out aA.out));(case aF=>exact (fun k_ hk=>⟨Kd.fresh' (Kd.R_lt (rr_ an.out)) k_ hk,Kd.fresh' (Kd.R_lt (rr_ al.out)) k_ hk⟩));(case aO=>exact (rr_ au.out));(case aS=>exact (below_size (b3_ HB.out aq.out av.out aA.out)));(case aL=>have:=LMc40.out;omega);intro dv w43 ho hb hg hat;rw [← cp.out] at ho;have n0_:=am_ (Kd.R_after (ok:=(fun k_=>some k_ ≠ (.slice (some aT) aa.length bv:Value).ownBlock)) (rr_ an.out) hg hat);have n1_:=am_ (Kd.R_after (ok:=(fun k_=>some k_ ≠ (.slice (some ar) ai.length co9:Value).ownBlock)) (rr_ al.out) hg hat);have n2_:=am_ (Kd.R_over' (rr_ ag.out) (Kd.R_typed (rr_ au.out)) (by decide) hg);have n3_:=am_ (Kd.S_after (ok:=(fun k_=>some k_ ≠ (.slice (some ar) ai.length co9:Value).ownBlock∧some k_ ≠ (.slice (some aT) aa.length bv:Value).ownBlock)) (by refine rs_ ?_;exact Kd.S_mono ab.out (fun _ hk=>⟨⟨hk.1,hk.2.1⟩,hk.2.2⟩)) hg hat);have n4_:=am_ (blk_grown (g:=ax) (o:=.cells #[.slice A0_0 l0_0.length c0_0,.slice (some aY) l0_1.length c0_1] 27 (0,0)) (rb_ af.out) hg (Kd.R_ne au.out af.out (by decide)));have n5_:=am_ (blk_grown (g:=az) (o:=.cells #[.slice none 0 0,.slice none 0 0] 27 (0,0)) (rb_ ah.out) hg (Kd.R_ne au.out ah.out (by decide)));have n6_:=am_ (blk_grown (g:=ak) (o:=.cells #[ay,ao] 27 (0,0)) (rb_ ae.out) hg (Kd.R_ne au.out ae.out (by decide)));have n7_:=am_ (hb);have n8_:=am_ (ho);clear an;clear al;clear ag;clear ab;clear af;clear ah;clear ae;clear HB;clear au;have an:=n0_;have al:=n1_;have ag:=n2_;have ab:=n3_;have af:=n4_;have ah:=n5_;have ae:=n6_;have HB:=n7_;have cq:=n8_;clear n0_ n1_ n2_ n3_ n4_ n5_ n6_ n7_ n8_;clear ho hb hg hat))
                  go_roundg k2
                  case measure=>have:=HK1.out;have:=HK2.out;omega
                  case rel=>exact ⟨(aa),(cd),(wrap64 (aj+1)),(by first | rfl | (simp;done) | (simp [*];done)),H',⟨by have:=HK1.out;have:=HK2.out;omega⟩,⟨by refine rr_ ?_;exact an.out⟩,⟨by refine rr_ ?_;exact al.out⟩,⟨by refine rr_ ?_;exact cq.out⟩,⟨by refine rr_ ?_;exact ag.out⟩,⟨by refine rs_ ?_;exact Kd.S_mono ab.out (fun _ hk=>⟨hk.1.1,⟨hk.1.2,hk.2⟩⟩)⟩,⟨by refine rb_ ?_;exact af.out⟩,⟨by refine rb_ ?_;exact ah.out⟩,⟨by refine rb_ ?_;exact ae.out⟩,⟨by exact zp7_0_ HB.out aq.out av.out aA.out⟩⟩
                 ·rw [if_neg c40] at H
                  exact absurd H (by simp)
               ·rw [if_neg c28] at H
                exact absurd H (by simp)
              ·rw [if_neg c27] at H
               exact absurd H (by simp)
             ·rw [if_neg c26] at H
              exact absurd H (by simp)
            ·rw [if_neg c25] at H
             exact absurd H (by simp)
           ·rw [if_neg c24] at H
            exact absurd H (by simp)
          ·rw [if_neg c23] at H
           exact absurd H (by simp)
         ·rw [if_neg c22] at H
          exact absurd H (by simp)
        ·rw [if_neg c21] at H
         exact absurd H (by simp)
       ·rw [if_neg c20] at H
        have c20b0:decide (aj<3)=false:=decide_eq_false c20
        clear c20
        by_cases c44:0≤ad
        ·rw [if_pos c44] at H
         have c44b0:decide (0≤ad)=true:=decide_eq_true c44
         clear c44
         by_cases c45:ad<(aa.length:Int)
         ·rw [if_pos c45] at H
          have c45b0:decide (ad<(aa.length:Int))=true:=decide_eq_true c45
          clear c45
          by_cases c46:0≤(rd aa ad)
          ·rw [if_pos c46] at H
           have c46b0:decide (0≤(rd aa ad))=true:=decide_eq_true c46
           clear c46
           by_cases c47:(rd aa ad)<(l0_0.length:Int)
           ·rw [if_pos c47] at H
            have c47b0:decide ((rd aa ad)<(l0_0.length:Int))=true:=decide_eq_true c47
            clear c47
            by_cases c48:ap.length<140737488355328
            ·rw [if_pos c48] at H
             have LMc48:=am_ c48
             clear c48
             obtain ⟨aw,hy173⟩:∃ y_:List Bool,y_=(ap ++ [rdOf false l0_0 (rd aa ad)]):=⟨_,rfl⟩
             replace H:(if am.length<5864062014805 then (spec_l5Minimal.l0 k2 ai aa (wrap64 (ad+1)) l0_0 l0_1 aw (am ++ [aK])) else (none))=some (r1,r2):=by first | (rw [hy173];with_reducible exact H) | (have H2_:=(Option.bind_some _ _).symm.trans H;rw [hy173];with_reducible exact H2_) | (have H2_:=(Option.bind_some _ _).symm.trans H;with_reducible exact H2_) | with_reducible exact H | (rw [hy173];exact H) | exact H
             have cr:=am_ hy173
             clear hy173
             by_cases c49:am.length<5864062014805
             ·rw [if_pos c49] at H
              have LMc49:=am_ c49
              clear c49
              obtain ⟨bn,hy176⟩:∃ y_:List (List Int),y_=(am ++ [aK]):=⟨_,rfl⟩
              replace H:(spec_l5Minimal.l0 k2 ai aa (wrap64 (ad+1)) l0_0 l0_1 aw bn)=some (r1,r2):=by first | (rw [hy176];with_reducible exact H) | (have H2_:=(Option.bind_some _ _).symm.trans H;rw [hy176];with_reducible exact H2_) | (have H2_:=(Option.bind_some _ _).symm.trans H;with_reducible exact H2_) | with_reducible exact H | (rw [hy176];exact H) | exact H
              have ct:=am_ hy176
              clear hy176
              have H':=am_ H
              clear H
              try go_wp2
              replace an:=am_ (Kd.R_drew an.out)
              replace al:=am_ (Kd.R_drew al.out)
              replace au:=am_ (Kd.R_drew au.out)
              replace ag:=am_ (Kd.R_drew ag.out)
              replace ab:=am_ (Kd.S_drew ab.out)
              replace af:=am_ (blk_drew af.out)
              replace ah:=am_ (blk_drew ah.out)
              replace ae:=am_ (blk_drew ae.out)
              replace HB:=am_ (below_drew1 HB.out)
              obtain ⟨dw,bo,cf⟩:=Kd.R_slice al.out
              (first | subst cf | (injection cf with f1_ f2_ f3_;have f4_:=f1_.symm;have f5_:=f3_.symm;clear f1_ f2_ f3_;subst f4_;subst f5_))
              have p171:0≤(ad:Int):=of_decide_eq_true ah_
              have q171:ad<(aa.length:Int):=of_decide_eq_true ah_
              obtain ⟨ba,e171,bD⟩:=Kd.at_int (Kd.R_reads' al.out).2.2 ad p171 q171
              cases e171
              replace p171:=eq_true p171
              replace q171:=eq_true q171
              have p172:0≤((rd aa ad):Int):=of_decide_eq_true ah_
              have q172:(rd aa ad)<(l0_0.length:Int):=of_decide_eq_true ah_
              obtain ⟨bq,e172,bh⟩:=Kd.at_bool bQ.out (rd aa ad) p172 q172
              have aV:=bh
              cases e172
              replace bh:=(HB.out.cell (World.block_lt_of_cell? w _ bh)).trans bh
              replace p172:=eq_true p172
              replace q172:=eq_true q172
              refine start_ (n:=14) (S:=fun w'=>w'.cell? ⟨ak,0,none⟩=some (ay)∧w'.cell? ⟨ak,1,none⟩=some (ao)∧w'.cell? ⟨ax,0,none⟩=some (.slice (some bq) l0_0.length c0_0)∧w'.cell? ⟨ax,1,none⟩=some (.slice A0_1 l0_1.length c0_1)∧w'.cell? (ba.add (ad).toNat)=some (.int .i64 (rd aa ad))∧w'.cell? (bq.add ((rd aa ad)).toNat)=some (.bool (rdOf false l0_0 (rd aa ad)))) (ds:=[11,13]) (bl 14 0) (by kernel_rfl) rfl rfl ⟨(blk_cell ae.out 0).trans rfl,(blk_cell ae.out 1).trans rfl,(blk_cell af.out 0).trans rfl,(blk_cell af.out 1).trans rfl,bD,((HB.out.cell (World.block_lt_of_cell? w _ aV)).trans aV)⟩ (fun hHeld=>?_);refine with_tabW spec_l5Minimal.tab15 spec_l5Minimal.bits15 (fun HT_ HW_=>?_)
              generalize wr.drew=w50 at an al au ag ab af ah ae HB bD bh hHeld ⊢
              refine pu_ 0 56 (bl 14 1) HT_ ?_
              refine pu_ 2 58 (bl 14 5) HT_ ?_
              refine pu_ 4 60 (bl 14 21) HT_ ?_
              refine pu_ 5 61 (bl 14 53) HT_ ?_
              refine pu_ 6 62 (bl 14 117) HT_ ?_
              refine tk_ 1 57 (bl 14 119) HT_ HW_ hHeld ?_
              refine tk_ 3 59 (bl 14 127) HT_ HW_ hHeld ?_
              refine tk_ 7 63 (bl 14 255) HT_ HW_ hHeld ?_
              refine pu_ 8 64 (bl 14 511) HT_ ?_
              refine tk_ 9 65 (bl 14 1023) HT_ HW_ hHeld ?_
              refine on_ 10 (some 66) (bl 14 2047) HT_ (fun K hK=>?_)
              refine value_ (w1:=?_) (v:=?_) (by rfl) rfl ?_ ?_
              rotate_left 2
              ·go_simp
               constructor
               ·rfl
               ·rfl
              refine hK.out _ _ ⟨(blk_cell (blk_alloc ae.out _) 0).trans rfl,(blk_cell (blk_alloc ae.out _) 1).trans rfl,(blk_cell (blk_alloc af.out _) 0).trans rfl,(blk_cell (blk_alloc af.out _) 1).trans rfl,(World.cell?_alloc_lt _ _ _ (World.block_lt_of_cell? _ _ (hHeld.2.2.2.2.1))).trans (hHeld.2.2.2.2.1),(World.cell?_alloc_lt _ _ _ (World.block_lt_of_cell? _ _ (((HB.out.cell (World.block_lt_of_cell? w _ aV)).trans aV)))).trans (((HB.out.cell (World.block_lt_of_cell? w _ aV)).trans aV))⟩ (fun hHeld=>?_)
              clear hK K
              refine norm_ (a':=?_) ?_ ?_
              rotate_left
              ·show Act.put _ (some 66) _=_
               simp only [pn_,sz_,ss_,i64_w,i32_w]
               rfl
              refine last_ (i:=11) (N:=some 67) (bl 14 4095) rfl rfl (one_of HT_.out (by kernel_rfl)) (by decide) (fun K hK=>?_)
              refine Kd.R_append_step Kd.bool (w0:=w) w.heap.size (by rfl) (.tmp 57) (.tmp 66) 22 4 (.bool false) 1 rfl Try.underlying22 info4 rfl (by decide) (by omega) ay ap (rdOf false l0_0 (rd aa ad)) [.bool (rdOf false l0_0 (rd aa ad))] (fun _=>True) (fun _=>False) rfl rfl ?aP (fun _ hk=>hk.elim) ?aF ?aO ?aB ?aS ?aL ?_
              (case aP=>exact rfl)
              (case aB=>exact (b3_ HB.out aq.out av.out aA.out))
              (case aF=>exact (fun _ _=>trivial))
              (case aO=>exact (rr_ ag.out))
              (case aS=>exact (below_size (b3_ HB.out aq.out av.out aA.out)))
              (case aL=>have:=LMc48.out;omega)
              intro dx w52 ho hb hg hat
              rw [← cr.out] at ho
              replace an:=am_ (Kd.R_over' (rr_ an.out) (Kd.R_typed (rr_ ag.out)) (by decide) hg)
              replace al:=am_ (Kd.R_over' (rr_ al.out) (Kd.R_typed (rr_ ag.out)) (by decide) hg)
              replace au:=am_ (Kd.R_over' (rr_ au.out) (Kd.R_typed (rr_ ag.out)) (by decide) hg)
              replace ab:=am_ (Kd.S_over' (rs_ ab.out) (Kd.R_typed (rr_ ag.out)) (by decide) hg)
              replace af:=am_ (blk_grown (g:=ax) (o:=.cells #[.slice (some bq) l0_0.length c0_0,.slice A0_1 l0_1.length c0_1] 27 (0,0)) (rb_ af.out) hg (Kd.R_ne ag.out af.out (by decide)))
              replace ah:=am_ (blk_grown (g:=az) (o:=.cells #[.slice none 0 0,.slice none 0 0] 27 (0,0)) (rb_ ah.out) hg (Kd.R_ne ag.out ah.out (by decide)))
              replace ae:=am_ (blk_grown (g:=ak) (o:=.cells #[ay,ao] 27 (0,0)) (rb_ ae.out) hg (Kd.R_ne ag.out ae.out (by decide)))
              replace HB:=am_ (hb)
              replace bb:=am_ (ho)
              clear ag ho hb hg hat
              obtain ⟨aD,aE,cg⟩:=Kd.R_slice bb.out
              (first | subst cg | (injection cg with f1_ f2_ f3_;have f4_:=f1_.symm;have f5_:=f3_.symm;clear f1_ f2_ f3_;subst f4_;subst f5_))
              refine hK.out _ _ ?_
              clear hK K
              refine norm_ (a':=?_) ?_ ?_
              rotate_left
              ·show Act.put _ (some 67) _=_
               simp only [pn_,sz_,ss_,i64_w,i32_w]
               rfl
              refine pu_ 12 68 (bl 14 8191) HT_ ?_
              refine last_ (i:=13) (N:=none) (bl 14 16383) rfl rfl (one_of HT_.out (by kernel_rfl)) (by decide) (fun K hK=>?_)
              have hs54:w52.cell? ⟨ak,0,none⟩=some (ay):=(blk_cell ae.out 0).trans rfl
              have hfs54:=blk_frozen ae.out 0
              have hns54_0:=aI.out
              have hns54_1:=aJ.out
              have hms54_0:=aW.out
              have hms54_1:=aX.out
              refine skip_ (w1:=?_) (by rfl) rfl ?_ ?_
              rotate_left
              ·go_simp
               rfl
              refine hK.out _ _ ?_
              clear hK K
              refine done_ (done_of HT_.out (by kernel_rfl)) ?_
              have n0_:Aside0 (Kd.R (Kd.int .i64) 3 (w52.setCell ⟨ak,0,none⟩ (.slice aD aw.length aE)) w.heap.size (fun k_=>some k_ ≠ (.slice (some ba) aa.length bo:Value).ownBlock∧some k_ ≠ (u7:Value).ownBlock) (.slice (some ar) ai.length co9) ai):=⟨by refine rr_ ?_;exact Kd.R_mono (Kd.R_far (p:=⟨ak,0,none⟩) (Kd.R_types an.out ae.out (by decide)) (fun _ hk=>hk.2) (.slice aD aw.length aE)) (fun _ hk=>⟨hk.1.1,hk.1.2⟩)⟩
              have n1_:Aside0 (Kd.R (Kd.int .i64) 3 (w52.setCell ⟨ak,0,none⟩ (.slice aD aw.length aE)) w.heap.size (fun k_=>some k_ ≠ (.slice (some ar) ai.length co9:Value).ownBlock∧some k_ ≠ (u7:Value).ownBlock) (.slice (some ba) aa.length bo) aa):=⟨by refine rr_ ?_;exact Kd.R_mono (Kd.R_far (p:=⟨ak,0,none⟩) (Kd.R_types al.out ae.out (by decide)) (fun _ hk=>hk.2) (.slice aD aw.length aE)) (fun _ hk=>⟨hk.1.1,hk.1.2⟩)⟩
              have n2_:Aside0 (Kd.R (Kd.int .i64) 3 (w52.setCell ⟨ak,0,none⟩ (.slice aD aw.length aE)) w.heap.size (fun k_=>some k_ ≠ (.slice (some ar) ai.length co9:Value).ownBlock∧some k_ ≠ (.slice (some ba) aa.length bo:Value).ownBlock) u7 aK):=⟨by refine rr_ ?_;exact Kd.R_mono (Kd.R_far (p:=⟨ak,0,none⟩) (Kd.R_types au.out ae.out (by decide)) (fun _ hk=>hk.2) (.slice aD aw.length aE)) (fun _ hk=>⟨hk.1.1,hk.1.2⟩)⟩
              have n3_:Aside0 (Kd.S (Kd.slice 3 (Kd.int .i64)) 67 (w52.setCell ⟨ak,0,none⟩ (.slice aD aw.length aE)) w.heap.size (fun k_=>some k_ ≠ (.slice (some ar) ai.length co9:Value).ownBlock∧some k_ ≠ (.slice (some ba) aa.length bo:Value).ownBlock∧some k_ ≠ (u7:Value).ownBlock) ao am):=⟨by refine rs_ ?_;exact Kd.S_mono (Kd.S_far (p:=⟨ak,0,none⟩) (Kd.S_types ab.out ae.out (by decide)) (fun _ hk=>hk.2) (.slice aD aw.length aE)) (fun _ hk=>⟨hk.1.1,⟨hk.1.2.1,hk.1.2.2⟩⟩)⟩
              have n4_:Aside0 (Kd.R Kd.bool 4 (w52.setCell ⟨ak,0,none⟩ (.slice aD aw.length aE)) w.heap.size (fun _=>True) (.slice aD aw.length aE) aw):=⟨by refine rr_ ?_;exact Kd.R_mono (Kd.R_far (p:=⟨ak,0,none⟩) (Kd.R_types bb.out ae.out (by decide)) (fun _ hk=>hk.2) (.slice aD aw.length aE)) (fun _ hk=>trivial)⟩
              have n5_:Aside0 ((w52.setCell ⟨ak,0,none⟩ (.slice aD aw.length aE)).heap[ax]? = some (.cells #[.slice (some bq) l0_0.length c0_0,.slice A0_1 l0_1.length c0_1] 27 (0,0))):=⟨by refine rb_ ?_;refine blk_far ?_ aI.out _;refine rb_ ?_;exact af.out⟩
              have n6_:Aside0 ((w52.setCell ⟨ak,0,none⟩ (.slice aD aw.length aE)).heap[az]? = some (.cells #[.slice none 0 0,.slice none 0 0] 27 (0,0))):=⟨by refine rb_ ?_;refine blk_far ?_ aJ.out _;refine rb_ ?_;exact ah.out⟩
              have n7_:Aside0 ((w52.setCell ⟨ak,0,none⟩ (.slice aD aw.length aE)).heap[ak]? = some (.cells #[.slice aD aw.length aE,ao] 27 (0,0))):=⟨by refine rb_ ?_;refine blk_put (cs:=#[ay,ao]) ?_ 0 _ rfl;refine rb_ ?_;exact ae.out⟩
              have n8_:Aside0 (Below w.heap.size w (w52.setCell ⟨ak,0,none⟩ (.slice aD aw.length aE))):=⟨by exact zp7_0_ HB.out aq.out av.out aA.out⟩
              (try clear an)
              (try clear al)
              (try clear au)
              (try clear ab)
              (try clear bb)
              (try clear af)
              (try clear ah)
              (try clear ae)
              (try clear HB)
              generalize (w52.setCell ⟨ak,0,none⟩ (.slice aD aw.length aE))=w55 at n0_ n1_ n2_ n3_ n4_ n5_ n6_ n7_ n8_ ⊢
              have an:=n0_;have al:=n1_;have au:=n2_;have ab:=n3_;have bb:=n4_;have af:=n5_;have ah:=n6_;have ae:=n7_;have HB:=n8_
              clear n0_ n1_ n2_ n3_ n4_ n5_ n6_ n7_ n8_
              have cY:=aW.out
              have cZ:=aI.out
              have da:=aX.out
              have db:=aJ.out
              have cB:=ck_ (v:=(.slice aD aw.length aE)) ae 0 rfl
              have cC:=ck_ (v:=(ao)) ae 1 rfl
              have cD:=blk_frozen ae.out 0
              have cE:=blk_frozen ae.out 1
              obtain ⟨ch,ci,cw⟩:=Kd.R_slice au.out
              subst cw
              try go_wp2_with (first | ((with_reducible refine gate_builtin (b:=.append) (xs:=#[.tmp 70,.tmp 72]) rfl ?_);at_builtin;refine Kd.S_append (Kd.slice 3 (Kd.int .i64)) (w0:=w) w.heap.size rfl (.tmp 70) (.tmp 72) 23 67 (.slice none 0 0) 24 rfl Try.underlying23 info67 rfl (by decide) (by omega) ao am aK [.slice ch aK.length ci] (fun k_=>some k_ ≠ (.slice (some ar) ai.length co9:Value).ownBlock∧some k_ ≠ (.slice (some ba) aa.length bo:Value).ownBlock) (fun k_=>some k_=(.slice ch aK.length ci:Value).ownBlock) rfl rfl ?aP (fun k_ hk_=>((Kd.R_mono (ok':=fun k_=>((fun k_=>some k_ ≠ (.slice (some ar) ai.length co9:Value).ownBlock∧some k_ ≠ (.slice (some ba) aa.length bo:Value).ownBlock)) k_∧some k_ ≠ (ao:Value).ownBlock) (Kd.R_apart' (au.out) (Kd.S_typed ab.out) (by decide)) (fun k_ hk=>⟨⟨hk.1.1,hk.1.2⟩,hk.2⟩))).1 k_ hk_.symm) ?aF ?aO ?aB ?aS ?aL ?_;(case aP=>exact Kd.M_row (Kd.R_mono (Kd.R_tight rfl (Kd.R_mono (ok':=fun k_=>((fun k_=>some k_ ≠ (.slice (some ar) ai.length co9:Value).ownBlock∧some k_ ≠ (.slice (some ba) aa.length bo:Value).ownBlock)) k_∧some k_ ≠ (ao:Value).ownBlock) (Kd.R_apart' (au.out) (Kd.S_typed ab.out) (by decide)) (fun k_ hk=>⟨⟨hk.1.1,hk.1.2⟩,hk.2⟩))) (fun _ h_=>h_)));(case aB=>exact (b3_ HB.out aq.out av.out aA.out));(case aF=>exact (fun k_ hk=>⟨Kd.fresh' (Kd.R_lt (rr_ an.out)) k_ hk,Kd.fresh' (Kd.R_lt (rr_ al.out)) k_ hk⟩));(case aO=>exact (by refine rs_ ?_;exact Kd.S_mono ab.out (fun k_ hk=>⟨⟨hk.1,hk.2.1⟩,fun e_=>hk.2.2 e_⟩)));(case aS=>exact (below_size (b3_ HB.out aq.out av.out aA.out)));(case aL=>have:=LMc49.out;omega);intro dy w59 ho hb hg hat;rw [← ct.out] at ho;have n0_:=am_ (Kd.R_over' (rr_ an.out) (Kd.S_typed (rs_ ab.out)) (by decide) hg);have n1_:=am_ (Kd.R_over' (rr_ al.out) (Kd.S_typed (rs_ ab.out)) (by decide) hg);have n2_:=am_ (blk_grown (g:=ax) (o:=.cells #[.slice (some bq) l0_0.length c0_0,.slice A0_1 l0_1.length c0_1] 27 (0,0)) (rb_ af.out) hg (Kd.S_ne ab.out af.out (by decide)));have n3_:=am_ (blk_grown (g:=az) (o:=.cells #[.slice none 0 0,.slice none 0 0] 27 (0,0)) (rb_ ah.out) hg (Kd.S_ne ab.out ah.out (by decide)));have n4_:=am_ (blk_grown (g:=ak) (o:=.cells #[.slice aD aw.length aE,ao] 27 (0,0)) (rb_ ae.out) hg (Kd.S_ne ab.out ae.out (by decide)));have n5_:=am_ (Kd.R_over' (rr_ bb.out) (Kd.S_typed (rs_ ab.out)) (by decide) hg);have n6_:=am_ (hb);have n7_:=am_ (ho);clear an;clear al;clear af;clear ah;clear ae;clear bb;clear HB;clear ab;clear au;have an:=n0_;have al:=n1_;have af:=n2_;have ah:=n3_;have ae:=n4_;have bb:=n5_;have HB:=n6_;have bT:=n7_;clear n0_ n1_ n2_ n3_ n4_ n5_ n6_ n7_;clear ho hb hg hat;obtain ⟨bw,bx,cx⟩:=Kd.S_slice bT.out;subst cx;have cF:=ck_ (v:=(.slice aD aw.length aE)) ae 0 rfl;have cG:=ck_ (v:=(ao)) ae 1 rfl;have cH:=blk_frozen ae.out 0;have cI:=blk_frozen ae.out 1))
              go_roundg k2
              case measure=>have:=HK1.out;have:=HK2.out;omega
              case rel=>exact ⟨(aa),(wrap64 (ad+1)),(aw),(bn),(.slice aD aw.length aE),(.slice bw bn.length bx),(by first | rfl | (simp;done) | (simp [*];done)),H',⟨by have:=HK1.out;have:=HK2.out;omega⟩,⟨by refine rr_ ?_;exact Kd.R_mono (Kd.R_far (p:=⟨ak,1,none⟩) (Kd.R_types an.out ae.out (by decide)) (fun _ hk=>hk.2) (.slice bw bn.length bx)) (fun _ hk=>hk.1.1)⟩,⟨by refine rr_ ?_;exact Kd.R_mono (Kd.R_far (p:=⟨ak,1,none⟩) (Kd.R_types al.out ae.out (by decide)) (fun _ hk=>hk.2) (.slice bw bn.length bx)) (fun _ hk=>hk.1.1)⟩,⟨by refine rr_ ?_;exact Kd.R_mono (Kd.R_far (p:=⟨ak,1,none⟩) (Kd.R_types bb.out ae.out (by decide)) (fun _ hk=>hk.2) (.slice bw bn.length bx)) (fun _ hk=>trivial)⟩,⟨by refine rs_ ?_;exact Kd.S_mono (Kd.S_far (p:=⟨ak,1,none⟩) (Kd.S_types bT.out ae.out (by decide)) (fun _ hk=>hk.2) (.slice bw bn.length bx)) (fun _ hk=>⟨hk.1.1,hk.1.2⟩)⟩,⟨by refine rb_ ?_;refine blk_far ?_ aI.out _;refine rb_ ?_;exact af.out⟩,⟨by refine rb_ ?_;refine blk_far ?_ aJ.out _;refine rb_ ?_;exact ah.out⟩,⟨by refine rb_ ?_;refine blk_put (cs:=#[.slice aD aw.length aE,ao]) ?_ 1 _ rfl;refine rb_ ?_;exact ae.out⟩,⟨by exact zp7_0_ HB.out aq.out av.out aA.out⟩⟩
             ·rw [if_neg c49] at H
              exact absurd H (by simp)
            ·rw [if_neg c48] at H
             exact absurd H (by simp)
           ·rw [if_neg c47] at H
            exact absurd H (by simp)
          ·rw [if_neg c46] at H
           exact absurd H (by simp)
         ·rw [if_neg c45] at H
          exact absurd H (by simp)
        ·rw [if_neg c44] at H
         exact absurd H (by simp)
    ·rw [if_neg c16] at H
     have c16b0:decide (ad<(bj.length:Int))=false:=decide_eq_false c16
     clear c16
     simp only [Option.some.injEq,Prod.mk.injEq] at H
     obtain ⟨rfl,rfl⟩:=H
     obtain ⟨dz,dA,cy⟩:=Kd.R_slice al.out
     subst cy
     have dc:=aW.out
     have dd:=aI.out
     have de:=aX.out
     have df:=aJ.out
     have cJ:=ck_ (v:=(ay)) ae 0 rfl
     have cK:=ck_ (v:=(ao)) ae 1 rfl
     have cL:=blk_frozen ae.out 0
     have cM:=blk_frozen ae.out 1
     obtain ⟨bI,bJ,cz⟩:=Kd.R_slice ag.out
     subst cz
     have dg:=bt.out
     have dh:=bs.out
     have cN:=ck_ (v:=(.slice none 0 0)) ah 0 rfl
     have cO:=ck_ (v:=(.slice none 0 0)) ah 1 rfl
     have cP:=blk_frozen ah.out 0
     have cQ:=blk_frozen ah.out 1
     obtain ⟨bO,bP,cA⟩:=Kd.S_slice ab.out
     subst cA
     go_wp2
     refine bodyPost_ret (results_cell_row rfl _ _ az 27 #[.slice bI ap.length bJ,.slice bO am.length bP] (0,0) _ rfl (by refine rb_ ?_;refine blk_put (cs:=#[.slice bI ap.length bJ,.slice none 0 0]) ?_ 1 _ rfl;refine rb_ ?_;refine blk_put (cs:=#[.slice none 0 0,.slice none 0 0]) ?_ 0 _ rfl;refine rb_ ?_;exact ah.out) Try.underlying27 rfl (by kernel_rfl)) rfl ?_
     exact ⟨_,_,by first | rfl | (simp [errW_none,errW_some] <;> rfl) | (simp [*,errW_none,errW_some] <;> rfl),by refine rr_ ?_;exact Kd.R_mono (Kd.R_far (p:=⟨az,1,none⟩) (Kd.R_far (p:=⟨az,0,none⟩) (Kd.R_types ag.out ah.out (by decide)) (fun _ hk=>hk.2) (.slice bI ap.length bJ)) (fun _ hk=>hk.2) (.slice bO am.length bP)) (fun _ hk=>trivial),by refine rs_ ?_;exact Kd.S_mono (Kd.S_far (p:=⟨az,1,none⟩) (Kd.S_far (p:=⟨az,0,none⟩) (Kd.S_types ab.out ah.out (by decide)) (fun _ hk=>hk.2) (.slice bI ap.length bJ)) (fun _ hk=>hk.2) (.slice bO am.length bP)) (fun _ hk=>trivial),by exact zp7_0_ HB.out aq.out av.out aA.out⟩
 ·rw [if_neg c3] at H
  exact absurd H (by simp)
end Go.Proofs.Ytogamkblkoobkaa.P
end
section
namespace Go.Proofs.Ytogamkblkoobkaa.Can
open Go.RowKit Go.Proofs.Ytogamkblkoobkaa Go.Proofs.Ytogamkblkoobkaa.P Go.Proofs.Ytogamkblkoobkaa.Lg Go.Proofs.Ytogamkblkoobkaa.Pl Go.Proofs.Ytogamkblkoobkaa.Mp Go.Proofs.Ytogamkblkoobkaa.Bf Go.Proofs.Ytogamkblkoobkaa.Mn Go.Proofs.YtogamkblkoobkaaW.PrintWords Go.Proofs.YtogamkblkoobkaaW.PrintLast Go.Proofs.YtogamkblkoobkaaW.PrintMore
section
variable {acc:List Bool} {nx:List (List Int)} {cl:List Int} {r:Nat}
structure Inv (acc:List Bool) (nx:List (List Int)) (r:Nat) (cl:List Int):Prop where
 len:cl.length=acc.length
 iff:∀ p ∈ states acc.length,∀ q ∈ states acc.length,(rd cl p=rd cl q↔sig acc nx r p=sig acc nx r q)
def Rep (acc:List Bool) (nx:List (List Int)) (r:Nat) (cl:List Int):Prop:=∀ q ∈ states acc.length,rd cl q ∈ states acc.length∧sig acc nx r (rd cl q)=sig acc nx r q
theorem rd_at {l:List Int} {q:Int} (h0:0≤q) (h1:q<(l.length:Int)):rd l q=l[q.toNat]'(by omega):=by
 have:=rd_get l q.toNat (by omega)
 rwa [Int.toNat_of_nonneg h0] at this
theorem inv0:Inv acc nx 0 (cl0 acc):=by
 have hlen:(cl0 acc).length=acc.length:=by simp [cl0]
 have hat:∀ p ∈ states acc.length,rd (cl0 acc) p=if rdOf false acc p=true then 1 else 0:=fun p hp=>by
  have:=mem_states.mp hp
  rw [rd_at this.1 (by omega)]
  have h2:=rdOf_get false acc p.toNat (by omega)
  rw [Int.toNat_of_nonneg this.1] at h2
  rw [h2]
  simp [cl0]
 refine ⟨hlen,fun p hp q hq=>?_⟩
 rw [hat p hp,hat q hq,sig_zero]
 cases h1:rdOf false acc p <;> cases h2:rdOf false acc q <;> simp
theorem succ_state (hf:Fits acc nx) {p:Int} (hp:p ∈ states acc.length) (k:Fin 3):rd (rowOf nx p) (k.val:Int) ∈ states acc.length:=by
 have h:=hf.row p (mem_states.mp hp)
 exact mem_states.mpr (h.2 _ (rd_mem h.1 k))
theorem same_sig (hf:Fits acc nx) (h:Inv acc nx r cl) {p q:Int} (hp:p ∈ states acc.length) (hq:q ∈ states acc.length):sameB nx cl p q=true↔sig acc nx (r+1) p=sig acc nx (r+1) q:=by
 rw [sameB_iff,sig_succ]
 constructor
 ·rintro ⟨h0,hk⟩
  have hs:=(h.iff p hp q hq).mp h0
  exact ⟨congrFun hs [],fun k=>(h.iff _ (succ_state hf hp k) _ (succ_state hf hq k)).mp (hk k)⟩
 ·intro hh
  exact ⟨(h.iff p hp q hq).mpr (sig_down (sig_succ.mpr hh)),fun k=>(h.iff _ (succ_state hf hp k) _ (succ_state hf hq k)).mpr (hh.2 k)⟩
theorem least_sig (hf:Fits acc nx) (h:Inv acc nx r cl) {q:Nat} (hq:q<acc.length):0≤leastF nx cl q∧leastF nx cl q≤q∧sig acc nx (r+1) (leastF nx cl q)=sig acc nx (r+1) q∧∀ p:Nat,(p:Int)<leastF nx cl q→sig acc nx (r+1) p ≠ sig acc nx (r+1) q:=by
 have hqs:(q:Int) ∈ states acc.length:=mem_states.mpr (by omega)
 unfold leastF
 cases hfd:(List.range q).find? (fun p:Nat=>sameB nx cl (p:Int) (q:Int)) with
 | none =>
  rw [List.find?_eq_none] at hfd
  refine ⟨by simp,by simp,rfl,fun p hp he=>?_⟩
  have hpq:p<q:=by simpa using hp
  exact hfd p (List.mem_range.mpr hpq) ((same_sig hf h (mem_states.mpr (by omega)) hqs).mpr he)
 | some m =>
  obtain ⟨hs,i,hi,hm,hno⟩:=List.find?_eq_some_iff_getElem.mp hfd
  have him:i=m:=by simpa using hm
  subst him
  have hiq:i<q:=by simpa using hi
  refine ⟨by simp,by simp;omega,(same_sig hf h (mem_states.mpr (by simp;omega)) hqs).mp hs,fun p hp he=>?_⟩
  have hpi:p<i:=by simpa using hp
  have:=hno p hpi
  rw [List.getElem_range,(same_sig hf h (mem_states.mpr (by omega)) hqs).mpr he] at this
  exact absurd this (by decide)
theorem rd_refS (h:Inv acc nx r cl) {q:Int} (hq:q ∈ states acc.length):rd (refS nx cl) q=leastF nx cl q.toNat:=by
 have:=mem_states.mp hq
 have hl:(refS nx cl).length=acc.length:=by rw [refS_len,h.len]
 rw [rd_at this.1 (by omega)]
 simp [refS]
theorem inv_succ (hf:Fits acc nx) (h:Inv acc nx r cl):Inv acc nx (r+1) (refS nx cl):=by
 refine ⟨by rw [refS_len,h.len],fun p hp q hq=>?_⟩
 rw [rd_refS h hp,rd_refS h hq]
 have bp:=mem_states.mp hp
 have bq:=mem_states.mp hq
 obtain ⟨p0,p1,p2,p3⟩:=least_sig hf h (q:=p.toNat) (by omega)
 obtain ⟨q0,q1,q2,q3⟩:=least_sig hf h (q:=q.toNat) (by omega)
 rw [Int.toNat_of_nonneg bp.1] at p2 p3
 rw [Int.toNat_of_nonneg bq.1] at q2 q3
 constructor
 ·intro he
  rw [← p2,← q2,he]
 ·intro he
  refine Int.le_antisymm ?_ ?_
  ·refine Int.not_lt.mp fun hlt=>?_
   refine p3 (leastF nx cl q.toNat).toNat (by rw [Int.toNat_of_nonneg q0];exact hlt) ?_
   rw [Int.toNat_of_nonneg q0,q2,he]
  ·refine Int.not_lt.mp fun hlt=>?_
   refine q3 (leastF nx cl p.toNat).toNat (by rw [Int.toNat_of_nonneg p0];exact hlt) ?_
   rw [Int.toNat_of_nonneg p0,p2,he]
theorem rep_succ (hf:Fits acc nx) (h:Inv acc nx r cl):Rep acc nx (r+1) (refS nx cl):=by
 intro q hq
 have bq:=mem_states.mp hq
 obtain ⟨q0,q1,q2,q3⟩:=least_sig hf h (q:=q.toNat) (by omega)
 rw [Int.toNat_of_nonneg bq.1] at q2
 rw [rd_refS h hq]
 exact ⟨mem_states.mpr (by omega),q2⟩
theorem iter_inv (hf:Fits acc nx):∀ (d r:Nat) (cl:List Int),Inv acc nx r cl→Rep acc nx r cl→Inv acc nx (r+d) (iterS nx d cl)∧Rep acc nx (r+d) (iterS nx d cl)
 | 0,r,cl,h,h2=>⟨h,h2⟩
 | d+1,r,cl,h,h2=>by
  have:=iter_inv hf d (r+1) (refS nx cl) (inv_succ hf h) (rep_succ hf h)
  rw [show r+1+d=r+(d+1) by omega] at this
  exact this
structure Cls (acc:List Bool) (nx:List (List Int)) (cl:List Int):Prop where
 len:cl.length=acc.length
 iff:∀ p ∈ states acc.length,∀ q ∈ states acc.length,(rd cl p=rd cl q↔lang acc nx p=lang acc nx q)
 rep:∀ q ∈ states acc.length,rd cl q ∈ states acc.length∧lang acc nx (rd cl q)=lang acc nx q
theorem cls_good (hf:Fits acc nx):Cls acc nx (iterS nx (acc.length+1) (cl0 acc)):=by
 obtain ⟨h1,h2⟩:=iter_inv hf acc.length 1 (refS nx (cl0 acc)) (inv_succ hf inv0) (rep_succ hf inv0)
 have e:iterS nx (acc.length+1) (cl0 acc)=iterS nx acc.length (refS nx (cl0 acc)):=rfl
 rw [e]
 refine ⟨h1.len,fun p hp q hq=>?_,fun q hq=>?_⟩
 ·rw [h1.iff p hp q hq,sig_all hf (by omega) (mem_states.mp hp) (mem_states.mp hq)]
 ·obtain ⟨a,b⟩:=h2 q hq
  exact ⟨a,(sig_all hf (by omega) (mem_states.mp a) (mem_states.mp hq)).mp b⟩
def succC (nx:List (List Int)) (cl:List Int) (p:Int):List Int:=(rowOf nx p).map (rd cl)
def rowR (nx:List (List Int)) (cl:List Int) (R:List Int) (p:Int):List Int:=(succC nx cl p).map fun y=>(R.idxOf y:Int)
theorem inner_ev (hf:Fits acc nx) (hcl:cl.length=acc.length) (L R:List Int) (i:Nat) (hi:i<L.length) (hp:L[i] ∈ states acc.length) (hpre:adds L (succC nx cl L[i]) <+: R) (hR:R.length≤1100000) (A:List Bool) (B:List (List Int)) (hA:A.length≤1100000) (hB:B.length≤1100000) {out:List Bool × List (List Int)}
  (h:Ev (fun k=>spec_l5Minimal.l0 k cl (adds L (succC nx cl L[i])) ((i+1:Nat):Int) acc nx (A ++ [rdOf false acc L[i]]) (B ++ [rowR nx cl R L[i]])) out) :
  ∀ (d j:Nat),j+d=3→Ev (fun k=>spec_l5Minimal.l1 k cl (adds L ((succC nx cl L[i]).take j)) (i:Int) (((succC nx cl L[i]).take j).map fun y=>(R.idxOf y:Int)) (j:Int) acc nx A B) out:=by
 generalize hpe:L[i]=p at hp hpre h ⊢
 have hps:=mem_states.mp hp
 have hl:=hf.len
 have hr:(rd_L1 nx p).length=3∧∀ x ∈ rd_L1 nx p,0≤x∧x<(acc.length:Int):=hf.row p hps
 have hsl:(succC nx cl p).length=3:=by unfold succC;rw [List.length_map];exact hr.1
 have hpj:∀ j,adds L ((succC nx cl p).take j) <+: adds L (succC nx cl p):=fun j=>by
  conv=>rhs;rw [← List.take_append_drop j (succC nx cl p),adds_append]
  exact adds_pre _ _
 have hrdp:∀ j,rd (adds L ((succC nx cl p).take j)) (i:Int)=p∧i<(adds L ((succC nx cl p).take j)).length:=fun j=>by
  have h1:=adds_pre ((succC nx cl p).take j) L
  have h2:=h1.length_le
  rw [rd_get _ i (by omega)]
  exact ⟨(h1.getElem hi).symm.trans hpe,by omega⟩
 have hRl:∀ j,(adds L ((succC nx cl p).take j)).length≤1100000:=fun j=>Nat.le_trans ((hpj j).trans hpre).length_le hR
 intro d
 induction d with
 | zero =>
  intro j hj
  obtain rfl:j=3:=by omega
  obtain ⟨e1,e2⟩:=hrdp 3
  refine next ?_
  simp only [spec_l5Minimal.l1,if_neg (show ¬ ((3:Nat):Int)<3 by decide),if_pos (show (0:Int)≤(i:Int) by omega),if_pos (show (i:Int)<((adds L ((succC nx cl p).take 3)).length:Int) by omega),e1,if_pos hps.1,if_pos hps.2,if_pos (show A.length<140737488355328 by omega),if_pos (show B.length<5864062014805 by omega)]
  rw [up1 (by have:=hRl 3;omega),List.take_of_length_le (by omega)]
  exact h
 | succ d ih =>
  intro j hj
  obtain ⟨e1,e2⟩:=hrdp j
  have hjr:j<(rd_L1 nx p).length:=by rw [hr.1];omega
  have hy:=hr.2 _ (List.getElem_mem hjr)
  have hyr:=rd_get (rd_L1 nx p) j hjr
  have hsj:(succC nx cl p)[j]'(by omega)=rd cl (rd (rd_L1 nx p) (j:Int)):=by
   rw [hyr]
   unfold succC
   rw [List.getElem_map]
   rfl
  have hrl:(((succC nx cl p).take j).map fun y=>(R.idxOf y:Int)).length≤3:=by rw [List.length_map,List.length_take];omega
  have IH:=ih (j+1) (by omega)
  have hpj1:=(hpj (j+1)).trans hpre
  rw [List.take_succ_eq_append_getElem (by omega),hsj,adds_append,List.map_append,List.map_singleton] at IH
  rw [List.take_succ_eq_append_getElem (by omega),hsj,adds_append] at hpj1
  rw [← hyr] at hy
  have hLl:=hRl j
  refine next ?_
  simp only [spec_l5Minimal.l1,if_pos (show (j:Int)<3 by omega),if_pos (show (0:Int)≤(i:Int) by omega),if_pos (show (i:Int)<((adds L ((succC nx cl p).take j)).length:Int) by omega),e1,if_pos hps.1,if_pos (show p<(nx.length:Int) by omega),if_pos (show (0:Int)≤(j:Int) by omega),if_pos (show (j:Int)<((rd_L1 nx p).length:Int) by omega),if_pos hy.1,if_pos (show rd (rd_L1 nx p) (j:Int)<(cl.length:Int) by omega)]
  generalize rd cl (rd (rd_L1 nx p) (j:Int))=y at IH hpj1 ⊢
  generalize hLe:adds L ((succC nx cl p).take j)=L' at IH hpj1 hLl ⊢
  generalize (((succC nx cl p).take j).map fun y=>(R.idxOf y:Int))=row at IH hrl ⊢
  have hadd:adds L' [y]=add L' y:=rfl
  rw [hadd] at IH hpj1
  refine (find_ev L' y (by omega)).bind ?_
  by_cases hm:y ∈ L'
  ·have hf1:findOf L' y=(L'.idxOf y:Int):=by unfold findOf;rw [if_pos hm]
   have hge:¬ findOf L' y<0:=by rw [hf1];omega
   simp only [if_neg hge]
   refine (find_ev L' y (by omega)).bind ?_
   simp only [if_pos (show row.length<17592186044416 by omega)]
   rw [up1 (by omega),hf1]
   rw [add_in hm] at IH hpj1
   rw [idxOf_pre hpj1 hm] at IH
   exact IH
  ·have hf1:findOf L' y<0:=by unfold findOf;rw [if_neg hm];decide
   simp only [if_pos hf1,if_pos (show L'.length<17592186044416 by omega),Option.bind_some]
   rw [add_out hm] at IH hpj1
   refine (find_ev (L' ++ [y]) y (by simp;omega)).bind ?_
   have hm2:y ∈ L' ++ [y]:=by simp
   have hf2:findOf (L' ++ [y]) y=((L' ++ [y]).idxOf y:Int):=by unfold findOf;rw [if_pos hm2]
   simp only [if_pos (show row.length<17592186044416 by omega)]
   rw [up1 (by omega),hf2]
   rw [idxOf_pre hpj1 hm2] at IH
   exact IH
theorem outer_ev (hf:Fits acc nx) (hc:Cls acc nx cl) {L R:List Int} {i:Nat} (h:Runs (succC nx cl) L i R):R.length≤1100000→(∀ x ∈ L,x ∈ states acc.length)→i≤L.length →
  Ev (fun k=>spec_l5Minimal.l0 k cl L (i:Int) acc nx ((L.take i).map (rdOf false acc)) ((L.take i).map (rowR nx cl R))) (R.map (rdOf false acc),R.map (rowR nx cl R)):=by
 induction h with
 | @stop L i h =>
  intro hR hL hi
  refine next ?_
  simp only [spec_l5Minimal.l0,if_neg (show ¬ (i:Int)<(L.length:Int) by omega)]
  rw [List.take_of_length_le h]
  exact ev_some rfl
 | @step L R i h hr ih =>
  intro hR hL hi
  have hp:=hL _ (List.getElem_mem h)
  have hL2:∀ x ∈ adds L (succC nx cl L[i]),x ∈ states acc.length:=fun x hx=>by
   rcases mem_adds.mp hx with q | q
   ·exact hL x q
   ·obtain ⟨z,hz,rfl⟩:=List.mem_map.mp q
    exact (hc.rep z (mem_states.mpr ((hf.row _ (mem_states.mp hp)).2 z hz))).1
  have hpre:=adds_pre (succC nx cl L[i]) L
  have IH:=ih hR hL2 (by have:=hpre.length_le;omega)
  have et:(adds L (succC nx cl L[i])).take (i+1)=L.take i ++ [L[i]]:=by
   obtain ⟨t,ht⟩:=hpre
   rw [← ht,List.take_append_of_le_length (by omega),List.take_succ_eq_append_getElem h]
  rw [et,List.map_append,List.map_append,List.map_singleton,List.map_singleton] at IH
  have hLR:=hr.pre.length_le
  have hLl:=hpre.length_le
  refine next ?_
  simp only [spec_l5Minimal.l0,if_pos (show (i:Int)<(L.length:Int) by omega)]
  have:=inner_ev hf hc.len L R i h hp hr.pre hR _ _ (by simp;omega) (by simp;omega) IH 3 0 (by omega)
  rw [List.take_zero,adds_nil] at this
  simpa using this
theorem spec_min (hf:Fits acc nx) (h1:1≤acc.length) (hb:acc.length≤1100000):∃ out,Ev (fun k=>spec_l5Minimal.f k acc nx) out∧IsCan (lang acc nx 0) out:=by
 have hc:=cls_good hf
 have hev:=cls_ev hf hb
 generalize iterS nx (acc.length+1) (cl0 acc)=cl at hc hev
 have h0:(0:Int) ∈ states acc.length:=mem_states.mpr (by omega)
 have hc0:=hc.rep 0 h0
 have hdom:∀ x,x ∈ states acc.length→∀ y ∈ succC nx cl x,y ∈ states acc.length:=fun x hx y hy=>by
  obtain ⟨z,hz,rfl⟩:=List.mem_map.mp hy
  exact (hc.rep z (mem_states.mpr ((hf.row _ (mem_states.mp hx)).2 z hz))).1
 obtain ⟨R,hR⟩:=Runs.ends (succ:=succC nx cl) (dom:=fun x=>x ∈ states acc.length) (N:=acc.length) hdom (fun s hn hs=>card_n acc.length s hn (fun x hx=>mem_states.mp (hs x hx))) acc.length [rd cl 0] 0 (by simp) (fun x hx=>by rw [List.mem_singleton] at hx;subst hx;exact hc0.1) (by simp) (by omega)
 have hst:∀ x ∈ R,x ∈ states acc.length:=hR.all (p:=fun x=>x ∈ states acc.length) hdom (fun x hx=>by rw [List.mem_singleton] at hx;subst hx;exact hc0.1)
 have hnd:R.Nodup:=hR.nodup (by simp)
 have hRl:R.length≤acc.length:=card_n acc.length R hnd (fun x hx=>mem_states.mp (hst x hx))
 have hcls:∀ x ∈ R,∃ q ∈ states acc.length,x=rd cl q:=by
  refine hR.all (p:=fun x=>∃ q ∈ states acc.length,x=rd cl q) ?_ ?_
  ·rintro x ⟨q,hq,rfl⟩ y hy
   obtain ⟨z,hz,rfl⟩:=List.mem_map.mp hy
   exact ⟨z,mem_states.mpr ((hf.row _ (mem_states.mp (hc.rep q hq).1)).2 z hz),rfl⟩
  ·intro x hx
   rw [List.mem_singleton] at hx
   exact ⟨0,h0,hx⟩
 have hinj:∀ a ∈ R,∀ b ∈ R,lang acc nx a=lang acc nx b→a=b:=by
  intro a ha b hb hab
  obtain ⟨p,hp,rfl⟩:=hcls a ha
  obtain ⟨q,hq,rfl⟩:=hcls b hb
  rw [(hc.rep p hp).2,(hc.rep q hq).2] at hab
  exact (hc.iff p hp q hq).mpr hab
 have hsm:∀ x ∈ states acc.length,(succC nx cl x).map (lang acc nx)=lsucc (lang acc nx x):=fun x hx=>by
  rw [← succ_lang hf (mem_states.mp hx)]
  unfold succC
  rw [List.map_map]
  exact List.map_congr_left fun z hz=>(hc.rep z (mem_states.mpr ((hf.row _ (mem_states.mp hx)).2 z hz))).2
 have hcan:=hR.map0 (dom:=fun x=>x ∈ states acc.length) (succ':=lsucc) (f:=lang acc nx) hdom hsm hc0.1
 have hdd:dd (R.map (lang acc nx))=R.map (lang acc nx):=by rw [dd_inj _ _ hinj,dd_id hnd]
 rw [hdd,hc0.2] at hcan
 refine ⟨(R.map (rdOf false acc),R.map (rowR nx cl R)),?_,_,hcan,?_⟩
 ·have ho:=outer_ev hf hc hR (by omega) (fun x hx=>by rw [List.mem_singleton] at hx;subst hx;exact hc0.1) (by simp)
  refine hev.bind ?_
  simp only [if_pos (show (0:Int)<(cl.length:Int) by have:=hc.len;omega)]
  simpa using ho
 ·unfold outL
  refine Prod.ext ?_ ?_
  ·show R.map _=_
   rw [List.map_map]
   rfl
  ·show R.map (rowR nx cl R)=(R.map (lang acc nx)).map (fun X=>(lsucc X).map (fun Y=>((R.map (lang acc nx)).idxOf Y:Int)))
   rw [List.map_map]
   refine List.map_congr_left fun x hx=>?_
   show rowR nx cl R x=(lsucc (lang acc nx x)).map (fun Y=>((R.map (lang acc nx)).idxOf Y:Int))
   rw [← hsm x (hst x hx),List.map_map]
   unfold rowR
   refine List.map_congr_left fun y hy=>?_
   have hyR:=hR.closed (fun j _ hj=>by omega) x hx y hy
   show (R.idxOf y:Int)=((R.map (lang acc nx)).idxOf (lang acc nx y):Int)
   rw [idxOf_inj (lang acc nx) R y (fun b hb h=>hinj b hb y hyR h)]
theorem min_same (hf:Fits acc nx) (h1:1≤acc.length) (hb:acc.length≤1100000):Ev (fun k=>spec_l5Minimal.f k acc nx) (minD acc nx 0):=by
 obtain ⟨out,h,hc⟩:=spec_min hf h1 hb
 rw [hc.det (min_can hf (st:=0) (by omega))] at h
 exact h
end
end Go.Proofs.Ytogamkblkoobkaa.Can
end
section
namespace Go.Proofs.Ytogamkblkoobkaa.P
open Go.RowKit Go.Proofs.YtogamkblkoobkaaW.PrintWords Go.Proofs.YtogamkblkoobkaaW.PrintLast Go.Proofs.YtogamkblkoobkaaW.PrintMore
attribute [local go_sem] max2_int min2_int max_two min_two max_three min_three max_four min_four
def impl_moved.l0:Nat→Int→Int→Int→List (List Int)→Int→Int→Option (Int)
 | 0,_,_,_,_,_,_=>none
 | k+1,x1,x2,x7,x11,x12,x13=>if x13<x12 then (if 0≤x13 then (if x13<(x11.length:Int) then (if (Go.bits .and .u64 (shr .u64 x1 x13) 1)=1 then (if 0≤x2 then (if x2<((rd_L1 x11 x13).length:Int) then (if 0≤(rd (rd_L1 x11 x13) x2) then (impl_moved.l0 k x1 x2 (Go.bits .or .u64 x7 (shl .u64 1 (rd (rd_L1 x11 x13) x2))) x11 x12 (wrap64 (x13+1))) else (none)) else (none)) else (none)) else (impl_moved.l0 k x1 x2 x7 x11 x12 (wrap64 (x13+1)))) else (none)) else (none)) else (some x7)
def impl_moved.f (k:Nat) (l0_0:List Bool) (l0_1:List (List Int)) (a1:Int) (a2:Int):Option (Int):=impl_moved.l0 k a1 a2 0 l0_1 (l0_1.length:Int) 0
theorem impl_moved.mono_l:∀ k,(∀ y0 y1 y2 y3 y4 y5,LeO (impl_moved.l0 k y0 y1 y2 y3 y4 y5) (impl_moved.l0 (k+1) y0 y1 y2 y3 y4 y5))
 | 0=>fun _ _ _ _ _ _ r h=>by simp [impl_moved.l0] at h
 | k+1=>by
  have ih0:=impl_moved.mono_l k
  ·intro y0 y1 y2 y3 y4 y5
   unfold impl_moved.l0
   repeat' first
   | (with_reducible exact ih0 _ _ _ _ _ _)
   | (with_reducible exact LeO.refl _)
   | (with_reducible exact LeO.none _)
   | (with_reducible refine LeO.ite ?_ ?_)
   | (with_reducible refine LeO.bind ?_ (fun _=>?_))
   | exact ih0 _ _ _ _ _ _
   | exact LeO.none _
   | refine LeO.ite ?_ ?_
   | refine LeO.bind ?_ (fun _=>?_)
theorem impl_moved.mono:∀ a0 a1 a2 a3 k,LeO (impl_moved.f k a0 a1 a2 a3) (impl_moved.f (k+1) a0 a1 a2 a3):=by
 intro a0 a1 a2 a3 k
 have ih0:=impl_moved.mono_l k
 unfold impl_moved.f
 repeat' first
  | (with_reducible exact ih0 _ _ _ _ _ _)
  | (with_reducible exact LeO.refl _)
  | (with_reducible exact LeO.none _)
  | (with_reducible refine LeO.ite ?_ ?_)
  | (with_reducible refine LeO.bind ?_ (fun _=>?_))
  | exact ih0 _ _ _ _ _ _
  | exact LeO.none _
  | refine LeO.ite ?_ ?_
  | refine LeO.bind ?_ (fun _=>?_)
theorem zp1_0_ {p q g1:Prop} (h:p) (h1:g1) (c:p→g1→q:=by intro h_ h1_;repeat (first | (with_reducible first | exact h_ | apply below_alloc | apply pw_below_drewN | apply below_drew1 | refine below_set ?_ h1_) | exact h_)):q:=c h h1
set_option maxHeartbeats 8000000 in
set_option maxRecDepth 100000 in
theorem impl_moved.calls (k:Nat) (A0_0:Option Addr) (c0_0:Nat) (l0_0:List Bool) (A0_1:Option Addr) (c0_1:Nat) (l0_1:List (List Int)) (a1:Int) (a2:Int) (r:Int) (w:World) (hr0_0:Kd.C Kd.bool w A0_0 l0_0.length l0_0) (hc0_0:l0_0.length≤c0_0) (hr0_1:Kd.C (Kd.slice 3 (Kd.int .i64)) w A0_1 l0_1.length l0_1) (hc0_1:l0_1.length≤c0_1) (h:impl_moved.f k l0_0 l0_1 a1 a2=some r) :
  Calls Try.prog 82 #[.agg #[.slice A0_0 l0_0.length c0_0,.slice A0_1 l0_1.length c0_1],.int .u64 a1,.int .i64 a2] w fun e w'=>e = .returned (.int .u64 r)∧Below w.heap.size w w':=by
 have hu27:=Try.underlying27
 have ak:=am_ hr0_0
 have aG:=am_ hc0_0
 clear hr0_0 hc0_0
 have an:=am_ hr0_1
 have aH:=am_ hc0_1
 clear hr0_1 hc0_1
 have HB:=am_ (Below.refl w.heap.size w)
 have H:(impl_moved.l0 k a1 a2 0 l0_1 (l0_1.length:Int) 0)=some r:=h
 clear h
 have H':=am_ H
 clear H
 go_enter Try.func82,Try.ntmps82
 go_wp2_with (first | ((with_reducible refine gate_dst (N:=3) rfl ?_);refine box_event ?hg (N:=3) ?hd (cs:=#[.slice A0_0 l0_0.length c0_0,.slice A0_1 l0_1.length c0_1]) (t:=27) ?hr ?_;(case hd=>rfl);(case hg=>rfl);(case hr=>first | (go_simp;done) | (go_simp;rfl));intro ao hg w4 hbox hb;replace af:=am_ (hbox);replace aJ:=am_ ((by rw [hg];exact (below_size (b0_ HB.out)):w.heap.size≤ao));replace al:=am_ ((by rw [hg];exact (below_size (b0_ HB.out)):w.heap.size≤ao));replace HB:=am_ (below_step (b0_ HB.out) hb);clear hb hbox hg;have aw:=ck_ (v:=(.slice A0_0 l0_0.length c0_0)) af 0 rfl;have ax:=ck_ (v:=(.slice A0_1 l0_1.length c0_1)) af 1 rfl;have ay:=blk_frozen af.out 0;have az:=blk_frozen af.out 1))
 go_loopg [7,13] k (fun kq v7 v13 w'=>∃ (ah:Int) (aa:Int),v7 = .int .u64 ah∧v13 = .int .i64 aa∧Aside0 (impl_moved.l0 kq a1 a2 ah l0_1 (l0_1.length:Int) aa=some r)∧Aside0 (kq≤k)∧Aside0 (w'.heap[ao]? = some (.cells #[(.slice A0_0 l0_0.length c0_0),(.slice A0_1 l0_1.length c0_1)] 27 (0,0)))∧Aside0 (Below w.heap.size w w'))
 case atStart=>exact ⟨(0),(0),(by first | rfl | (simp;done) | (simp [*];done)),(by first | rfl | (simp;done) | (simp [*];done)),H',⟨Nat.le_refl _⟩,⟨by refine rb_ ?_;exact af.out⟩,⟨by exact zp1_0_ HB.out al.out⟩⟩
 case round =>
  clear H'
  try clear p2
  try clear aw
  try clear ax
  try clear ay
  try clear az
  obtain ⟨ah,aa,rfl,rfl,HA,HK1,af,HB⟩:=hrel
  cases gk with
  | zero=>exact absurd HA.out (by simp [impl_moved.l0])
  | succ k1 =>
   have H:=HA.out
   clear HA
   simp only [impl_moved.l0] at H
   by_cases c6:aa<(l0_1.length:Int)
   ·rw [if_pos c6] at H
    have c6b0:decide (aa<(l0_1.length:Int))=true:=decide_eq_true c6
    clear c6
    by_cases c7:0≤aa
    ·rw [if_pos c7] at H
     have c7b0:decide (0≤aa)=true:=decide_eq_true c7
     clear c7
     by_cases c8:aa<(l0_1.length:Int)
     ·rw [if_pos c8] at H
      have c8b0:decide (aa<(l0_1.length:Int))=true:=decide_eq_true c8
      clear c8
      have c9b0:=eq_true (of_decide_eq_true ah_:0≤aa)
      obtain ⟨ji10,hji10⟩:∃ j_:Int,(shr .u64 a1 aa)=j_:=⟨_,rfl⟩
      replace H:(if (Go.bits .and .u64 (ji10) 1)=1 then (if 0≤a2 then (if a2<((rd_L1 l0_1 aa).length:Int) then (if 0≤(rd (rd_L1 l0_1 aa) a2) then (impl_moved.l0 k1 a1 a2 (Go.bits .or .u64 ah (shl .u64 1 (rd (rd_L1 l0_1 aa) a2))) l0_1 (l0_1.length:Int) (wrap64 (aa+1))) else (none)) else (none)) else (none)) else (impl_moved.l0 k1 a1 a2 ah l0_1 (l0_1.length:Int) (wrap64 (aa+1))))=some r:=by first | (rw [hji10] at H;exact H) | (simp only [hji10] at H ⊢;exact H)
      have hji10_:(a1 / 2 ^ min aa.toNat 64)=ji10:=hji10
      have hji10z:aa≤64→(a1 / 2 ^ aa.toNat)=ji10:=shr_small hji10
      by_cases c11:(Go.bits .and .u64 (ji10) 1)=1
      ·rw [if_pos c11] at H
       have c11b0:((Go.bits .and .u64 (ji10) 1) == 1)=true:=beq_iff_eq.mpr c11
       have c11b1:((Go.bits .and .u64 (ji10) 1) != 1)=false:=bne_eq_false_iff_eq.mpr c11
       clear c11
       by_cases c12:0≤a2
       ·rw [if_pos c12] at H
        have c12b0:decide (0≤a2)=true:=decide_eq_true c12
        clear c12
        by_cases c13:a2<((rd_L1 l0_1 aa).length:Int)
        ·rw [if_pos c13] at H
         have c13b0:decide (a2<((rd_L1 l0_1 aa).length:Int))=true:=decide_eq_true c13
         clear c13
         by_cases c14:0≤(rd (rd_L1 l0_1 aa) a2)
         ·rw [if_pos c14] at H
          have c14b0:=eq_true c14
          have c14b1:decide (0≤(rd (rd_L1 l0_1 aa) a2))=true:=decide_eq_true c14
          clear c14
          obtain ⟨ji15,hji15⟩:∃ j_:Int,(shl .u64 1 (rd (rd_L1 l0_1 aa) a2))=j_:=⟨_,rfl⟩
          replace H:(impl_moved.l0 k1 a1 a2 (Go.bits .or .u64 ah (ji15)) l0_1 (l0_1.length:Int) (wrap64 (aa+1)))=some r:=by first | (rw [hji15] at H;exact H) | (simp only [hji15] at H ⊢;exact H)
          have hji15_:(IntKind.u64.wrap (1 * 2 ^ min (rd (rd_L1 l0_1 aa) a2).toNat 64))=ji15:=hji15
          have hji15z:(rd (rd_L1 l0_1 aa) a2)≤64→(IntKind.u64.wrap (1 * 2 ^ (rd (rd_L1 l0_1 aa) a2).toNat))=ji15:=shl_small hji15
          have hji15u:(IntKind.u64.wrap (2 ^ min (rd (rd_L1 l0_1 aa) a2).toNat 64))=ji15:=by have h_:=hji15_;rw [Int.one_mul] at h_;exact h_
          have hji15v:(rd (rd_L1 l0_1 aa) a2)≤64→(IntKind.u64.wrap (2 ^ (rd (rd_L1 l0_1 aa) a2).toNat))=ji15:=fun hle_=>by have h_:=hji15z hle_;rw [Int.one_mul] at h_;exact h_
          have H':=am_ H
          clear H
          have p104:0≤(aa:Int):=of_decide_eq_true ah_
          have q104:aa<(l0_1.length:Int):=of_decide_eq_true ah_
          obtain ⟨aI,A104_0,c104_0,e104,ae,hl104_0,hi104_0⟩:=at_L1 an.out aa p104 q104
          cases e104
          replace ae:=(HB.out.cell (World.block_lt_of_cell? w _ ae)).trans ae
          have am:=am_ hi104_0
          have av:=am_ hl104_0
          clear hi104_0 hl104_0
          replace p104:=eq_true p104
          replace q104:=eq_true q104
          have p105:0≤(a2:Int):=of_decide_eq_true ah_
          have q105:a2<((rd_L1 l0_1 aa).length:Int):=of_decide_eq_true ah_
          obtain ⟨aK,e105,aj⟩:=Kd.at_int am.out a2 p105 q105
          cases e105
          replace aj:=(HB.out.cell (World.block_lt_of_cell? w _ aj)).trans aj
          replace p105:=eq_true p105
          replace q105:=eq_true q105
          go_wp2
          go_roundg k1
          case measure=>have:=HK1.out;omega
          case rel=>exact ⟨(Go.bits .or .u64 ah (ji15)),(wrap64 (aa+1)),(by first | rfl | (simp;done) | (simp only [← hji15] <;> (first | rfl | simp)) | (simp [*];done)),(by first | rfl | (simp;done) | (simp [*];done)),H',⟨by have:=HK1.out;omega⟩,⟨by refine rb_ ?_;exact af.out⟩,⟨by exact zp1_0_ HB.out al.out⟩⟩
         ·rw [if_neg c14] at H
          exact absurd H (by simp)
        ·rw [if_neg c13] at H
         exact absurd H (by simp)
       ·rw [if_neg c12] at H
        exact absurd H (by simp)
      ·rw [if_neg c11] at H
       have c11b0:((Go.bits .and .u64 (ji10) 1) == 1)=false:=beq_eq_false_iff_ne.mpr c11
       have c11b1:((Go.bits .and .u64 (ji10) 1) != 1)=true:=bne_iff_ne.mpr c11
       have H':=am_ H
       clear H
       have p104:0≤(aa:Int):=of_decide_eq_true ah_
       have q104:aa<(l0_1.length:Int):=of_decide_eq_true ah_
       obtain ⟨aI,A104_0,c104_0,e104,ae,hl104_0,hi104_0⟩:=at_L1 an.out aa p104 q104
       cases e104
       replace ae:=(HB.out.cell (World.block_lt_of_cell? w _ ae)).trans ae
       have am:=am_ hi104_0
       have av:=am_ hl104_0
       clear hi104_0 hl104_0
       replace p104:=eq_true p104
       replace q104:=eq_true q104
       go_wp2
       go_roundg k1
       case measure=>have:=HK1.out;omega
       case rel=>exact ⟨(ah),(wrap64 (aa+1)),(by first | rfl | (simp;done) | (simp [*];done)),(by first | rfl | (simp;done) | (simp [*];done)),H',⟨by have:=HK1.out;omega⟩,⟨by refine rb_ ?_;exact af.out⟩,⟨by exact zp1_0_ HB.out al.out⟩⟩
     ·rw [if_neg c8] at H
      exact absurd H (by simp)
    ·rw [if_neg c7] at H
     exact absurd H (by simp)
   ·rw [if_neg c6] at H
    have c6b0:decide (aa<(l0_1.length:Int))=false:=decide_eq_false c6
    clear c6
    obtain rfl:=Option.some.inj H
    simp only [Option.some.injEq,Prod.mk.injEq] at H
    obtain ⟨rfl⟩:=H
    go_wp2
    go_ret
    exact ⟨by first | rfl | (simp [errW_none,errW_some] <;> rfl) | (simp [*,errW_none,errW_some] <;> rfl),by exact zp1_0_ HB.out al.out⟩
def impl_accepting.l0:Nat→Int→List Bool→Int→Int→Option (Bool)
 | 0,_,_,_,_=>none
 | k+1,x1,x8,x9,x10=>if x10<x9 then (if 0≤x10 then (if x10<(x8.length:Int) then (if rdOf false x8 x10=true then (if (Go.bits .and .u64 (shr .u64 x1 x10) 1)=1 then (some true) else (impl_accepting.l0 k x1 x8 x9 (wrap64 (x10+1)))) else (impl_accepting.l0 k x1 x8 x9 (wrap64 (x10+1)))) else (none)) else (none)) else (some false)
def impl_accepting.f (k:Nat) (l0_0:List Bool) (l0_1:List (List Int)) (a1:Int):Option (Bool):=impl_accepting.l0 k a1 l0_0 (l0_0.length:Int) 0
theorem impl_accepting.mono_l:∀ k,(∀ y0 y1 y2 y3,LeO (impl_accepting.l0 k y0 y1 y2 y3) (impl_accepting.l0 (k+1) y0 y1 y2 y3))
 | 0=>fun _ _ _ _ r h=>by simp [impl_accepting.l0] at h
 | k+1=>by
  have ih0:=impl_accepting.mono_l k
  ·intro y0 y1 y2 y3
   unfold impl_accepting.l0
   repeat' first
   | (with_reducible exact ih0 _ _ _ _)
   | (with_reducible exact LeO.refl _)
   | (with_reducible exact LeO.none _)
   | (with_reducible refine LeO.ite ?_ ?_)
   | (with_reducible refine LeO.bind ?_ (fun _=>?_))
   | exact ih0 _ _ _ _
   | exact LeO.none _
   | refine LeO.ite ?_ ?_
   | refine LeO.bind ?_ (fun _=>?_)
theorem impl_accepting.mono:∀ a0 a1 a2 k,LeO (impl_accepting.f k a0 a1 a2) (impl_accepting.f (k+1) a0 a1 a2):=by
 intro a0 a1 a2 k
 have ih0:=impl_accepting.mono_l k
 unfold impl_accepting.f
 repeat' first
  | (with_reducible exact ih0 _ _ _ _)
  | (with_reducible exact LeO.refl _)
  | (with_reducible exact LeO.none _)
  | (with_reducible refine LeO.ite ?_ ?_)
  | (with_reducible refine LeO.bind ?_ (fun _=>?_))
  | exact ih0 _ _ _ _
  | exact LeO.none _
  | refine LeO.ite ?_ ?_
  | refine LeO.bind ?_ (fun _=>?_)
set_option maxHeartbeats 8000000 in
set_option maxRecDepth 100000 in
theorem impl_accepting.calls (k:Nat) (A0_0:Option Addr) (c0_0:Nat) (l0_0:List Bool) (A0_1:Option Addr) (c0_1:Nat) (l0_1:List (List Int)) (a1:Int) (r:Bool) (w:World) (hr0_0:Kd.C Kd.bool w A0_0 l0_0.length l0_0) (hc0_0:l0_0.length≤c0_0) (hr0_1:Kd.C (Kd.slice 3 (Kd.int .i64)) w A0_1 l0_1.length l0_1) (hc0_1:l0_1.length≤c0_1) (h:impl_accepting.f k l0_0 l0_1 a1=some r) :
  Calls Try.prog 80 #[.agg #[.slice A0_0 l0_0.length c0_0,.slice A0_1 l0_1.length c0_1],.int .u64 a1] w fun e w'=>e = .returned (.bool r)∧Below w.heap.size w w':=by
 have hu27:=Try.underlying27
 have ak:=am_ hr0_0
 have aG:=am_ hc0_0
 clear hr0_0 hc0_0
 have an:=am_ hr0_1
 have aH:=am_ hc0_1
 clear hr0_1 hc0_1
 have HB:=am_ (Below.refl w.heap.size w)
 have H:(impl_accepting.l0 k a1 l0_0 (l0_0.length:Int) 0)=some r:=h
 clear h
 have H':=am_ H
 clear H
 go_enter Try.func80,Try.ntmps80
 go_wp2_with (first | ((with_reducible refine gate_dst (N:=2) rfl ?_);refine box_event ?hg (N:=2) ?hd (cs:=#[.slice A0_0 l0_0.length c0_0,.slice A0_1 l0_1.length c0_1]) (t:=27) ?hr ?_;(case hd=>rfl);(case hg=>rfl);(case hr=>first | (go_simp;done) | (go_simp;rfl));intro ap hg w3 hbox hb;replace ag:=am_ (hbox);replace aL:=am_ ((by rw [hg];exact (below_size (b0_ HB.out)):w.heap.size≤ap));replace ai:=am_ ((by rw [hg];exact (below_size (b0_ HB.out)):w.heap.size≤ap));replace HB:=am_ (below_step (b0_ HB.out) hb);clear hb hbox hg;have aA:=ck_ (v:=(.slice A0_0 l0_0.length c0_0)) ag 0 rfl;have aB:=ck_ (v:=(.slice A0_1 l0_1.length c0_1)) ag 1 rfl;have aC:=blk_frozen ag.out 0;have aD:=blk_frozen ag.out 1))
 go_loopg [10] k (fun kq v10 w'=>∃ (ab:Int),v10 = .int .i64 ab∧Aside0 (impl_accepting.l0 kq a1 l0_0 (l0_0.length:Int) ab=some r)∧Aside0 (kq≤k)∧Aside0 (w'.heap[ap]? = some (.cells #[(.slice A0_0 l0_0.length c0_0),(.slice A0_1 l0_1.length c0_1)] 27 (0,0)))∧Aside0 (Below w.heap.size w w'))
 case atStart=>exact ⟨(0),(by first | rfl | (simp;done) | (simp [*];done)),H',⟨Nat.le_refl _⟩,⟨by refine rb_ ?_;exact ag.out⟩,⟨by exact zp1_0_ HB.out ai.out⟩⟩
 case round =>
  clear H'
  try clear p2
  try clear aA
  try clear aB
  try clear aC
  try clear aD
  obtain ⟨ab,rfl,HA,HK1,ag,HB⟩:=hrel
  cases gk with
  | zero=>exact absurd HA.out (by simp [impl_accepting.l0])
  | succ k1 =>
   have H:=HA.out
   clear HA
   simp only [impl_accepting.l0] at H
   by_cases c5:ab<(l0_0.length:Int)
   ·rw [if_pos c5] at H
    have c5b0:decide (ab<(l0_0.length:Int))=true:=decide_eq_true c5
    clear c5
    by_cases c6:0≤ab
    ·rw [if_pos c6] at H
     have c6b0:decide (0≤ab)=true:=decide_eq_true c6
     clear c6
     by_cases c7:ab<(l0_0.length:Int)
     ·rw [if_pos c7] at H
      have c7b0:decide (ab<(l0_0.length:Int))=true:=decide_eq_true c7
      clear c7
      obtain ⟨bq8,hbq8⟩:∃ b_:Bool,b_=(rdOf false l0_0 ab):=⟨_,rfl⟩
      replace H:(if bq8=true then (if (Go.bits .and .u64 (shr .u64 a1 ab) 1)=1 then (some true) else (impl_accepting.l0 k1 a1 l0_0 (l0_0.length:Int) (wrap64 (ab+1)))) else (impl_accepting.l0 k1 a1 l0_0 (l0_0.length:Int) (wrap64 (ab+1))))=some r:=by rw [← hbq8] at H;exact H
      have Nbq8:=am_ hbq8
      clear hbq8
      by_cases c9:bq8=true
      ·subst c9
       have H1:(if (Go.bits .and .u64 (shr .u64 a1 ab) 1)=1 then (some true) else (impl_accepting.l0 k1 a1 l0_0 (l0_0.length:Int) (wrap64 (ab+1))))=some r:=by rw [if_pos rfl] at H;exact H
       clear H
       have H:=H1
       clear H1
       have c10b0:=eq_true (of_decide_eq_true ah_:0≤ab)
       obtain ⟨ji11,hji11⟩:∃ j_:Int,(shr .u64 a1 ab)=j_:=⟨_,rfl⟩
       replace H:(if (Go.bits .and .u64 (ji11) 1)=1 then (some true) else (impl_accepting.l0 k1 a1 l0_0 (l0_0.length:Int) (wrap64 (ab+1))))=some r:=by first | (rw [hji11] at H;exact H) | (simp only [hji11] at H ⊢;exact H)
       have hji11_:(a1 / 2 ^ min ab.toNat 64)=ji11:=hji11
       have hji11z:ab≤64→(a1 / 2 ^ ab.toNat)=ji11:=shr_small hji11
       by_cases c12:(Go.bits .and .u64 (ji11) 1)=1
       ·rw [if_pos c12] at H
        have c12b0:((Go.bits .and .u64 (ji11) 1) == 1)=true:=beq_iff_eq.mpr c12
        have c12b1:((Go.bits .and .u64 (ji11) 1) != 1)=false:=bne_eq_false_iff_eq.mpr c12
        clear c12
        obtain rfl:=Option.some.inj H
        simp only [Option.some.injEq,Prod.mk.injEq] at H
        obtain ⟨rfl⟩:=H
        have p107:0≤(ab:Int):=of_decide_eq_true ah_
        have q107:ab<(l0_0.length:Int):=of_decide_eq_true ah_
        obtain ⟨aq,e107,ad⟩:=Kd.at_bool ak.out ab p107 q107
        (try rw [← Nbq8.out] at ad)
        cases e107
        replace ad:=(HB.out.cell (World.block_lt_of_cell? w _ ad)).trans ad
        replace p107:=eq_true p107
        replace q107:=eq_true q107
        go_wp2
        go_ret
        exact ⟨by first | rfl | (simp [errW_none,errW_some] <;> rfl) | (simp only [← hji11];first | rfl | (simp [errW_none,errW_some] <;> rfl)) | (simp [*,errW_none,errW_some] <;> rfl),by exact zp1_0_ HB.out ai.out⟩
       ·rw [if_neg c12] at H
        have c12b0:((Go.bits .and .u64 (ji11) 1) == 1)=false:=beq_eq_false_iff_ne.mpr c12
        have c12b1:((Go.bits .and .u64 (ji11) 1) != 1)=true:=bne_iff_ne.mpr c12
        have H':=am_ H
        clear H
        have p107:0≤(ab:Int):=of_decide_eq_true ah_
        have q107:ab<(l0_0.length:Int):=of_decide_eq_true ah_
        obtain ⟨aq,e107,ad⟩:=Kd.at_bool ak.out ab p107 q107
        (try rw [← Nbq8.out] at ad)
        cases e107
        replace ad:=(HB.out.cell (World.block_lt_of_cell? w _ ad)).trans ad
        replace p107:=eq_true p107
        replace q107:=eq_true q107
        go_wp2
        go_roundg k1
        case measure=>have:=HK1.out;omega
        case rel=>exact ⟨(wrap64 (ab+1)),(by first | rfl | (simp;done) | (simp [*];done)),H',⟨by have:=HK1.out;omega⟩,⟨by refine rb_ ?_;exact ag.out⟩,⟨by exact zp1_0_ HB.out ai.out⟩⟩
      ·replace c9:=Bool.eq_false_iff.mpr c9
       subst c9
       have H1:(impl_accepting.l0 k1 a1 l0_0 (l0_0.length:Int) (wrap64 (ab+1)))=some r:=by rw [if_neg (show ¬ (false=true) by decide)] at H;exact H
       clear H
       have H:=H1
       clear H1
       have H':=am_ H
       clear H
       have p107:0≤(ab:Int):=of_decide_eq_true ah_
       have q107:ab<(l0_0.length:Int):=of_decide_eq_true ah_
       obtain ⟨aq,e107,ad⟩:=Kd.at_bool ak.out ab p107 q107
       (try rw [← Nbq8.out] at ad)
       cases e107
       replace ad:=(HB.out.cell (World.block_lt_of_cell? w _ ad)).trans ad
       replace p107:=eq_true p107
       replace q107:=eq_true q107
       go_wp2
       go_roundg k1
       case measure=>have:=HK1.out;omega
       case rel=>exact ⟨(wrap64 (ab+1)),(by first | rfl | (simp;done) | (simp [*];done)),H',⟨by have:=HK1.out;omega⟩,⟨by refine rb_ ?_;exact ag.out⟩,⟨by exact zp1_0_ HB.out ai.out⟩⟩
     ·rw [if_neg c7] at H
      exact absurd H (by simp)
    ·rw [if_neg c6] at H
     exact absurd H (by simp)
   ·rw [if_neg c5] at H
    have c5b0:decide (ab<(l0_0.length:Int))=false:=decide_eq_false c5
    clear c5
    obtain rfl:=Option.some.inj H
    simp only [Option.some.injEq,Prod.mk.injEq] at H
    obtain ⟨rfl⟩:=H
    go_wp2
    go_ret
    exact ⟨by first | rfl | (simp [errW_none,errW_some] <;> rfl) | (simp [*,errW_none,errW_some] <;> rfl),by exact zp1_0_ HB.out ai.out⟩
def impl_within.f (a0:Int) (a1:Int) (a2:Int):Option (Bool):=if a0 ≥ a1 then (some (decide (a0≤a2))) else (some false)
set_option maxHeartbeats 8000000 in
set_option maxRecDepth 100000 in
theorem impl_within.calls (a0:Int) (a1:Int) (a2:Int) (r:Bool) (w:World) (h:impl_within.f a0 a1 a2=some r) :
  Calls Try.prog 101 #[.int .i64 a0,.int .i64 a1,.int .i64 a2] w fun e w'=>e = .returned (.bool r)∧Drawn0 w w':=by
 have H:(if a0 ≥ a1 then (some (decide (a0≤a2))) else (some false))=some r:=h
 clear h
 by_cases c4:a0 ≥ a1
 ·rw [if_pos c4] at H
  have c4b0:decide (a1≤a0)=true:=decide_eq_true c4
  clear c4
  obtain rfl:=Option.some.inj H
  simp only [Option.some.injEq,Prod.mk.injEq] at H
  obtain ⟨rfl⟩:=H
  go_enter Try.func101,Try.ntmps101
  go_wp2
  go_ret
  exact ⟨by first | rfl | (simp;done) | (simp [*];done),by repeat (first | exact Drawn0.refl _ | apply Drawn0.step)⟩
 ·rw [if_neg c4] at H
  have c4b0:decide (a1≤a0)=false:=decide_eq_false c4
  clear c4
  obtain rfl:=Option.some.inj H
  simp only [Option.some.injEq,Prod.mk.injEq] at H
  obtain ⟨rfl⟩:=H
  go_enter Try.func101,Try.ntmps101
  go_wp2
  go_ret
  exact ⟨by first | rfl | (simp;done) | (simp [*];done),by repeat (first | exact Drawn0.refl _ | apply Drawn0.step)⟩
end Go.Proofs.Ytogamkblkoobkaa.P
end
section
namespace Go.Proofs.Ytogamkblkoobkaa.Wk
open Go.RowKit Go.Shelf Go.Proofs.Ytogamkblkoobkaa.P Go.Proofs.YtogamkblkoobkaaW.PrintWords Go.Proofs.YtogamkblkoobkaaW.PrintLast Go.Proofs.YtogamkblkoobkaaW.PrintMore
def Hit (p:Nat→Bool) (n:Nat) (r:Int):Prop:=decide (0≤r)=(List.range n).any p
def Told (P:Int→Prop) (w:World) (e:Ending) (w':World):Prop:=∃ r:Int,e = .returned (.int .i64 r)∧P r∧Below w.heap.size w w'
theorem hit_at {p:Nat→Bool} {n k:Nat} (h:k<n) (hp:p k=true):Hit p n (k:Int):=by
 unfold Hit
 rw [decide_eq_true (by omega),eq_comm,List.any_eq_true]
 exact ⟨k,List.mem_range.mpr h,hp⟩
theorem hit_none {p:Nat→Bool} {n:Nat} (h:∀ j,j<n→p j=false):Hit p n (-1):=by
 unfold Hit
 rw [decide_eq_false (by omega),eq_comm,List.any_eq_false]
 intro x hx
 rw [h x (List.mem_range.mp hx)]
 simp
set_option maxHeartbeats 2000000 in
theorem indexRows {vals:Nat→Value} {p:Nat→Bool} (A:Option Addr) (n c g:Nat) (lb:Array Value) (eg:∀ args w,(callFunc g args).run Try.prog w = .ok (.enter g args) w) (w:World) (hn:n≤9223372036854775807)
  (hc:0<n→∃ ad:Addr,A=some ad∧∀ j,j<n→w.cell? (ad.add j)=some (vals j))
  (hp:∀ j,j<n→∀ W,Below w.heap.size w W→Calls Try.prog g (#[vals j] ++ lb) W fun e W'=>e = .returned (.bool (p j))∧Below W.heap.size W W') :
  Calls Try.prog 127 #[.slice A n c,.func (.func g) #[] lb] w (Told (Hit p n) w):=by
 rcases Nat.eq_zero_or_pos n with h0 | h0
 ·subst h0
  clear hc hp
  go_enter Try.func127,Try.ntmps127
  go_wp2
  go_loopg [5,8] 0 (fun _ _ s8 wr=>s8 = .int .i64 0∧wr=w)
  case atStart=>exact ⟨rfl,rfl⟩
  case round =>
   obtain ⟨rfl,rfl⟩:=hrel
   go_wp2
   go_ret
   exact ⟨-1,rfl,hit_none (fun j hj=>by omega),Below.refl _ _⟩
 ·obtain ⟨ad,rfl,hcc⟩:=hc h0
  clear hc
  have HC:=am_ hcc
  clear hcc
  have HP:=am_ hp
  clear hp
  go_enter Try.func127,Try.ntmps127
  go_wp2
  go_loopg [5,8] n (fun gg _ s8 wr=>∃ kk:Nat,s8 = .int .i64 kk∧Aside0 (kk≤n)∧Aside0 (n - kk≤gg)∧Aside0 (Below w.heap.size w wr)∧Aside0 (∀ j,j<kk→p j=false))
  case atStart=>exact ⟨0,rfl,⟨Nat.zero_le _⟩,⟨by omega⟩,⟨Below.refl _ _⟩,⟨fun j hj=>absurd hj (Nat.not_lt_zero _)⟩⟩
  case round =>
   obtain ⟨kk,rfl,HK,HG,HB,HQ⟩:=hrel
   by_cases hlt:kk<n
   ·have hltz:(kk:Int)<(n:Int):=by omega
    have hcell:wr.cell? (ad.add kk)=some (vals kk):=pw_cell_below HB.out (HC.out kk hlt)
    have hcall:=am_ (HP.out kk hlt)
    generalize hy:vals kk=y at hcell hcall
    clear hy
    cases hq:p kk with
    | true =>
     rw [hq] at hcall
     have HQ1:=am_ hq
     clear hq
     go_wp2_with (go_at_fn g;refine (hcall.out _ (by exact HB.out)).mono ?_;rintro e w' ⟨rfl,hb⟩;have HB2:=am_ hb;clear hb)
     go_ret
     exact ⟨kk,rfl,hit_at hlt HQ1.out,below_then HB.out HB.out.size HB2.out⟩
    | false =>
     rw [hq] at hcall
     have HQ1:=am_ hq
     clear hq
     go_wp2_with (go_at_fn g;refine (hcall.out _ (by exact HB.out)).mono ?_;rintro e w' ⟨rfl,hb⟩;have HB2:=am_ hb;clear hb)
     go_roundg (n - (kk+1))
     case measure=>have:=HG.out;omega
     case rel =>
      refine ⟨kk+1,by go_num,⟨by omega⟩,⟨by omega⟩,⟨below_then HB.out HB.out.size HB2.out⟩,⟨fun j hj=>?_⟩⟩
      by_cases e:j=kk
      ·subst e;exact HQ1.out
      ·exact HQ.out j (by omega)
   ·have hltz:¬ (kk:Int)<(n:Int):=by omega
    have e:kk=n:=by have:=HK.out;omega
    subst e
    go_wp2
    go_ret
    exact ⟨-1,rfl,hit_none HQ.out,HB.out⟩
set_option maxHeartbeats 2000000 in
theorem containsRows {vals:Nat→Value} {p:Nat→Bool} (A:Option Addr) (n c g:Nat) (lb:Array Value) (eg:∀ args w,(callFunc g args).run Try.prog w = .ok (.enter g args) w) (w:World) (hn:n≤9223372036854775807)
  (hc:0<n→∃ ad:Addr,A=some ad∧∀ j,j<n→w.cell? (ad.add j)=some (vals j))
  (hp:∀ j,j<n→∀ W,Below w.heap.size w W→Calls Try.prog g (#[vals j] ++ lb) W fun e W'=>e = .returned (.bool (p j))∧Below W.heap.size W W') :
  Calls Try.prog 102 #[.slice A n c,.func (.func g) #[] lb] w fun e w'=>e = .returned (.bool ((List.range n).any p))∧Below w.heap.size w w':=by
 have h:=indexRows A n c g lb eg w hn hc hp
 clear hc hp eg
 have HC:=am_ h
 clear h
 go_enter Try.func102,Try.ntmps102
 go_wp2_with (go_at_call 127;refine HC.out.mono ?_;rintro e w' ⟨r,rfl,hr,hb⟩;have HR:=am_ hr;clear hr;have HB:=am_ hb;clear hb)
 go_ret
 have e:=HR.out
 unfold Hit at e
 rw [← e]
 exact ⟨rfl,HB.out⟩
set_option maxHeartbeats 2000000 in
theorem indexNums {vals:Nat→Value} {p:Nat→Bool} (A:Option Addr) (n c g:Nat) (lb:Array Value) (eg:∀ args w,(callFunc g args).run Try.prog w = .ok (.enter g args) w) (w:World) (hn:n≤9223372036854775807)
  (hc:0<n→∃ ad:Addr,A=some ad∧∀ j,j<n→w.cell? (ad.add j)=some (vals j))
  (hp:∀ j,j<n→∀ W,Below w.heap.size w W→Calls Try.prog g (#[vals j] ++ lb) W fun e W'=>e = .returned (.bool (p j))∧Below W.heap.size W W') :
  Calls Try.prog 128 #[.slice A n c,.func (.func g) #[] lb] w (Told (Hit p n) w):=by
 rcases Nat.eq_zero_or_pos n with h0 | h0
 ·subst h0
  clear hc hp
  go_enter Try.func128,Try.ntmps128
  go_wp2
  go_loopg [5,8] 0 (fun _ _ s8 wr=>s8 = .int .i64 0∧wr=w)
  case atStart=>exact ⟨rfl,rfl⟩
  case round =>
   obtain ⟨rfl,rfl⟩:=hrel
   go_wp2
   go_ret
   exact ⟨-1,rfl,hit_none (fun j hj=>by omega),Below.refl _ _⟩
 ·obtain ⟨ad,rfl,hcc⟩:=hc h0
  clear hc
  have HC:=am_ hcc
  clear hcc
  have HP:=am_ hp
  clear hp
  go_enter Try.func128,Try.ntmps128
  go_wp2
  go_loopg [5,8] n (fun gg _ s8 wr=>∃ kk:Nat,s8 = .int .i64 kk∧Aside0 (kk≤n)∧Aside0 (n - kk≤gg)∧Aside0 (Below w.heap.size w wr)∧Aside0 (∀ j,j<kk→p j=false))
  case atStart=>exact ⟨0,rfl,⟨Nat.zero_le _⟩,⟨by omega⟩,⟨Below.refl _ _⟩,⟨fun j hj=>absurd hj (Nat.not_lt_zero _)⟩⟩
  case round =>
   obtain ⟨kk,rfl,HK,HG,HB,HQ⟩:=hrel
   by_cases hlt:kk<n
   ·have hltz:(kk:Int)<(n:Int):=by omega
    have hcell:wr.cell? (ad.add kk)=some (vals kk):=pw_cell_below HB.out (HC.out kk hlt)
    have hcall:=am_ (HP.out kk hlt)
    generalize hy:vals kk=y at hcell hcall
    clear hy
    cases hq:p kk with
    | true =>
     rw [hq] at hcall
     have HQ1:=am_ hq
     clear hq
     go_wp2_with (go_at_fn g;refine (hcall.out _ (by exact HB.out)).mono ?_;rintro e w' ⟨rfl,hb⟩;have HB2:=am_ hb;clear hb)
     go_ret
     exact ⟨kk,rfl,hit_at hlt HQ1.out,below_then HB.out HB.out.size HB2.out⟩
    | false =>
     rw [hq] at hcall
     have HQ1:=am_ hq
     clear hq
     go_wp2_with (go_at_fn g;refine (hcall.out _ (by exact HB.out)).mono ?_;rintro e w' ⟨rfl,hb⟩;have HB2:=am_ hb;clear hb)
     go_roundg (n - (kk+1))
     case measure=>have:=HG.out;omega
     case rel =>
      refine ⟨kk+1,by go_num,⟨by omega⟩,⟨by omega⟩,⟨below_then HB.out HB.out.size HB2.out⟩,⟨fun j hj=>?_⟩⟩
      by_cases e:j=kk
      ·subst e;exact HQ1.out
      ·exact HQ.out j (by omega)
   ·have hltz:¬ (kk:Int)<(n:Int):=by omega
    have e:kk=n:=by have:=HK.out;omega
    subst e
    go_wp2
    go_ret
    exact ⟨-1,rfl,hit_none HQ.out,HB.out⟩
set_option maxHeartbeats 2000000 in
theorem containsNums {vals:Nat→Value} {p:Nat→Bool} (A:Option Addr) (n c g:Nat) (lb:Array Value) (eg:∀ args w,(callFunc g args).run Try.prog w = .ok (.enter g args) w) (w:World) (hn:n≤9223372036854775807)
  (hc:0<n→∃ ad:Addr,A=some ad∧∀ j,j<n→w.cell? (ad.add j)=some (vals j))
  (hp:∀ j,j<n→∀ W,Below w.heap.size w W→Calls Try.prog g (#[vals j] ++ lb) W fun e W'=>e = .returned (.bool (p j))∧Below W.heap.size W W') :
  Calls Try.prog 104 #[.slice A n c,.func (.func g) #[] lb] w fun e w'=>e = .returned (.bool ((List.range n).any p))∧Below w.heap.size w w':=by
 have h:=indexNums A n c g lb eg w hn hc hp
 clear hc hp eg
 have HC:=am_ h
 clear h
 go_enter Try.func104,Try.ntmps104
 go_wp2_with (go_at_call 128;refine HC.out.mono ?_;rintro e w' ⟨r,rfl,hr,hb⟩;have HR:=am_ hr;clear hr;have HB:=am_ hb;clear hb)
 go_ret
 have e:=HR.out
 unfold Hit at e
 rw [← e]
 exact ⟨rfl,HB.out⟩
def badState (n q:Int):Bool:=!decide (0≤q) || !decide (q≤n - 1)
def badRow (n:Int) (row:List Int):Bool:=decide (row.length ≠ 3) || row.any (badState n)
def validD (acc:List Bool) (nxt:List (List Int)):Bool:=decide (1≤acc.length) && decide (acc.length≤40) && decide (nxt.length=acc.length) && !(nxt.any (badRow acc.length))
set_option maxHeartbeats 2000000 in
theorem inner (q:Int) (n:Int) (B:Nat) (hn0:1≤n) (hn:n≤40) (w:World) (hc:w.cell? ⟨B,0,none⟩=some (.int .i64 n)) :
  Calls Try.prog 105 #[.int .i64 q,.pointer (some ⟨B,0,none⟩)] w fun e w'=>e = .returned (.bool (badState n q))∧Below w.heap.size w w':=by
 have H1:=fun W=>impl_within.calls q 0 (n - 1) (decide (0≤q) && decide (q≤n - 1)) W (by unfold impl_within.f;by_cases h:q ≥ 0 <;> simp [h])
 have HC:=am_ H1
 clear H1
 go_enter Try.func105,Try.ntmps105
 go_wp2_with (go_at_call 101;refine (HC.out _).mono ?_;rintro e w' ⟨rfl,⟨m,rfl⟩⟩)
 go_ret
 exact ⟨rfl,(Drawn0.below ⟨⟨_,rfl⟩⟩)⟩
theorem cellsInt {k:IntKind} {w:World} {A:Option Addr} {n:Nat} {xs:List Int} (h:Kd.C (Kd.int k) w A n xs):0<n→∃ ad:Addr,A=some ad∧∀ j,j<n→w.cell? (ad.add j)=some (.int k (xs.getD j 0)):=by
 intro h0
 obtain ⟨ad,e,hc⟩:=h.2.2 h0
 refine ⟨ad,e,fun j hj=>?_⟩
 have hl:j<xs.length:=by rw [h.1];exact hj
 obtain ⟨c,hs,hr,hcell⟩:=hc j xs[j] (List.getElem?_eq_getElem hl)
 have hr':c = [.int k xs[j]]:=hr
 subst hr'
 have:=hcell 0 _ rfl
 rw [show (Kd.int k).sz=1 from rfl,Nat.mul_one,Nat.add_zero] at this
 rw [this,List.getD_eq_getElem?_getD,List.getElem?_eq_getElem hl]
 rfl
theorem cellsRows {e:Nat} {w:World} {A:Option Addr} {n:Nat} {xs:List (List Int)} (h:Kd.C (Kd.slice e (Kd.int .i64)) w A n xs):0<n→∃ ad:Addr,A=some ad∧∀ j,j<n→∃ A0 c0,w.cell? (ad.add j)=some (.slice A0 (xs.getD j []).length c0)∧Kd.C (Kd.int .i64) w A0 (xs.getD j []).length (xs.getD j []):=by
 intro h0
 obtain ⟨ad,ea,hc⟩:=h.2.2 h0
 refine ⟨ad,ea,fun j hj=>?_⟩
 have hl:j<xs.length:=by rw [h.1];exact hj
 obtain ⟨c,hs,hr,hcell⟩:=hc j xs[j] (List.getElem?_eq_getElem hl)
 obtain ⟨A0,c0,rfl,h1,h2⟩:=hr
 have:=hcell 0 _ rfl
 rw [show (Kd.slice e (Kd.int .i64)).sz=1 from rfl,Nat.mul_one,Nat.add_zero] at this
 rw [List.getD_eq_getElem?_getD,List.getElem?_eq_getElem hl]
 exact ⟨A0,c0,this,h2⟩
theorem any_range {α:Type} (z:α) (xs:List α) (f:α→Bool):(List.range xs.length).any (fun j=>f (xs.getD j z))=xs.any f:=by
 rw [Bool.eq_iff_iff,List.any_eq_true,List.any_eq_true]
 constructor
 ·rintro ⟨j,hj,h⟩
  have hl:=List.mem_range.mp hj
  rw [List.getD_eq_getElem?_getD,List.getElem?_eq_getElem hl] at h
  exact ⟨xs[j],List.getElem_mem _,h⟩
 ·rintro ⟨x,hx,h⟩
  obtain ⟨j,hj,rfl⟩:=List.mem_iff_getElem.mp hx
  refine ⟨j,List.mem_range.mpr hj,?_⟩
  rw [List.getD_eq_getElem?_getD,List.getElem?_eq_getElem hj]
  exact h
set_option maxHeartbeats 2000000 in
theorem outer (row:List Int) (A:Option Addr) (c:Nat) (n:Int) (B:Nat) (hn0:1≤n) (hn:n≤40) (w:World) (hB:B<w.heap.size) (hc:w.cell? ⟨B,0,none⟩=some (.int .i64 n)) (hr:Kd.C (Kd.int .i64) w A row.length row) :
  Calls Try.prog 103 #[.slice A row.length c,.pointer (some ⟨B,0,none⟩)] w fun e w'=>e = .returned (.bool (badRow n row))∧Below w.heap.size w w':=by
 have hlen:=hr.2.1
 by_cases h3:row.length=3
 ·have hp:∀ j,j<row.length→∀ W,Below w.heap.size w W→Calls Try.prog 105 (#[.int .i64 (row.getD j 0)] ++ #[.pointer (some ⟨B,0,none⟩)]) W fun e W'=>e = .returned (.bool (badState n (row.getD j 0)))∧Below W.heap.size W W':=
   fun j hj W hb=>inner _ n B hn0 hn W ((hb.cell (p:=⟨B,0,none⟩) hB).trans hc)
  have hcon:=fun W (hb:Below w.heap.size w W)=>containsNums (vals:=fun j=>.int .i64 (row.getD j 0)) (p:=fun j=>badState n (row.getD j 0)) A row.length c 105 #[.pointer (some ⟨B,0,none⟩)]
   (enters_of Try.func105 (by kernel_rfl) rfl) W hlen (cellsInt (Kd.C_below hr hb)) (fun j hj W' hb'=>hp j hj W' (below_then hb hb.size hb'))
  have HC:=am_ hcon
  have e3:badRow n row=(List.range row.length).any (fun j=>badState n (row.getD j 0)):=by
   rw [any_range 0 row (badState n)]
   simp [badRow,h3]
  have E3:=am_ e3
  clear hcon hp hr hc e3
  have t3:((row.length:Int) != 3)=false:=by rw [bne_eq_false_iff_eq];omega
  clear h3 hlen
  go_enter Try.func103,Try.ntmps103
  go_wp2_with (go_at_call 104;refine (HC.out _ (by exact Below.refl _ _)).mono ?_;rintro e w' ⟨rfl,hb⟩;have HB:=am_ hb;clear hb)
  go_ret
  rw [E3.out]
  exact ⟨rfl,HB.out⟩
 ·have e3:badRow n row=true:=by simp [badRow,h3]
  have E3:=am_ e3
  have t3:((row.length:Int) != 3)=true:=by rw [bne_iff_ne];omega
  clear h3 e3 hr
  go_enter Try.func103,Try.ntmps103
  go_wp2
  go_ret
  rw [E3.out]
  exact ⟨rfl,Below.refl _ _⟩
theorem rowsContain (A1:Option Addr) (c1:Nat) (l1:List (List Int)) (n:Int) (hn0:1≤n) (hn:n≤40) (w:World) (hr1:Kd.C (Kd.slice 3 (Kd.int .i64)) w A1 l1.length l1) (B:Nat) (W:World) (hb:Below w.heap.size w W) (hB:B<W.heap.size) (hc:W.cell? ⟨B,0,none⟩=some (.int .i64 n)) :
  Calls Try.prog 102 #[.slice A1 l1.length c1,.func (.func 103) #[] #[.pointer (some ⟨B,0,none⟩)]] W fun e w'=>e = .returned (.bool (l1.any (badRow n)))∧Below W.heap.size W w':=by
 have hl:=hr1.2.1
 have hW:=Kd.C_below hr1 hb
 rw [← any_range [] l1 (badRow n)]
 rcases Nat.eq_zero_or_pos l1.length with h0 | h0
 ·refine containsRows (vals:=fun _=>.bool false) (p:=fun j=>badRow n (l1.getD j [])) A1 l1.length c1 103 _ (enters_of Try.func103 (by kernel_rfl) rfl) W hl (fun h=>by omega) (fun j hj=>by omega)
 ·obtain ⟨ad,rfl,hcell⟩:=cellsRows hW h0
  refine containsRows (vals:=fun j=>(W.cell? (ad.add j)).getD (.bool false)) (p:=fun j=>badRow n (l1.getD j [])) _ l1.length c1 103 _ (enters_of Try.func103 (by kernel_rfl) rfl) W hl (fun _=>⟨ad,rfl,fun j hj=>?_⟩) (fun j hj W' hb'=>?_)
  ·obtain ⟨Aj,cj,h1,_⟩:=hcell j hj
   rw [h1]
   rfl
  ·obtain ⟨Aj,cj,h1,h2⟩:=hcell j hj
   simp only [h1,Option.getD_some]
   exact outer (l1.getD j []) Aj cj n B hn0 hn W' (Nat.lt_of_lt_of_le hB hb'.size) ((hb'.cell (p:=⟨B,0,none⟩) hB).trans hc) (Kd.C_below h2 hb')
set_option maxHeartbeats 2000000 in
theorem validCalls (A0:Option Addr) (c0:Nat) (l0:List Bool) (A1:Option Addr) (c1:Nat) (l1:List (List Int)) (w:World) (hr0:Kd.C Kd.bool w A0 l0.length l0) (hr1:Kd.C (Kd.slice 3 (Kd.int .i64)) w A1 l1.length l1) :
  Calls Try.prog 39 #[.agg #[.slice A0 l0.length c0,.slice A1 l1.length c1]] w fun e w'=>e = .returned (.bool (validD l0 l1))∧Below w.heap.size w w':=by
 have hu:=Try.underlying27
 have hl0:=hr0.2.1
 have hl1:=hr1.2.1
 have hwi:=fun W=>impl_within.calls (l0.length:Int) 1 40 (decide (1≤l0.length) && decide (l0.length≤40)) W (by
  unfold impl_within.f
  by_cases h:1≤l0.length
  ·rw [if_pos (show (l0.length:Int) ≥ 1 by omega),decide_eq_true h,Bool.true_and]
   exact congrArg some (decide_eq_decide.mpr (by omega))
  ·rw [if_neg (show ¬ (l0.length:Int) ≥ 1 by omega),decide_eq_false h,Bool.false_and])
 have hV:=validD.eq_def l0 l1
 by_cases h1:(decide (1≤l0.length) && decide (l0.length≤40))=true
 ·rw [h1] at hwi
  by_cases h2:l1.length=l0.length
  ·have hcon:=rowsContain A1 c1 l1 (l0.length:Int) (by simp at h1;omega) (by simp at h1;omega) w hr1
   have t2:((l1.length:Int) != (l0.length:Int))=false:=by rw [bne_eq_false_iff_eq];omega
   rw [h1,decide_eq_true h2,Bool.true_and,Bool.true_and] at hV
   have HW:=am_ hwi
   have HC:=am_ hcon
   have HV:=am_ hV
   clear hwi hcon h1 h2 hr0 hr1 hl0 hl1 hV
   go_enter Try.func39,Try.ntmps39
   go_wp2_with (first | (go_at_call 101;refine (HW.out _).mono ?_;rintro e w' ⟨rfl,⟨m,rfl⟩⟩) | (go_at_call 102;refine (HC.out (w.heap.size+1) _ ?q1 ?q2 ?q3).mono ?_;(case q1=>exact pw_below_drewN (below_alloc (below_alloc (Below.refl _ _) _) _) _);(case q2=>simp);(case q3=>simp);rintro e w' ⟨rfl,hb⟩;have HB:=am_ hb;clear hb))
   go_ret
   rw [HV.out]
   exact ⟨rfl,below_then (pw_below_drewN (below_alloc (below_alloc (Below.refl _ _) _) _) _) (by simp;omega) HB.out⟩
  ·have t2:((l1.length:Int) != (l0.length:Int))=true:=by rw [bne_iff_ne];omega
   rw [h1,decide_eq_false h2,Bool.true_and,Bool.false_and] at hV
   have HW:=am_ hwi
   have HV:=am_ hV
   clear hwi h1 h2 hr0 hr1 hl0 hl1 hV
   go_enter Try.func39,Try.ntmps39
   go_wp2_with (go_at_call 101;refine (HW.out _).mono ?_;rintro e w' ⟨rfl,⟨m,rfl⟩⟩)
   go_ret
   rw [HV.out]
   exact ⟨rfl,pw_below_drewN (below_alloc (below_alloc (Below.refl _ _) _) _) _⟩
 ·have h1':(decide (1≤l0.length) && decide (l0.length≤40))=false:=by simpa using h1
  rw [h1'] at hwi
  rw [h1',Bool.false_and,Bool.false_and] at hV
  have HW:=am_ hwi
  have HV:=am_ hV
  clear hwi h1 h1' hr0 hr1 hl0 hl1 hV
  go_enter Try.func39,Try.ntmps39
  go_wp2_with (go_at_call 101;refine (HW.out _).mono ?_;rintro e w' ⟨rfl,⟨m,rfl⟩⟩)
  go_ret
  rw [HV.out]
  exact ⟨rfl,pw_below_drewN (below_alloc (below_alloc (Below.refl _ _) _) _) _⟩
end Go.Proofs.Ytogamkblkoobkaa.Wk
end
section
namespace Go.Proofs.Ytogamkblkoobkaa.Rk
open Go.RowKit Go.Deep Go.ChangeShapes Go.WideShapes Go.Proofs.YtogamkblkoobkaaW.PrintWords Go.Proofs.YtogamkblkoobkaaW.PrintLast Go.Proofs.YtogamkblkoobkaaW.PrintMore
variable {H:Type} {enc:TypeId × Value→H} {P:Program} {w:World} {base:Nat} {spare:Nat→Bool} {held:Bool} {α:Type}
def wfI (k:IntKind) (n:Int):Prop:=(Lit.int k n).wf=true
end Go.Proofs.Ytogamkblkoobkaa.Rk
end
section
namespace Go.Proofs.Ytogamkblkoobkaa.P
open Go.RowKit Go.Proofs.YtogamkblkoobkaaW.PrintWords Go.Proofs.YtogamkblkoobkaaW.PrintLast Go.Proofs.YtogamkblkoobkaaW.PrintMore
attribute [local go_sem] max2_int min2_int max_two min_two max_three min_three max_four min_four
end Go.Proofs.Ytogamkblkoobkaa.P
end
section
namespace Go.Proofs.Ytogamkblkoobkaa.P
open Go.RowKit Go.Proofs.YtogamkblkoobkaaW.PrintWords Go.Proofs.YtogamkblkoobkaaW.PrintLast Go.Proofs.YtogamkblkoobkaaW.PrintMore
attribute [local go_sem] max2_int min2_int max_two min_two max_three min_three max_four min_four
end Go.Proofs.Ytogamkblkoobkaa.P
end
section
namespace Go.Proofs.Ytogamkblkoobkaa.P
open Go.RowKit Go.Proofs.YtogamkblkoobkaaW.PrintWords Go.Proofs.YtogamkblkoobkaaW.PrintLast Go.Proofs.YtogamkblkoobkaaW.PrintMore
attribute [local go_sem] max2_int min2_int max_two min_two max_three min_three max_four min_four
def impl_IsValidDfa.f (l0_0:List Bool) (l0_1:List (List Int)):Option (Bool):=some (Wk.validD l0_0 l0_1)
theorem impl_IsValidDfa.calls (A0_0:Option Addr) (c0_0:Nat) (l0_0:List Bool) (A0_1:Option Addr) (c0_1:Nat) (l0_1:List (List Int)) (r:Bool) (w:World) (hr0_0:Kd.C Kd.bool w A0_0 l0_0.length l0_0) (hc0_0:l0_0.length≤c0_0) (hr0_1:Kd.C (Kd.slice 3 (Kd.int .i64)) w A0_1 l0_1.length l0_1) (hc0_1:l0_1.length≤c0_1) (h:impl_IsValidDfa.f l0_0 l0_1=some r) :
  Calls Try.prog 39 #[.agg #[.slice A0_0 l0_0.length c0_0,.slice A0_1 l0_1.length c0_1]] w fun e w'=>e = .returned (.bool r)∧Below w.heap.size w w':=by
 obtain rfl:=Option.some.inj h
 exact Wk.validCalls A0_0 c0_0 l0_0 A0_1 c0_1 l0_1 w hr0_0 hr0_1
end Go.Proofs.Ytogamkblkoobkaa.P
end
section
namespace Go.Proofs
open Go.Shelf
def Try.lays137_ren:Go.Shelf.Ren:=⟨fun | 137=>122 | 217=>132 | 266=>134 | n=>n,fun | 9=>9 | 5=>5 | 3=>3 | n=>n,fun | n=>n⟩
theorem Try.lays137:Go.Proofs.Lays.n137 Try.prog Try.lays137_ren:={
 mixed:=by kernel_rfl
 f137:=Try.func122.trans (congrArg some (by kernel_rfl))
 f217:=Try.func132.trans (congrArg some (by kernel_rfl))
 f266:=Try.func134.trans (congrArg some (by kernel_rfl))
 t3:=Try.underlying3
 a3:=Try.isAgg3
 z3:=Try.sizeOf3
 v3:=Try.zeroValue3
 t5:=Try.underlying5
 a5:=Try.isAgg5
 z5:=Try.sizeOf5
 v5:=Try.zeroValue5
 t9:=Try.underlying9
 a9:=Try.isAgg9
 z9:=Try.sizeOf9
 v9:=Try.zeroValue9 }
open Go.RowKit in
theorem Try.strings_IndexByte (s:ByteArray) (c:Int) (w:World) :
 Calls Try.prog 122 #[.string s,.int .u8 c] w fun e w'=>e = .returned (.int .i64 (Lib.indexByte s.data.toList c.toNat.toUInt8))∧w' = w:=Any.strings_IndexByte Try.lays137 s c w
end Go.Proofs
end
