/- Texts of the proof of FnDivided, put together. No condition. -/
import Derived.Test.YtogamkblkoobkaaQFnDivided2
import Derived.Test.YtogamkblkoobkaaQFnDivided9
import Derived.Test.YtogamkblkoobkaaQFnDivided10
import Derived.Test.YtogamkblkoobkaaQFnDivided8
import Derived.Test.YtogamkblkoobkaaQFnDivided7
import Derived.Test.YtogamkblkoobkaaQFnDivided4
import Derived.Test.YtogamkblkoobkaaQFnDivided11
import Derived.Shelf.Abstract
import Derived.Lib.Walk
import Derived.Test.YtogamkblkoobkaaQFnDivided5
set_option linter.unusedVariables false
set_option linter.unusedSimpArgs false
section
namespace Go.Proofs.Ytogamkblkoobkaa.P
open Go.RowKit Go.Proofs.YtogamkblkoobkaaW.PrintWords Go.Proofs.YtogamkblkoobkaaW.PrintLast Go.Proofs.YtogamkblkoobkaaW.PrintMore
attribute [local go_sem] max2_int min2_int max_two min_two max_three min_three max_four min_four
end Go.Proofs.Ytogamkblkoobkaa.P
end
section
namespace Go.Proofs.Ytogamkblkoobkaa.P
open Go.RowKit Go.Proofs.YtogamkblkoobkaaW.PrintWords Go.Proofs.YtogamkblkoobkaaW.PrintLast Go.Proofs.YtogamkblkoobkaaW.PrintMore
attribute [local go_sem] max2_int min2_int max_two min_two max_three min_three max_four min_four
end Go.Proofs.Ytogamkblkoobkaa.P
end
section
namespace Go.Proofs.Ytogamkblkoobkaa.Can
open Go.RowKit Go.Proofs.Ytogamkblkoobkaa Go.Proofs.Ytogamkblkoobkaa.P Go.Proofs.Ytogamkblkoobkaa.Wk Go.Proofs.Ytogamkblkoobkaa.Lg Go.Proofs.Ytogamkblkoobkaa.Pl Go.Proofs.Ytogamkblkoobkaa.Mp Go.Proofs.Ytogamkblkoobkaa.Bf Go.Proofs.Ytogamkblkoobkaa.Mn Go.Proofs.YtogamkblkoobkaaW.PrintWords Go.Proofs.YtogamkblkoobkaaW.PrintLast Go.Proofs.YtogamkblkoobkaaW.PrintMore
theorem acc_lang {a:List Bool} {n:List (List Int)} {s:ByteArray} (hv:validD a n=true) (hs:word s=true):accOf a n s=lang a n 0 (toF (bytesOf s)):=by
 have hl:lets (bytesOf s)=true:=by
  unfold word at hs
  exact (Bool.and_eq_true_iff.1 hs).1
 unfold accOf
 rw [hv,hs,Bool.true_and,Bool.true_and]
 exact (run_toF _ _ hl).symm
section
variable (l0:List Int) (h1:l0.length≤140737488351232)
include h1
theorem draw_product:∃ a n b m k,Ev (fun r=>spec_DrawProductDfa.f r l0) (a,n,b,m,k)∧(a.length≤6∧n.length≤6)∧b.length≤6∧m.length≤6:=by
 obtain ⟨r,hr⟩:=new l0 h1
 obtain ⟨a,n,i1,g1,hev,a1,a2,a3,a4,c1⟩:=draw l0 h1 0 r (cur0 l0) 4 (by omega) (by omega)
 obtain ⟨b,m,i2,g2,hev2,b1,b2,b3,b4,c2⟩:=draw l0 h1 i1 g1 c1 4 (by omega) (by omega)
 obtain ⟨x,i3,g3,e,c3⟩:=once l0 h1 i2 g2 c2 12 (by omega) (by omega)
 by_cases hx:x=true
 ·obtain ⟨b',m',i4,g4,hev4,d1,d2,d3,c4⟩:=bent l0 h1 i3 g3 c3
  obtain ⟨k,i5,g5,e5,m5,c5⟩:=pickInt l0 h1 i4 g4 c4 [6,7,6,7,9] (by simp) (by simp)
  refine ⟨a,n,b',m',k,?_,⟨by omega,by omega⟩,d1,d2⟩
  simp only [spec_DrawProductDfa.f]
  refine Ev.bind hr (Ev.bind hev (Ev.bind hev2 ?_))
  simp only [e,Option.bind_some,if_pos hx]
  refine Ev.bind hev4 ?_
  simp only [e5,Option.bind_some]
  exact Ev.now _
 ·obtain ⟨k,i5,g5,e5,m5,c5⟩:=pickInt l0 h1 i3 g3 c3 [6,7,6,7,9] (by simp) (by simp)
  refine ⟨a,n,b,m,k,?_,⟨by omega,by omega⟩,by omega,by omega⟩
  simp only [spec_DrawProductDfa.f]
  refine Ev.bind hr (Ev.bind hev (Ev.bind hev2 ?_))
  simp only [e,Option.bind_some,if_neg hx,e5]
  exact Ev.now _
end
end Go.Proofs.Ytogamkblkoobkaa.Can
end
section
namespace Go.Proofs.Ytogamkblkoobkaa.P
open Go.RowKit Go.Proofs.YtogamkblkoobkaaW.PrintWords Go.Proofs.YtogamkblkoobkaaW.PrintLast Go.Proofs.YtogamkblkoobkaaW.PrintMore
attribute [local go_sem] max2_int min2_int max_two min_two max_three min_three max_four min_four
def spec_DrawConcatDfa.f (k:Nat) (l0:List Int):Option (List Bool × (List (List Int)) × List Bool × (List (List Int))):=(spec_DrawProductDfa.f k l0).bind fun bt926=>(some (bt926.1,bt926.2.1,bt926.2.2.1,bt926.2.2.2.1))
theorem spec_DrawConcatDfa.mono:∀ a0 k,LeO (spec_DrawConcatDfa.f k a0) (spec_DrawConcatDfa.f (k+1) a0):=by
 intro a0 k
 unfold spec_DrawConcatDfa.f
 repeat' first
  | (with_reducible exact spec_DrawProductDfa.mono _ _)
  | (with_reducible exact LeO.refl _)
  | (with_reducible exact LeO.none _)
  | (with_reducible refine LeO.ite ?_ ?_)
  | (with_reducible refine LeO.bind ?_ (fun _=>?_))
  | exact spec_DrawProductDfa.mono _ _
  | exact LeO.none _
  | refine LeO.ite ?_ ?_
  | refine LeO.bind ?_ (fun _=>?_)
set_option maxHeartbeats 8000000 in
set_option maxRecDepth 100000 in
theorem spec_DrawConcatDfa.calls (k:Nat) (A0:Option Addr) (c0:Nat) (l0:List Int) (r1:List Bool) (r2:List (List Int)) (r3:List Bool) (r4:List (List Int)) (w:World) (hr0:Kd.C (Kd.int .u8) w A0 l0.length l0) (hc0:l0.length≤c0) (h:spec_DrawConcatDfa.f k l0=some (r1,r2,r3,r4)) :
  Calls Try.prog 44 #[.slice A0 l0.length c0] w fun e w'=>∃ v0_ v1_ v2_ v3_:Value,e = .returned (.tuple #[.agg #[v0_,v1_],.agg #[v2_,v3_]])∧Kd.R Kd.bool 4 w' w.heap.size (fun k_=>some k_ ≠ (v2_:Value).ownBlock) v0_ r1∧Kd.S (Kd.slice 3 (Kd.int .i64)) 67 w' w.heap.size (fun k_=>some k_ ≠ (v3_:Value).ownBlock) v1_ r2∧Kd.R Kd.bool 4 w' w.heap.size (fun k_=>some k_ ≠ (v0_:Value).ownBlock) v2_ r3∧Kd.S (Kd.slice 3 (Kd.int .i64)) 67 w' w.heap.size (fun k_=>some k_ ≠ (v1_:Value).ownBlock) v3_ r4∧Below w.heap.size w w':=by
 have hu27:=Try.underlying27
 have HR0:=am_ hr0
 have HC0:=am_ hc0
 clear hr0 hc0
 have HB:=am_ (Below.refl w.heap.size w)
 have H:((spec_DrawProductDfa.f k l0).bind fun bt926=>(some (bt926.1,bt926.2.1,bt926.2.2.1,bt926.2.2.2.1)))=some (r1,r2,r3,r4):=h
 clear h
 replace H:=Option.bind_eq_some_iff.mp H
 obtain ⟨⟨ah,ak,ai,al,aP⟩,A20,H⟩:=H
 replace H:(some (ah,ak,ai,al))=some (r1,r2,r3,r4):=H
 have A2:=am_ A20
 clear A20
 simp only [Option.some.injEq,Prod.mk.injEq] at H
 obtain ⟨rfl,rfl,rfl,rfl⟩:=H
 go_enter Try.func44,Try.ntmps44
 try go_wp2_with (first | ((with_reducible refine gate_dst (N:=2) rfl ?_);refine box_event ?hg (N:=2) ?hd (cs:=#[.slice none 0 0,.slice none 0 0]) (t:=27) ?hr ?_;(case hd=>rfl);(case hg=>rfl);(case hr=>first | (go_simp;done) | (go_simp;rfl));intro ae hg w3 hbox hb;replace ad:=am_ (hbox);replace bb:=am_ ((by rw [hg];exact (below_size (b0_ HB.out)):w.heap.size≤ae));replace au:=am_ ((by rw [hg];exact (below_size (b0_ HB.out)):w.heap.size≤ae));replace HB:=am_ (below_step (b0_ HB.out) hb);clear hb hbox hg) | ((with_reducible refine gate_dst (N:=3) rfl ?_);refine box_event ?hg (N:=3) ?hd (cs:=#[.slice none 0 0,.slice none 0 0]) (t:=27) ?hr ?_;(case hd=>rfl);(case hg=>rfl);(case hr=>first | (go_simp;done) | (go_simp;rfl));intro af hg w4 hbox hb;have n0_:=am_ (blk_below (rb_ ad.out) hb);have n1_:=am_ (below_step (b1_ HB.out au.out) hb);have n2_:=am_ (hbox);have n3_:=am_ ((by rw [hg];exact (below_size (b1_ HB.out au.out)):w.heap.size≤af));have n4_:=am_ ((by rw [hg];exact (below_size (b1_ HB.out au.out)):w.heap.size≤af));have n5_:=am_ ((by rw [hg];exact Nat.ne_of_lt (blk_lt (rb_ ad.out)):ae ≠ af));have n6_:=am_ ((by rw [hg];exact Nat.ne_of_gt (blk_lt (rb_ ad.out)):af ≠ ae));clear ad;clear HB;have ad:=n0_;have HB:=n1_;have ag:=n2_;have bc:=n3_;have aE:=n4_;have aF:=n5_;have aG:=n6_;clear n0_ n1_ n2_ n3_ n4_ n5_ n6_;clear hb hbox hg) | ((with_reducible refine gate_callee (f:=37) rfl ?_);refine gL_ (some 9) Try.func37 #[.slice A0 l0.length c0] ?_;(with_reducible refine (spec_DrawProductDfa.calls k _ _ l0 ah ak ai al aP _ ?side1 ?side2 A2.out).mono ?_);(case side1=>exact rc_ (Kd.C_below HR0.out HB.out));(case side2=>exact HC0.out);rintro e w5 ⟨bn,bo,bp,bq,rfl,ho0,ho1,ho2,ho3,hb⟩;refine ⟨_,rfl,?_⟩;have n0_:=am_ (Kd.R_lower ho0 (below_size (b2_ HB.out au.out aE.out)));have n1_:=am_ (Kd.S_lower ho1 (below_size (b2_ HB.out au.out aE.out)));have n2_:=am_ (Kd.R_lower ho2 (below_size (b2_ HB.out au.out aE.out)));have n3_:=am_ (Kd.S_lower ho3 (below_size (b2_ HB.out au.out aE.out)));have n4_:=am_ (blk_below (rb_ ad.out) hb);have n5_:=am_ (blk_below (rb_ ag.out) hb);have n6_:=am_ (below_step (b2_ HB.out au.out aE.out) hb);clear ad;clear ag;clear HB;have aw:=n0_;have ax:=n1_;have ay:=n2_;have az:=n3_;have ad:=n4_;have ag:=n5_;have HB:=n6_;clear n0_ n1_ n2_ n3_ n4_ n5_ n6_;(try clear hb);(try clear hb2);(try clear hk);(try clear hi);(try clear ho0);(try clear ho1);(try clear ho2);(try clear ho3)) | ((with_reducible refine gate_dst (N:=4) rfl ?_);refine box_event ?hg (N:=4) ?hd (cs:=#[.slice none 0 0,.slice none 0 0]) (t:=27) ?hr ?_;(case hd=>rfl);(case hg=>rfl);(case hr=>first | (go_simp;done) | (go_simp;rfl));intro aa hg w6 hbox hb;have n0_:=am_ (Kd.R_below (rr_ aw.out) hb);have n1_:=am_ (Kd.S_below (rs_ ax.out) hb);have n2_:=am_ (Kd.R_below (rr_ ay.out) hb);have n3_:=am_ (Kd.S_below (rs_ az.out) hb);have n4_:=am_ (blk_below (rb_ ad.out) hb);have n5_:=am_ (blk_below (rb_ ag.out) hb);have n6_:=am_ (below_step (b2_ HB.out au.out aE.out) hb);have n7_:=am_ (hbox);have n8_:=am_ ((by rw [hg];exact (below_size (b2_ HB.out au.out aE.out)):w.heap.size≤aa));have n9_:=am_ ((by rw [hg];exact (below_size (b2_ HB.out au.out aE.out)):w.heap.size≤aa));have n10_:=am_ ((by rw [hg];exact Nat.ne_of_lt (blk_lt (rb_ ad.out)):ae ≠ aa));have n11_:=am_ ((by rw [hg];exact Nat.ne_of_gt (blk_lt (rb_ ad.out)):aa ≠ ae));have n12_:=am_ ((by rw [hg];exact Nat.ne_of_lt (blk_lt (rb_ ag.out)):af ≠ aa));have n13_:=am_ ((by rw [hg];exact Nat.ne_of_gt (blk_lt (rb_ ag.out)):aa ≠ af));clear aw;clear ax;clear ay;clear az;clear ad;clear ag;clear HB;have aw:=n0_;have ax:=n1_;have ay:=n2_;have az:=n3_;have ad:=n4_;have ag:=n5_;have HB:=n6_;have aj:=n7_;have bd:=n8_;have aN:=n9_;have aH:=n10_;have aA:=n11_;have aI:=n12_;have aB:=n13_;clear n0_ n1_ n2_ n3_ n4_ n5_ n6_ n7_ n8_ n9_ n10_ n11_ n12_ n13_;clear hb hbox hg) | ((with_reducible refine gate_dst (N:=5) rfl ?_);refine box_event ?hg (N:=5) ?hd (cs:=#[.slice none 0 0,.slice none 0 0]) (t:=27) ?hr ?_;(case hd=>rfl);(case hg=>rfl);(case hr=>first | (go_simp;done) | (go_simp;rfl));intro ab hg w7 hbox hb;have n0_:=am_ (Kd.R_below (rr_ aw.out) hb);have n1_:=am_ (Kd.S_below (rs_ ax.out) hb);have n2_:=am_ (Kd.R_below (rr_ ay.out) hb);have n3_:=am_ (Kd.S_below (rs_ az.out) hb);have n4_:=am_ (blk_below (rb_ ad.out) hb);have n5_:=am_ (blk_below (rb_ ag.out) hb);have n6_:=am_ (blk_below (rb_ aj.out) hb);have n7_:=am_ (below_step (b3_ HB.out au.out aE.out aN.out) hb);have n8_:=am_ (hbox);have n9_:=am_ ((by rw [hg];exact (below_size (b3_ HB.out au.out aE.out aN.out)):w.heap.size≤ab));have n10_:=am_ ((by rw [hg];exact (below_size (b3_ HB.out au.out aE.out aN.out)):w.heap.size≤ab));have n11_:=am_ ((by rw [hg];exact Nat.ne_of_lt (blk_lt (rb_ ad.out)):ae ≠ ab));have n12_:=am_ ((by rw [hg];exact Nat.ne_of_gt (blk_lt (rb_ ad.out)):ab ≠ ae));have n13_:=am_ ((by rw [hg];exact Nat.ne_of_lt (blk_lt (rb_ ag.out)):af ≠ ab));have n14_:=am_ ((by rw [hg];exact Nat.ne_of_gt (blk_lt (rb_ ag.out)):ab ≠ af));have n15_:=am_ ((by rw [hg];exact Nat.ne_of_lt (blk_lt (rb_ aj.out)):aa ≠ ab));have n16_:=am_ ((by rw [hg];exact Nat.ne_of_gt (blk_lt (rb_ aj.out)):ab ≠ aa));clear aw;clear ax;clear ay;clear az;clear ad;clear ag;clear aj;clear HB;have aw:=n0_;have ax:=n1_;have ay:=n2_;have az:=n3_;have ad:=n4_;have ag:=n5_;have aj:=n6_;have HB:=n7_;have av:=n8_;have be:=n9_;have aO:=n10_;have aJ:=n11_;have aC:=n12_;have aK:=n13_;have aD:=n14_;have aL:=n15_;have aM:=n16_;clear n0_ n1_ n2_ n3_ n4_ n5_ n6_ n7_ n8_ n9_ n10_ n11_ n12_ n13_ n14_ n15_ n16_;clear hb hbox hg;obtain ⟨Ao8,co8,eo8⟩:=Kd.R_slice aw.out;subst eo8;have br:=aA.out;have bs:=aH.out;have bf:=aB.out;have bg:=aI.out;have bh:=aL.out;have bi:=aM.out;have aT:=ck_ (v:=(.slice none 0 0)) aj 0 rfl;have aU:=ck_ (v:=(.slice none 0 0)) aj 1 rfl;have aV:=blk_frozen aj.out 0;have aW:=blk_frozen aj.out 1;obtain ⟨ao,ap,aQ⟩:=Kd.S_slice ax.out;subst aQ;obtain ⟨am,an,aR⟩:=Kd.R_slice ay.out;subst aR;have bj:=aC.out;have bk:=aJ.out;have bl:=aD.out;have bm:=aK.out;have aX:=ck_ (v:=(.slice none 0 0)) av 0 rfl;have aY:=ck_ (v:=(.slice none 0 0)) av 1 rfl;have aZ:=blk_frozen av.out 0;have ba:=blk_frozen av.out 1;obtain ⟨aq,ar,aS⟩:=Kd.S_slice az.out;subst aS))
 have n0_:Aside0 (Kd.R Kd.bool 4 ((((w7.setCell ⟨aa,0,none⟩ (.slice Ao8 ah.length co8)).setCell ⟨aa,1,none⟩ (.slice ao ak.length ap)).setCell ⟨ab,0,none⟩ (.slice am ai.length an)).setCell ⟨ab,1,none⟩ (.slice aq al.length ar)) w.heap.size (fun k_=>some k_ ≠ (.slice am ai.length an:Value).ownBlock) (.slice Ao8 ah.length co8) ah):=⟨by refine rr_ ?_;exact Kd.R_mono (Kd.R_far (p:=⟨ab,1,none⟩) (Kd.R_far (p:=⟨ab,0,none⟩) (Kd.R_far (p:=⟨aa,1,none⟩) (Kd.R_far (p:=⟨aa,0,none⟩) (Kd.R_types (Kd.R_types aw.out aj.out (by decide)) av.out (by decide)) (fun _ hk=>hk.1.2) (.slice Ao8 ah.length co8)) (fun _ hk=>hk.1.2) (.slice ao ak.length ap)) (fun _ hk=>hk.2) (.slice am ai.length an)) (fun _ hk=>hk.2) (.slice aq al.length ar)) (fun _ hk=>hk.1.1)⟩
 have n1_:Aside0 (Kd.S (Kd.slice 3 (Kd.int .i64)) 67 ((((w7.setCell ⟨aa,0,none⟩ (.slice Ao8 ah.length co8)).setCell ⟨aa,1,none⟩ (.slice ao ak.length ap)).setCell ⟨ab,0,none⟩ (.slice am ai.length an)).setCell ⟨ab,1,none⟩ (.slice aq al.length ar)) w.heap.size (fun k_=>some k_ ≠ (.slice aq al.length ar:Value).ownBlock) (.slice ao ak.length ap) ak):=⟨by refine rs_ ?_;exact Kd.S_mono (Kd.S_far (p:=⟨ab,1,none⟩) (Kd.S_far (p:=⟨ab,0,none⟩) (Kd.S_far (p:=⟨aa,1,none⟩) (Kd.S_far (p:=⟨aa,0,none⟩) (Kd.S_types (Kd.S_types ax.out aj.out (by decide)) av.out (by decide)) (fun _ hk=>hk.1.2) (.slice Ao8 ah.length co8)) (fun _ hk=>hk.1.2) (.slice ao ak.length ap)) (fun _ hk=>hk.2) (.slice am ai.length an)) (fun _ hk=>hk.2) (.slice aq al.length ar)) (fun _ hk=>hk.1.1)⟩
 have n2_:Aside0 (Kd.R Kd.bool 4 ((((w7.setCell ⟨aa,0,none⟩ (.slice Ao8 ah.length co8)).setCell ⟨aa,1,none⟩ (.slice ao ak.length ap)).setCell ⟨ab,0,none⟩ (.slice am ai.length an)).setCell ⟨ab,1,none⟩ (.slice aq al.length ar)) w.heap.size (fun k_=>some k_ ≠ (.slice Ao8 ah.length co8:Value).ownBlock) (.slice am ai.length an) ai):=⟨by refine rr_ ?_;exact Kd.R_mono (Kd.R_far (p:=⟨ab,1,none⟩) (Kd.R_far (p:=⟨ab,0,none⟩) (Kd.R_far (p:=⟨aa,1,none⟩) (Kd.R_far (p:=⟨aa,0,none⟩) (Kd.R_types (Kd.R_types ay.out aj.out (by decide)) av.out (by decide)) (fun _ hk=>hk.1.2) (.slice Ao8 ah.length co8)) (fun _ hk=>hk.1.2) (.slice ao ak.length ap)) (fun _ hk=>hk.2) (.slice am ai.length an)) (fun _ hk=>hk.2) (.slice aq al.length ar)) (fun _ hk=>hk.1.1)⟩
 have n3_:Aside0 (Kd.S (Kd.slice 3 (Kd.int .i64)) 67 ((((w7.setCell ⟨aa,0,none⟩ (.slice Ao8 ah.length co8)).setCell ⟨aa,1,none⟩ (.slice ao ak.length ap)).setCell ⟨ab,0,none⟩ (.slice am ai.length an)).setCell ⟨ab,1,none⟩ (.slice aq al.length ar)) w.heap.size (fun k_=>some k_ ≠ (.slice ao ak.length ap:Value).ownBlock) (.slice aq al.length ar) al):=⟨by refine rs_ ?_;exact Kd.S_mono (Kd.S_far (p:=⟨ab,1,none⟩) (Kd.S_far (p:=⟨ab,0,none⟩) (Kd.S_far (p:=⟨aa,1,none⟩) (Kd.S_far (p:=⟨aa,0,none⟩) (Kd.S_types (Kd.S_types az.out aj.out (by decide)) av.out (by decide)) (fun _ hk=>hk.1.2) (.slice Ao8 ah.length co8)) (fun _ hk=>hk.1.2) (.slice ao ak.length ap)) (fun _ hk=>hk.2) (.slice am ai.length an)) (fun _ hk=>hk.2) (.slice aq al.length ar)) (fun _ hk=>hk.1.1)⟩
 have n4_:Aside0 (((((w7.setCell ⟨aa,0,none⟩ (.slice Ao8 ah.length co8)).setCell ⟨aa,1,none⟩ (.slice ao ak.length ap)).setCell ⟨ab,0,none⟩ (.slice am ai.length an)).setCell ⟨ab,1,none⟩ (.slice aq al.length ar)).heap[ae]? = some (.cells #[.slice none 0 0,.slice none 0 0] 27 (0,0))):=⟨by refine rb_ ?_;refine blk_far ?_ aJ.out _;refine rb_ ?_;refine blk_far ?_ aJ.out _;refine rb_ ?_;refine blk_far ?_ aH.out _;refine rb_ ?_;refine blk_far ?_ aH.out _;refine rb_ ?_;exact ad.out⟩
 have n5_:Aside0 (((((w7.setCell ⟨aa,0,none⟩ (.slice Ao8 ah.length co8)).setCell ⟨aa,1,none⟩ (.slice ao ak.length ap)).setCell ⟨ab,0,none⟩ (.slice am ai.length an)).setCell ⟨ab,1,none⟩ (.slice aq al.length ar)).heap[af]? = some (.cells #[.slice none 0 0,.slice none 0 0] 27 (0,0))):=⟨by refine rb_ ?_;refine blk_far ?_ aK.out _;refine rb_ ?_;refine blk_far ?_ aK.out _;refine rb_ ?_;refine blk_far ?_ aI.out _;refine rb_ ?_;refine blk_far ?_ aI.out _;refine rb_ ?_;exact ag.out⟩
 have n6_:Aside0 (((((w7.setCell ⟨aa,0,none⟩ (.slice Ao8 ah.length co8)).setCell ⟨aa,1,none⟩ (.slice ao ak.length ap)).setCell ⟨ab,0,none⟩ (.slice am ai.length an)).setCell ⟨ab,1,none⟩ (.slice aq al.length ar)).heap[aa]? = some (.cells #[.slice Ao8 ah.length co8,.slice ao ak.length ap] 27 (0,0))):=⟨by refine rb_ ?_;refine blk_far ?_ aL.out _;refine rb_ ?_;refine blk_far ?_ aL.out _;refine rb_ ?_;refine blk_put (cs:=#[.slice Ao8 ah.length co8,.slice none 0 0]) ?_ 1 _ rfl;refine rb_ ?_;refine blk_put (cs:=#[.slice none 0 0,.slice none 0 0]) ?_ 0 _ rfl;refine rb_ ?_;exact aj.out⟩
 have n7_:Aside0 (((((w7.setCell ⟨aa,0,none⟩ (.slice Ao8 ah.length co8)).setCell ⟨aa,1,none⟩ (.slice ao ak.length ap)).setCell ⟨ab,0,none⟩ (.slice am ai.length an)).setCell ⟨ab,1,none⟩ (.slice aq al.length ar)).heap[ab]? = some (.cells #[.slice am ai.length an,.slice aq al.length ar] 27 (0,0))):=⟨by refine rb_ ?_;refine blk_put (cs:=#[.slice am ai.length an,.slice none 0 0]) ?_ 1 _ rfl;refine rb_ ?_;refine blk_put (cs:=#[.slice none 0 0,.slice none 0 0]) ?_ 0 _ rfl;refine rb_ ?_;refine blk_far ?_ aM.out _;refine rb_ ?_;refine blk_far ?_ aM.out _;refine rb_ ?_;exact av.out⟩
 have n8_:Aside0 (Below w.heap.size w ((((w7.setCell ⟨aa,0,none⟩ (.slice Ao8 ah.length co8)).setCell ⟨aa,1,none⟩ (.slice ao ak.length ap)).setCell ⟨ab,0,none⟩ (.slice am ai.length an)).setCell ⟨ab,1,none⟩ (.slice aq al.length ar))):=⟨by repeat (first | (with_reducible first | exact HB.out | apply below_alloc | apply pw_below_drewN | apply below_drew1 | refine below_set ?_ au.out | refine below_set ?_ aE.out | refine below_set ?_ aN.out | refine below_set ?_ aO.out) | exact HB.out)⟩
 (try clear aw)
 (try clear ax)
 (try clear ay)
 (try clear az)
 (try clear ad)
 (try clear ag)
 (try clear aj)
 (try clear av)
 (try clear HB)
 generalize ((((w7.setCell ⟨aa,0,none⟩ (.slice Ao8 ah.length co8)).setCell ⟨aa,1,none⟩ (.slice ao ak.length ap)).setCell ⟨ab,0,none⟩ (.slice am ai.length an)).setCell ⟨ab,1,none⟩ (.slice aq al.length ar))=w19 at n0_ n1_ n2_ n3_ n4_ n5_ n6_ n7_ n8_ ⊢
 have aw:=n0_;have ax:=n1_;have ay:=n2_;have az:=n3_;have ad:=n4_;have ag:=n5_;have aj:=n6_;have av:=n7_;have HB:=n8_
 clear n0_ n1_ n2_ n3_ n4_ n5_ n6_ n7_ n8_
 replace aw:=am_ (Kd.R_drew aw.out)
 replace ax:=am_ (Kd.S_drew ax.out)
 replace ay:=am_ (Kd.R_drew ay.out)
 replace az:=am_ (Kd.S_drew az.out)
 replace ad:=am_ (blk_drew ad.out)
 replace ag:=am_ (blk_drew ag.out)
 replace aj:=am_ (blk_drew aj.out)
 replace av:=am_ (blk_drew av.out)
 replace HB:=am_ (below_drew1 HB.out)
 refine start_ (n:=4) (S:=fun w'=>w'.cell? ⟨aa,0,none⟩=some (.slice Ao8 ah.length co8)∧w'.cell? ⟨aa,1,none⟩=some (.slice ao ak.length ap)∧w'.cell? ⟨ab,0,none⟩=some (.slice am ai.length an)∧w'.cell? ⟨ab,1,none⟩=some (.slice aq al.length ar)) (ds:=[]) #[false,false,false,false] (by kernel_rfl) rfl rfl ⟨(blk_cell aj.out 0).trans rfl,(blk_cell aj.out 1).trans rfl,(blk_cell av.out 0).trans rfl,(blk_cell av.out 1).trans rfl⟩ (fun hHeld=>?_)
 generalize w19.drew=w20 at aw ax ay az ad ag aj av HB hHeld ⊢
 refine take_ (i:=0) (N:=some 13) (v:=?_) (a':=?_) #[true,false,false,false] rfl rfl (by kernel_rfl) (fun _ _ _ h=>h) (Or.inl ⟨by rfl,?_⟩) hHeld ?_ ?_
 rotate_left;(focus (rintro w' ⟨s0,s1,s2,s3⟩;go_simp;with_reducible rfl));rotate_left;(focus (simp only [pn_,sz_,ss_,i64_w,i32_w];rfl))
 refine take_ (i:=1) (N:=some 14) (v:=?_) (a':=?_) #[true,true,false,false] rfl rfl (by kernel_rfl) (fun _ _ _ h=>h) (Or.inl ⟨by rfl,?_⟩) hHeld ?_ ?_
 rotate_left;(focus (rintro w' ⟨s0,s1,s2,s3⟩;go_simp;with_reducible rfl));rotate_left;(focus (simp only [pn_,sz_,ss_,i64_w,i32_w];rfl))
 refine one_ (i:=2) (N:=none) #[true,true,true,false] rfl rfl (by kernel_rfl) (by decide) (fun K hK=>?_)
 have hs21:w20.cell? ⟨ae,0,none⟩=some (.slice none 0 0):=(blk_cell ad.out 0).trans rfl
 have hfs21:=blk_frozen ad.out 0
 have hns21_1:=aG.out
 have hns21_2:=aA.out
 have hns21_3:=aC.out
 have hms21_1:=aF.out
 have hms21_2:=aH.out
 have hms21_3:=aJ.out
 have hs22:w20.cell? ⟨ae,1,none⟩=some (.slice none 0 0):=(blk_cell ad.out 1).trans rfl
 have hfs22:=blk_frozen ad.out 1
 have hns22_1:=aG.out
 have hns22_2:=aA.out
 have hns22_3:=aC.out
 have hms22_1:=aF.out
 have hms22_2:=aH.out
 have hms22_3:=aJ.out
 refine skip_ (w1:=?_) (by rfl) rfl ?_ ?_
 rotate_left
 ·go_simp
  rfl
 refine hK.out _ _ ⟨((cell_far (p:=⟨ae,_,none⟩) aA.out _).trans (((cell_far (p:=⟨ae,_,none⟩) aA.out _).trans (hHeld.1)))),((cell_far (p:=⟨ae,_,none⟩) aA.out _).trans (((cell_far (p:=⟨ae,_,none⟩) aA.out _).trans (hHeld.2.1)))),((cell_far (p:=⟨ae,_,none⟩) aC.out _).trans (((cell_far (p:=⟨ae,_,none⟩) aC.out _).trans (hHeld.2.2.1)))),((cell_far (p:=⟨ae,_,none⟩) aC.out _).trans (((cell_far (p:=⟨ae,_,none⟩) aC.out _).trans (hHeld.2.2.2))))⟩ (fun hHeld=>?_)
 clear hK K
 refine one_ (i:=3) (N:=none) #[true,true,true,true] rfl rfl (by kernel_rfl) (by decide) (fun K hK=>?_)
 have hs23:w20.cell? ⟨af,0,none⟩=some (.slice none 0 0):=(blk_cell ag.out 0).trans rfl
 have hfs23:=blk_frozen ag.out 0
 have hns23_0:=aF.out
 have hns23_2:=aB.out
 have hns23_3:=aD.out
 have hms23_0:=aG.out
 have hms23_2:=aI.out
 have hms23_3:=aK.out
 have hs24:w20.cell? ⟨af,1,none⟩=some (.slice none 0 0):=(blk_cell ag.out 1).trans rfl
 have hfs24:=blk_frozen ag.out 1
 have hns24_0:=aF.out
 have hns24_2:=aB.out
 have hns24_3:=aD.out
 have hms24_0:=aG.out
 have hms24_2:=aI.out
 have hms24_3:=aK.out
 refine skip_ (w1:=?_) (by rfl) rfl ?_ ?_
 rotate_left
 ·go_simp
  rfl
 refine hK.out _ _ ⟨((cell_far (p:=⟨af,_,none⟩) aB.out _).trans (((cell_far (p:=⟨af,_,none⟩) aB.out _).trans (hHeld.1)))),((cell_far (p:=⟨af,_,none⟩) aB.out _).trans (((cell_far (p:=⟨af,_,none⟩) aB.out _).trans (hHeld.2.1)))),((cell_far (p:=⟨af,_,none⟩) aD.out _).trans (((cell_far (p:=⟨af,_,none⟩) aD.out _).trans (hHeld.2.2.1)))),((cell_far (p:=⟨af,_,none⟩) aD.out _).trans (((cell_far (p:=⟨af,_,none⟩) aD.out _).trans (hHeld.2.2.2))))⟩ (fun hHeld=>?_)
 clear hK K
 refine done_ (by kernel_rfl) ?_
 try go_wp2
 refine bodyPost_ret (results_cc rfl _ _ ae af 27 27 #[.slice Ao8 ah.length co8,.slice ao ak.length ap] #[.slice am ai.length an,.slice aq al.length ar] (0,0) (0,0) _ _ rfl (by refine rb_ ?_;refine blk_far ?_ aF.out _;refine rb_ ?_;refine blk_far ?_ aF.out _;refine rb_ ?_;refine blk_put (cs:=#[.slice Ao8 ah.length co8,.slice none 0 0]) ?_ 1 _ rfl;refine rb_ ?_;refine blk_put (cs:=#[.slice none 0 0,.slice none 0 0]) ?_ 0 _ rfl;refine rb_ ?_;exact ad.out) Try.underlying27 rfl (by kernel_rfl) rfl (by refine rb_ ?_;refine blk_put (cs:=#[.slice am ai.length an,.slice none 0 0]) ?_ 1 _ rfl;refine rb_ ?_;refine blk_put (cs:=#[.slice none 0 0,.slice none 0 0]) ?_ 0 _ rfl;refine rb_ ?_;refine blk_far ?_ aG.out _;refine rb_ ?_;refine blk_far ?_ aG.out _;refine rb_ ?_;exact ag.out) Try.underlying27 rfl (by kernel_rfl)) rfl ?_
 exact ⟨_,_,_,_,by first | rfl | (simp [errW_none,errW_some] <;> rfl) | (simp [*,errW_none,errW_some] <;> rfl),by refine rr_ ?_;exact Kd.R_mono (Kd.R_far (p:=⟨af,1,none⟩) (Kd.R_far (p:=⟨af,0,none⟩) (Kd.R_far (p:=⟨ae,1,none⟩) (Kd.R_far (p:=⟨ae,0,none⟩) (Kd.R_types (Kd.R_types aw.out ad.out (by decide)) ag.out (by decide)) (fun _ hk=>hk.1.2) (.slice Ao8 ah.length co8)) (fun _ hk=>hk.1.2) (.slice ao ak.length ap)) (fun _ hk=>hk.2) (.slice am ai.length an)) (fun _ hk=>hk.2) (.slice aq al.length ar)) (fun _ hk=>hk.1.1),by refine rs_ ?_;exact Kd.S_mono (Kd.S_far (p:=⟨af,1,none⟩) (Kd.S_far (p:=⟨af,0,none⟩) (Kd.S_far (p:=⟨ae,1,none⟩) (Kd.S_far (p:=⟨ae,0,none⟩) (Kd.S_types (Kd.S_types ax.out ad.out (by decide)) ag.out (by decide)) (fun _ hk=>hk.1.2) (.slice Ao8 ah.length co8)) (fun _ hk=>hk.1.2) (.slice ao ak.length ap)) (fun _ hk=>hk.2) (.slice am ai.length an)) (fun _ hk=>hk.2) (.slice aq al.length ar)) (fun _ hk=>hk.1.1),by refine rr_ ?_;exact Kd.R_mono (Kd.R_far (p:=⟨af,1,none⟩) (Kd.R_far (p:=⟨af,0,none⟩) (Kd.R_far (p:=⟨ae,1,none⟩) (Kd.R_far (p:=⟨ae,0,none⟩) (Kd.R_types (Kd.R_types ay.out ad.out (by decide)) ag.out (by decide)) (fun _ hk=>hk.1.2) (.slice Ao8 ah.length co8)) (fun _ hk=>hk.1.2) (.slice ao ak.length ap)) (fun _ hk=>hk.2) (.slice am ai.length an)) (fun _ hk=>hk.2) (.slice aq al.length ar)) (fun _ hk=>hk.1.1),by refine rs_ ?_;exact Kd.S_mono (Kd.S_far (p:=⟨af,1,none⟩) (Kd.S_far (p:=⟨af,0,none⟩) (Kd.S_far (p:=⟨ae,1,none⟩) (Kd.S_far (p:=⟨ae,0,none⟩) (Kd.S_types (Kd.S_types az.out ad.out (by decide)) ag.out (by decide)) (fun _ hk=>hk.1.2) (.slice Ao8 ah.length co8)) (fun _ hk=>hk.1.2) (.slice ao ak.length ap)) (fun _ hk=>hk.2) (.slice am ai.length an)) (fun _ hk=>hk.2) (.slice aq al.length ar)) (fun _ hk=>hk.1.1),by repeat (first | (with_reducible first | exact HB.out | apply below_alloc | apply pw_below_drewN | apply below_drew1 | refine below_set ?_ au.out | refine below_set ?_ aE.out | refine below_set ?_ aN.out | refine below_set ?_ aO.out) | exact HB.out)⟩
end Go.Proofs.Ytogamkblkoobkaa.P
end
section
namespace Go.Proofs.Ytogamkblkoobkaa.P
open Go.RowKit Go.Proofs.YtogamkblkoobkaaW.PrintWords Go.Proofs.YtogamkblkoobkaaW.PrintLast Go.Proofs.YtogamkblkoobkaaW.PrintMore
attribute [local go_sem] max2_int min2_int max_two min_two max_three min_three max_four min_four
def spec_DrawStarDfa.f (k:Nat) (l0:List Int):Option (List Bool × (List (List Int))):=(spec_l1New.f k l0).bind fun bt942=>((spec_l1Once.f bt942.1 bt942.2.1 bt942.2.2 12).bind fun bt946=>(if bt946.1=true then ((spec_l5Bent.f k bt942.1 bt946.2.1 bt946.2.2).bind fun bt949=>(some (bt949.1,bt949.2.1))) else ((spec_l5Draw.f k bt942.1 bt946.2.1 bt946.2.2 4).bind fun bt957=>(some (bt957.1,bt957.2.1)))))
theorem spec_DrawStarDfa.mono:∀ a0 k,LeO (spec_DrawStarDfa.f k a0) (spec_DrawStarDfa.f (k+1) a0):=by
 intro a0 k
 unfold spec_DrawStarDfa.f
 repeat' first
  | (with_reducible exact spec_l1New.mono _ _)
  | (with_reducible exact spec_l5Bent.mono _ _ _ _)
  | (with_reducible exact spec_l5Draw.mono _ _ _ _ _)
  | (with_reducible exact LeO.refl _)
  | (with_reducible exact LeO.none _)
  | (with_reducible refine LeO.ite ?_ ?_)
  | (with_reducible refine LeO.bind ?_ (fun _=>?_))
  | exact spec_l1New.mono _ _
  | exact spec_l5Bent.mono _ _ _ _
  | exact spec_l5Draw.mono _ _ _ _ _
  | exact LeO.none _
  | refine LeO.ite ?_ ?_
  | refine LeO.bind ?_ (fun _=>?_)
theorem zp57_0_ {p q g1:Prop} (h:p) (h1:g1) (c:p→g1→q:=by intro h_ h1_;repeat (first | (with_reducible first | exact h_ | apply below_alloc | apply pw_below_drewN | apply below_drew1 | refine below_set ?_ h1_) | exact h_)):q:=c h h1
theorem zp57_1_ {p q g1:Prop} (h:p) (h1:g1) (c:p→g1→q:=by intro h_ h1_;repeat (first | (with_reducible first | exact h_ | apply IsS125.alloc | apply IsS125.drewN | apply IsS125.drew | apply IsS125.set_1 | apply IsS125.set_2 | refine IsS125.far ?_ h1_ _) | exact h_)):q:=c h h1
theorem zp57_2_ {p q g1 g2:Prop} (h:p) (h1:g1) (h2:g2) (c:p→g1→g2→q:=by intro h_ h1_ h2_;repeat (first | (with_reducible first | exact h_ | apply below_alloc | apply pw_below_drewN | apply below_drew1 | refine below_set ?_ h1_ | refine below_set ?_ h2_) | exact h_)):q:=c h h1 h2
set_option maxHeartbeats 8000000 in
set_option maxRecDepth 100000 in
theorem spec_DrawStarDfa.calls (k:Nat) (A0:Option Addr) (c0:Nat) (l0:List Int) (r1:List Bool) (r2:List (List Int)) (w:World) (hr0:Kd.C (Kd.int .u8) w A0 l0.length l0) (hc0:l0.length≤c0) (h:spec_DrawStarDfa.f k l0=some (r1,r2)) :
  Calls Try.prog 45 #[.slice A0 l0.length c0] w fun e w'=>∃ v0_ v1_:Value,e = .returned (.agg #[v0_,v1_])∧Kd.R Kd.bool 4 w' w.heap.size (fun _=>True) v0_ r1∧Kd.S (Kd.slice 3 (Kd.int .i64)) 67 w' w.heap.size (fun _=>True) v1_ r2∧Below w.heap.size w w':=by
 have hu27:=Try.underlying27
 have HR0:=am_ hr0
 have HC0:=am_ hc0
 clear hr0 hc0
 have HB:=am_ (Below.refl w.heap.size w)
 have H:((spec_l1New.f k l0).bind fun bt942=>((spec_l1Once.f bt942.1 bt942.2.1 bt942.2.2 12).bind fun bt946=>(if bt946.1=true then ((spec_l5Bent.f k bt942.1 bt946.2.1 bt946.2.2).bind fun bt949=>(some (bt949.1,bt949.2.1))) else ((spec_l5Draw.f k bt942.1 bt946.2.1 bt946.2.2 4).bind fun bt957=>(some (bt957.1,bt957.2.1))))))=some (r1,r2):=h
 clear h
 replace H:=Option.bind_eq_some_iff.mp H
 obtain ⟨⟨au,aR,aS⟩,A20,H⟩:=H
 have A2:=am_ A20
 clear A20
 replace H:=Option.bind_eq_some_iff.mp H
 obtain ⟨⟨bB,aI,aJ⟩,A30,H⟩:=H
 have A3:=am_ A30
 clear A30
 by_cases c4:bB=true
 ·subst c4
  have H1:((spec_l5Bent.f k au aI aJ).bind fun bt949=>(some (bt949.1,bt949.2.1)))=some (r1,r2):=by rw [if_pos rfl] at H;exact H
  clear H
  have H:=H1
  clear H1
  replace H:=Option.bind_eq_some_iff.mp H
  obtain ⟨⟨aK,aO,bC,bD⟩,A50,H⟩:=H
  replace H:(some (aK,aO))=some (r1,r2):=H
  have A5:=am_ A50
  clear A50
  simp only [Option.some.injEq,Prod.mk.injEq] at H
  obtain ⟨rfl,rfl⟩:=H
  go_enter Try.func45,Try.ntmps45
  go_wp2_with (first | ((with_reducible refine gate_dst (N:=2) rfl ?_);refine box_event ?hg (N:=2) ?hd (cs:=#[.slice none 0 0,.slice none 0 0]) (t:=27) ?hr ?_;(case hd=>rfl);(case hg=>rfl);(case hr=>first | (go_simp;done) | (go_simp;rfl));intro ae hg w6 hbox hb;replace ab:=am_ (hbox);replace bq:=am_ ((by rw [hg];exact (below_size (b0_ HB.out)):w.heap.size≤ae));replace ak:=am_ ((by rw [hg];exact (below_size (b0_ HB.out)):w.heap.size≤ae));replace HB:=am_ (below_step (b0_ HB.out) hb);clear hb hbox hg) | ((with_reducible refine gate_callee (f:=85) rfl ?_);refine gL_ (some 5) Try.func85 #[.slice A0 l0.length c0] ?_;(with_reducible refine (spec_l1New.calls k _ _ l0 au aR aS w _ ?side1 ?side2 ?side3 A2.out).mono ?_);(case side1=>exact zp57_0_ HB.out ak.out);(case side2=>exact HR0.out);(case side3=>exact HC0.out);rintro e w7 ⟨g945,rfl,hi,hb,hb2⟩;refine ⟨_,rfl,?_⟩;have n0_:=am_ (blk_below (rb_ ab.out) hb2);have n1_:=am_ (hb);have n2_:=am_ (hi);have n3_:=am_ (IsS125.ne_blk hi (blk_below (rb_ ab.out) hb2) (by decide));have n4_:=am_ (Ne.symm (IsS125.ne_blk hi (blk_below (rb_ ab.out) hb2) (by decide)));clear ab;clear HB;have ab:=n0_;have HB:=n1_;have HI945:=n2_;have ai:=n3_;have aj:=n4_;clear n0_ n1_ n2_ n3_ n4_;(try clear hb);(try clear hb2);(try clear hk);(try clear hi)) | ((with_reducible refine gate_callee (f:=87) rfl ?_);refine gL_ (some 7) Try.func87 #[.pointer (some ⟨g945,0,none⟩),.int .i64 12] ?_;(with_reducible refine (spec_l1Once.calls g945 au aR aS 12 true aI aJ w _ ?side1 ?side2 A3.out).mono ?_);(case side1=>exact zp57_1_ HI945.out ai.out);(case side2=>exact zp57_2_ HB.out (IsS125.ge HI945.out) ak.out);rintro e w8 ⟨rfl,hi,hb,hk⟩;refine ⟨_,rfl,?_⟩;have n0_:=am_ (KeepBut.blk hk (g':=ae) (o:=.cells #[.slice none 0 0,.slice none 0 0] 27 (0,0)) (rb_ ab.out) aj.out (by simp));have n1_:=am_ (hb);have n2_:=am_ (hi);clear ab;clear HB;clear HI945;have ab:=n0_;have HB:=n1_;have HI945:=n2_;clear n0_ n1_ n2_;(try clear hb);(try clear hb2);(try clear hk);(try clear hi)) | ((with_reducible refine gate_callee (f:=88) rfl ?_);refine gL_ (some 9) Try.func88 #[.pointer (some ⟨g945,0,none⟩)] ?_;(with_reducible refine (spec_l5Bent.calls k g945 au aI aJ aK aO bC bD w _ ?side1 ?side2 A5.out).mono ?_);(case side1=>exact zp57_1_ HI945.out ai.out);(case side2=>exact zp57_2_ HB.out (IsS125.ge HI945.out) ak.out);rintro e w9 ⟨bR,bS,rfl,ho0,ho1,hi,hb,hk⟩;refine ⟨_,rfl,?_⟩;have n0_:=am_ (KeepBut.blk hk (g':=ae) (o:=.cells #[.slice none 0 0,.slice none 0 0] 27 (0,0)) (rb_ ab.out) aj.out (by simp));have n1_:=am_ (Kd.R_lower ho0 (below_size (b2_ HB.out (IsS125.ge HI945.out) ak.out)));have n2_:=am_ (Kd.S_lower ho1 (below_size (b2_ HB.out (IsS125.ge HI945.out) ak.out)));have n3_:=am_ (hb);have n4_:=am_ (hi);clear ab;clear HB;clear HI945;have ab:=n0_;have bd:=n1_;have be:=n2_;have HB:=n3_;have HI945:=n4_;clear n0_ n1_ n2_ n3_ n4_;(try clear hb);(try clear hb2);(try clear hk);(try clear hi);(try clear ho0);(try clear ho1);obtain ⟨ao,ap,aZ⟩:=Kd.R_slice bd.out;subst aZ;have br:=aj.out;have bs:=ai.out;have bh:=ck_ (v:=(.slice none 0 0)) ab 0 rfl;have bi:=ck_ (v:=(.slice none 0 0)) ab 1 rfl;have bj:=blk_frozen ab.out 0;have bk:=blk_frozen ab.out 1;obtain ⟨aA,aB,ba⟩:=Kd.S_slice be.out;subst ba))
  refine bodyPost_ret (results_cell_row rfl _ _ ae 27 #[.slice ao aK.length ap,.slice aA aO.length aB] (0,0) _ rfl (by refine rb_ ?_;refine blk_put (cs:=#[.slice ao aK.length ap,.slice none 0 0]) ?_ 1 _ rfl;refine rb_ ?_;refine blk_put (cs:=#[.slice none 0 0,.slice none 0 0]) ?_ 0 _ rfl;refine rb_ ?_;exact ab.out) Try.underlying27 rfl (by kernel_rfl)) rfl ?_
  exact ⟨_,_,by first | rfl | (simp [errW_none,errW_some] <;> rfl) | (simp [*,errW_none,errW_some] <;> rfl),by refine rr_ ?_;exact Kd.R_mono (Kd.R_far (p:=⟨ae,1,none⟩) (Kd.R_far (p:=⟨ae,0,none⟩) (Kd.R_types bd.out ab.out (by decide)) (fun _ hk=>hk.2) (.slice ao aK.length ap)) (fun _ hk=>hk.2) (.slice aA aO.length aB)) (fun _ hk=>trivial),by refine rs_ ?_;exact Kd.S_mono (Kd.S_far (p:=⟨ae,1,none⟩) (Kd.S_far (p:=⟨ae,0,none⟩) (Kd.S_types be.out ab.out (by decide)) (fun _ hk=>hk.2) (.slice ao aK.length ap)) (fun _ hk=>hk.2) (.slice aA aO.length aB)) (fun _ hk=>trivial),by exact zp57_2_ HB.out (IsS125.ge HI945.out) ak.out⟩
 ·replace c4:=Bool.eq_false_iff.mpr c4
  subst c4
  have H1:((spec_l5Draw.f k au aI aJ 4).bind fun bt957=>(some (bt957.1,bt957.2.1)))=some (r1,r2):=by rw [if_neg (show ¬ (false=true) by decide)] at H;exact H
  clear H
  have H:=H1
  clear H1
  replace H:=Option.bind_eq_some_iff.mp H
  obtain ⟨⟨aL,aP,bE,bF⟩,aQ,H⟩:=H
  replace H:(some (aL,aP))=some (r1,r2):=H
  have A14:=am_ aQ
  clear aQ
  simp only [Option.some.injEq,Prod.mk.injEq] at H
  obtain ⟨rfl,rfl⟩:=H
  go_enter Try.func45,Try.ntmps45
  go_wp2_with (first | ((with_reducible refine gate_dst (N:=2) rfl ?_);refine box_event ?hg (N:=2) ?hd (cs:=#[.slice none 0 0,.slice none 0 0]) (t:=27) ?hr ?_;(case hd=>rfl);(case hg=>rfl);(case hr=>first | (go_simp;done) | (go_simp;rfl));intro ae hg w15 hbox hb;replace ab:=am_ (hbox);replace bq:=am_ ((by rw [hg];exact (below_size (b0_ HB.out)):w.heap.size≤ae));replace ak:=am_ ((by rw [hg];exact (below_size (b0_ HB.out)):w.heap.size≤ae));replace HB:=am_ (below_step (b0_ HB.out) hb);clear hb hbox hg) | ((with_reducible refine gate_callee (f:=85) rfl ?_);refine gL_ (some 5) Try.func85 #[.slice A0 l0.length c0] ?_;(with_reducible refine (spec_l1New.calls k _ _ l0 au aR aS w _ ?side1 ?side2 ?side3 A2.out).mono ?_);(case side1=>exact zp57_0_ HB.out ak.out);(case side2=>exact HR0.out);(case side3=>exact HC0.out);rintro e w16 ⟨g945,rfl,hi,hb,hb2⟩;refine ⟨_,rfl,?_⟩;have n0_:=am_ (blk_below (rb_ ab.out) hb2);have n1_:=am_ (hb);have n2_:=am_ (hi);have n3_:=am_ (IsS125.ne_blk hi (blk_below (rb_ ab.out) hb2) (by decide));have n4_:=am_ (Ne.symm (IsS125.ne_blk hi (blk_below (rb_ ab.out) hb2) (by decide)));clear ab;clear HB;have ab:=n0_;have HB:=n1_;have HI945:=n2_;have ai:=n3_;have aj:=n4_;clear n0_ n1_ n2_ n3_ n4_;(try clear hb);(try clear hb2);(try clear hk);(try clear hi)) | ((with_reducible refine gate_callee (f:=87) rfl ?_);refine gL_ (some 7) Try.func87 #[.pointer (some ⟨g945,0,none⟩),.int .i64 12] ?_;(with_reducible refine (spec_l1Once.calls g945 au aR aS 12 false aI aJ w _ ?side1 ?side2 A3.out).mono ?_);(case side1=>exact zp57_1_ HI945.out ai.out);(case side2=>exact zp57_2_ HB.out (IsS125.ge HI945.out) ak.out);rintro e w17 ⟨rfl,hi,hb,hk⟩;refine ⟨_,rfl,?_⟩;have n0_:=am_ (KeepBut.blk hk (g':=ae) (o:=.cells #[.slice none 0 0,.slice none 0 0] 27 (0,0)) (rb_ ab.out) aj.out (by simp));have n1_:=am_ (hb);have n2_:=am_ (hi);clear ab;clear HB;clear HI945;have ab:=n0_;have HB:=n1_;have HI945:=n2_;clear n0_ n1_ n2_;(try clear hb);(try clear hb2);(try clear hk);(try clear hi)) | ((with_reducible refine gate_callee (f:=86) rfl ?_);refine gL_ (some 11) Try.func86 #[.pointer (some ⟨g945,0,none⟩),.int .i64 4] ?_;(with_reducible refine (spec_l5Draw.calls k g945 au aI aJ 4 aL aP bE bF w _ ?side1 ?side2 A14.out).mono ?_);(case side1=>exact zp57_1_ HI945.out ai.out);(case side2=>exact zp57_2_ HB.out (IsS125.ge HI945.out) ak.out);rintro e w18 ⟨bT,bU,rfl,ho0,ho1,hi,hb,hk⟩;refine ⟨_,rfl,?_⟩;have n0_:=am_ (KeepBut.blk hk (g':=ae) (o:=.cells #[.slice none 0 0,.slice none 0 0] 27 (0,0)) (rb_ ab.out) aj.out (by simp));have n1_:=am_ (Kd.R_lower ho0 (below_size (b2_ HB.out (IsS125.ge HI945.out) ak.out)));have n2_:=am_ (Kd.S_lower ho1 (below_size (b2_ HB.out (IsS125.ge HI945.out) ak.out)));have n3_:=am_ (hb);have n4_:=am_ (hi);clear ab;clear HB;clear HI945;have ab:=n0_;have bf:=n1_;have bg:=n2_;have HB:=n3_;have HI945:=n4_;clear n0_ n1_ n2_ n3_ n4_;(try clear hb);(try clear hb2);(try clear hk);(try clear hi);(try clear ho0);(try clear ho1);obtain ⟨aq,ar,bb⟩:=Kd.R_slice bf.out;subst bb;have bt:=aj.out;have bu:=ai.out;have bl:=ck_ (v:=(.slice none 0 0)) ab 0 rfl;have bm:=ck_ (v:=(.slice none 0 0)) ab 1 rfl;have bn:=blk_frozen ab.out 0;have bo:=blk_frozen ab.out 1;obtain ⟨aC,aD,bc⟩:=Kd.S_slice bg.out;subst bc))
  refine bodyPost_ret (results_cell_row rfl _ _ ae 27 #[.slice aq aL.length ar,.slice aC aP.length aD] (0,0) _ rfl (by refine rb_ ?_;refine blk_put (cs:=#[.slice aq aL.length ar,.slice none 0 0]) ?_ 1 _ rfl;refine rb_ ?_;refine blk_put (cs:=#[.slice none 0 0,.slice none 0 0]) ?_ 0 _ rfl;refine rb_ ?_;exact ab.out) Try.underlying27 rfl (by kernel_rfl)) rfl ?_
  exact ⟨_,_,by first | rfl | (simp [errW_none,errW_some] <;> rfl) | (simp [*,errW_none,errW_some] <;> rfl),by refine rr_ ?_;exact Kd.R_mono (Kd.R_far (p:=⟨ae,1,none⟩) (Kd.R_far (p:=⟨ae,0,none⟩) (Kd.R_types bf.out ab.out (by decide)) (fun _ hk=>hk.2) (.slice aq aL.length ar)) (fun _ hk=>hk.2) (.slice aC aP.length aD)) (fun _ hk=>trivial),by refine rs_ ?_;exact Kd.S_mono (Kd.S_far (p:=⟨ae,1,none⟩) (Kd.S_far (p:=⟨ae,0,none⟩) (Kd.S_types bg.out ab.out (by decide)) (fun _ hk=>hk.2) (.slice aq aL.length ar)) (fun _ hk=>hk.2) (.slice aC aP.length aD)) (fun _ hk=>trivial),by exact zp57_2_ HB.out (IsS125.ge HI945.out) ak.out⟩
end Go.Proofs.Ytogamkblkoobkaa.P
end
section
namespace Go.Proofs.Ytogamkblkoobkaa.Can
open Go.RowKit Go.Proofs.Ytogamkblkoobkaa Go.Proofs.Ytogamkblkoobkaa.P Go.Proofs.Ytogamkblkoobkaa.Wk Go.Proofs.Ytogamkblkoobkaa.Lg Go.Proofs.Ytogamkblkoobkaa.Pl Go.Proofs.Ytogamkblkoobkaa.Mp Go.Proofs.Ytogamkblkoobkaa.Bf Go.Proofs.Ytogamkblkoobkaa.Mn Go.Proofs.YtogamkblkoobkaaW.PrintWords Go.Proofs.YtogamkblkoobkaaW.PrintLast Go.Proofs.YtogamkblkoobkaaW.PrintMore
def runX {α:Type} (acc:α→Bool) (nx:α→Nat→α):α→List (Fin 3)→Bool
 | x,[]=>acc x
 | x,k :: w=>runX acc nx (nx x k.val) w
theorem fit_lang {A:List Bool} {M:List (List Int)} (h1:1≤A.length) (h3:Rows3 A.length M) (h:(fitD A M).2.2=true):validD (fitD A M).1 (fitD A M).2.1=true∧lang (fitD A M).1 (fitD A M).2.1 0=lang A M 0:=by
 have hfit:fitD A M=((minD A M 0).1,(minD A M 0).2,true)∧(minD A M 0).1.length≤40:=by
  unfold fitD at h ⊢
  by_cases hl:(minD A M 0).1.length≤40
  ·rw [if_pos hl]
   exact ⟨rfl,hl⟩
  ·rw [if_neg hl] at h
   cases h
 obtain ⟨c1,c2,c3⟩:=(min_can (fits_rows h3) (st:=0) (by omega)).facts
 rw [hfit.1]
 exact ⟨valid_of c1 hfit.2 c2,c3⟩
theorem ct_lang {a b:List Bool} {n m:List (List Int)} (h:(ctR a n b m).2.2=true):(validD a n=true∧validD b m=true)∧validD (ctR a n b m).1 (ctR a n b m).2.1=true∧lang (ctR a n b m).1 (ctR a n b m).2.1 0=runX (acCt b) (nxCt a n m) (bgP a ((0:Int),(0:Int))):=by
 unfold ctR at h ⊢
 by_cases hc:validD a n=true∧validD b m=true
 ·rw [if_pos hc] at h ⊢
  cases hq:ctX a n b m with
  | none=>rw [hq] at h;cases h
  | some q =>
   rw [hq] at h
   dsimp only at h ⊢
   have hau:=expl_auto (most:=400) (by omega) hq
   obtain ⟨g1,g2⟩:=hau.1.rows
   have e2:=hau.1.lang (runX (acCt b) (nxCt a n m)) (dom:=fun _=>True) trivial (fun _ _ _ _=>trivial) (fun x _=>rfl) (fun x _ k w=>rfl)
   obtain ⟨f1,f2⟩:=fit_lang g1 g2 h
   exact ⟨hc,f1,f2.trans e2⟩
 ·rw [if_neg hc] at h
  cases h
theorem st_lang {a:List Bool} {n:List (List Int)} (h:(stR a n).2.2=true):validD a n=true∧validD (stR a n).1 (stR a n).2.1=true∧lang (stR a n).1 (stR a n).2.1 0=runX (acSt a) (nxSt a n) ((1:Int),(1:Int)):=by
 unfold stR at h ⊢
 by_cases hc:validD a n=true
 ·rw [if_pos hc] at h ⊢
  cases hq:stX a n with
  | none=>rw [hq] at h;cases h
  | some q =>
   rw [hq] at h
   dsimp only at h ⊢
   have hau:=expl_auto (most:=400) (by omega) hq
   obtain ⟨g1,g2⟩:=hau.1.rows
   have e2:=hau.1.lang (runX (acSt a) (nxSt a n)) (dom:=fun _=>True) trivial (fun _ _ _ _=>trivial) (fun x _=>rfl) (fun x _ k w=>rfl)
   obtain ⟨f1,f2⟩:=fit_lang g1 g2 h
   exact ⟨hc,f1,f2.trans e2⟩
 ·rw [if_neg hc] at h
  cases h
theorem run_cons {a:List Bool} {n:List (List Int)} (k:Fin 3) (w:List (Fin 3)) (q:Int):run a n (k :: w) q=run a n w (rd (rowOf n q) (k.val:Int)):=rfl
theorem step_nat {b:List Bool} {m:List (List Int)} (hf:Fits b m) (z:Nat) (hz:z<m.length) (k:Fin 3):∃ p:Nat,p<b.length∧rd (rowOf m (z:Int)) (k.val:Int)=(p:Int):=by
 have hl:=hf.len
 obtain ⟨g1,g2⟩:=hf.row (z:Int) (by omega)
 have hk:=k.isLt
 have hy:=g2 (rd (rowOf m (z:Int)) (k.val:Int)) (by rw [rd_get _ k.val (by omega)];exact List.getElem_mem _)
 exact ⟨(rd (rowOf m (z:Int)) (k.val:Int)).toNat,by omega,by omega⟩
theorem bg_bits {a:List Bool} {q s:Int} (hs:U64 s):U64 (bgSet a (q,s))∧∀ p,bit (bgSet a (q,s)) p=true↔bit s p=true∨(rdOf false a q=true∧p=0):=by
 unfold bgSet
 dsimp only
 by_cases h:rdOf false a q=true
 ·rw [if_pos h]
  obtain ⟨g1,g2⟩:=bit_one hs
  refine ⟨g1,fun p=>?_⟩
  rw [g2,Bool.or_eq_true,decide_eq_true_iff]
  simp [h]
 ·rw [if_neg h]
  exact ⟨hs,fun p=>by simp [h]⟩
theorem stS_bits {a:List Bool} {n:List (List Int)} {s:Int} (hf:Fits a n) (ha:a.length≤40) (h1:1≤a.length) (k:Fin 3):∀ p,bit (stSet a n s k.val) p=true↔∃ z,z<a.length∧bit s z=true∧(rd (rowOf n (z:Int)) (k.val:Int)=(p:Int)∨(p=0∧rdOf false a (rd (rowOf n (z:Int)) (k.val:Int))=true)):=by
 have hl:=hf.len
 obtain ⟨u1,u2⟩:=mvS_bits (s:=s) hf ha k.val k.isLt
 intro p
 unfold stSet
 by_cases h:acS a (mvS n s (k.val:Int))=true
 ·rw [if_pos h,(bit_one u1).2,Bool.or_eq_true,decide_eq_true_iff,u2]
  rw [acS_iff] at h
  obtain ⟨y,hy,hy1,hy2⟩:=h
  obtain ⟨z,hz,hz1,hz2⟩:=(u2 y).1 hy2
  constructor
  ·rintro (⟨z',g1,g2,g3⟩ | rfl)
   ·exact ⟨z',by omega,g2,Or.inl g3⟩
   ·exact ⟨z,by omega,hz1,Or.inr ⟨rfl,by rw [hz2];exact hy1⟩⟩
  ·rintro ⟨z',g1,g2,g3 | ⟨rfl,g3⟩⟩
   ·exact Or.inl ⟨z',by omega,g2,g3⟩
   ·exact Or.inr rfl
 ·rw [if_neg h,u2]
  constructor
  ·rintro ⟨z',g1,g2,g3⟩
   exact ⟨z',by omega,g2,Or.inl g3⟩
  ·rintro ⟨z',g1,g2,g3 | ⟨rfl,g3⟩⟩
   ·exact ⟨z',by omega,g2,g3⟩
   ·obtain ⟨y,hy,e⟩:=step_nat hf z' (by omega) k
    refine absurd ((acS_iff _ _).2 ⟨y,hy,by rw [← e];exact g3,(u2 y).2 ⟨z',by omega,g2,e⟩⟩) h
theorem ct_run {a b:List Bool} {n m:List (List Int)} (hf:Fits b m) (hb:b.length≤40) (h1:1≤b.length):∀ (w:List (Fin 3)) (q s:Int),U64 s→(runX (acCt b) (nxCt a n m) (bgP a (q,s)) w=true↔(∃ z:Nat,z<b.length∧bit s z=true∧run b m w (z:Int)=true)∨∃ i,i≤w.length∧run a n (w.take i) q=true∧run b m (w.drop i) 0=true)
 | [],q,s,hs=>by
  obtain ⟨g1,g2⟩:=bg_bits (a:=a) (q:=q) hs
  show acS b (bgSet a (q,s))=true↔_
  rw [acS_iff]
  constructor
  ·rintro ⟨p,p1,p2,p3⟩
   rcases (g2 p).1 p3 with h | ⟨h,rfl⟩
   ·exact Or.inl ⟨p,p1,h,p2⟩
   ·exact Or.inr ⟨0,Nat.le_refl _,h,p2⟩
  ·rintro (⟨z,z1,z2,z3⟩ | ⟨i,i1,i2,i3⟩)
   ·exact ⟨z,z1,z3,(g2 z).2 (Or.inl z2)⟩
   ·have e0:i=0:=by simpa using i1
    subst e0
    exact ⟨0,by omega,i3,(g2 0).2 (Or.inr ⟨i2,rfl⟩)⟩
 | k :: w,q,s,hs=>by
  have hl:=hf.len
  obtain ⟨g1,g2⟩:=bg_bits (a:=a) (q:=q) hs
  obtain ⟨u1,u2⟩:=mvS_bits (s:=bgSet a (q,s)) hf hb k.val k.isLt
  have IH:=ct_run hf hb h1 (a:=a) (n:=n) w (nxD n q k.val) (mvS m (bgSet a (q,s)) (k.val:Int)) u1
  have e:runX (acCt b) (nxCt a n m) (bgP a (q,s)) (k :: w)=runX (acCt b) (nxCt a n m) (bgP a (nxD n q k.val,mvS m (bgSet a (q,s)) (k.val:Int))) w:=rfl
  rw [e,IH]
  constructor
  ·rintro (⟨p,p1,p2,p3⟩ | ⟨i,i1,i2,i3⟩)
   ·obtain ⟨z,z1,z2,z3⟩:=(u2 p).1 p2
    have hr:run b m (k :: w) (z:Int)=true:=by rw [run_cons,z3];exact p3
    rcases (g2 z).1 z2 with h | ⟨h,rfl⟩
    ·exact Or.inl ⟨z,by omega,h,hr⟩
    ·exact Or.inr ⟨0,Nat.zero_le _,h,hr⟩
   ·exact Or.inr ⟨i+1,by simp;omega,i2,i3⟩
  ·rintro (⟨z,z1,z2,z3⟩ | ⟨i,i1,i2,i3⟩)
   ·obtain ⟨p,p1,p2⟩:=step_nat hf z (by omega) k
    rw [run_cons,p2] at z3
    exact Or.inl ⟨p,p1,(u2 p).2 ⟨z,by omega,(g2 z).2 (Or.inl z2),p2⟩,z3⟩
   ·cases i with
    | zero =>
     obtain ⟨p,p1,p2⟩:=step_nat hf 0 (by omega) k
     have i3':run b m w (rd (rowOf m ((0:Nat):Int)) (k.val:Int))=true:=i3
     rw [p2] at i3'
     exact Or.inl ⟨p,p1,(u2 p).2 ⟨0,by omega,(g2 0).2 (Or.inr ⟨i2,rfl⟩),p2⟩,i3'⟩
    | succ i=>exact Or.inr ⟨i,by simp at i1;omega,i2,i3⟩
def stX1 (a:List Bool) (n:List (List Int)) (w:List (Fin 3)):Bool:=runX (acSt a) (nxSt a n) ((1:Int),(1:Int)) w
def stZ (a:List Bool) (n:List (List Int)) (z:Int) (w:List (Fin 3)):Prop:=(w = []∧rdOf false a z=true)∨∃ i,1≤i∧i≤w.length∧run a n (w.take i) z=true∧stX1 a n (w.drop i)=true
theorem st_run {a:List Bool} {n:List (List Int)} (hf:Fits a n) (ha:a.length≤40) (h1:1≤a.length):∀ (w:List (Fin 3)) (s:Int),(runX (acSt a) (nxSt a n) ((0:Int),s) w=true↔∃ z:Nat,z<a.length∧bit s z=true∧stZ a n (z:Int) w)
 | [],s=>by
  show ((false || acS a s)=true)↔_
  rw [Bool.false_or,acS_iff]
  constructor
  ·rintro ⟨p,p1,p2,p3⟩
   exact ⟨p,p1,p3,Or.inl ⟨rfl,p2⟩⟩
  ·rintro ⟨z,z1,z2,⟨_,z3⟩ | ⟨i,i1,i2,_⟩⟩
   ·exact ⟨z,z1,z3,z2⟩
   ·exact absurd i2 (by simp;omega)
 | k :: w,s=>by
  have hl:=hf.len
  have IH:=st_run hf ha h1 w
  have hX:stX1 a n w=true↔(w = []∨stZ a n 0 w):=by
   cases w with
   | nil=>exact ⟨fun _=>Or.inl rfl,fun _=>rfl⟩
   | cons c w' =>
    have e:stX1 a n (c :: w')=runX (acSt a) (nxSt a n) ((0:Int),(1:Int)) (c :: w'):=rfl
    rw [e,IH]
    constructor
    ·rintro ⟨z,z1,z2,z3⟩
     have e0:=(low_one h1).2 z z2
     have hz:z=0:=by
      unfold bit at z2
      rcases z with _ | z
      ·rfl
      ·rw [show (1:Int).toNat=1 from rfl,Nat.testBit_succ] at z2
       simp at z2
     subst hz
     exact Or.inr z3
    ·rintro (h | h)
     ·cases h
     ·exact ⟨0,by omega,by decide,h⟩
  have e:runX (acSt a) (nxSt a n) ((0:Int),s) (k :: w)=runX (acSt a) (nxSt a n) ((0:Int),stSet a n s k.val) w:=rfl
  rw [e,IH]
  have hb:=stS_bits (s:=s) hf ha h1 k
  constructor
  ·rintro ⟨p,p1,p2,p3⟩
   obtain ⟨z,z1,z2,z3⟩:=(hb p).1 p2
   refine ⟨z,z1,z2,Or.inr ?_⟩
   rcases z3 with z3 | ⟨rfl,z3⟩
   ·rcases p3 with ⟨rfl,p3⟩ | ⟨i,i1,i2,i3,i4⟩
    ·exact ⟨1,Nat.le_refl _,by simp,by show rdOf false a (rd (rowOf n (z:Int)) (k.val:Int))=true;rw [z3];exact p3,rfl⟩
    ·exact ⟨i+1,by omega,by simp;omega,by show run a n (w.take i) (rd (rowOf n (z:Int)) (k.val:Int))=true;rw [z3];exact i3,i4⟩
   ·exact ⟨1,Nat.le_refl _,by simp,z3,hX.2 (Or.inr p3)⟩
  ·rintro ⟨z,z1,z2,⟨h,_⟩ | ⟨i,i1,i2,i3,i4⟩⟩
   ·cases h
   ·obtain ⟨i,rfl⟩:∃ j,i=j+1:=⟨i - 1,by omega⟩
    have i3':run a n (w.take i) (rd (rowOf n (z:Int)) (k.val:Int))=true:=i3
    have i4':stX1 a n (w.drop i)=true:=i4
    obtain ⟨p,p1,p2⟩:=step_nat hf z (by omega) k
    cases i with
    | zero =>
     have i3'':rdOf false a (rd (rowOf n (z:Int)) (k.val:Int))=true:=i3'
     rcases hX.1 i4' with rfl | h
     ·exact ⟨p,p1,(hb p).2 ⟨z,z1,z2,Or.inl p2⟩,Or.inl ⟨rfl,by rw [← p2];exact i3''⟩⟩
     ·exact ⟨0,by omega,(hb 0).2 ⟨z,z1,z2,Or.inr ⟨rfl,i3''⟩⟩,h⟩
    | succ i=>exact ⟨p,p1,(hb p).2 ⟨z,z1,z2,Or.inl p2⟩,Or.inr ⟨i+1,by omega,by simp at i2;omega,by rw [← p2];exact i3',i4'⟩⟩
theorem st_first {a:List Bool} {n:List (List Int)} (hf:Fits a n) (ha:a.length≤40) (h1:1≤a.length) (w:List (Fin 3)):stX1 a n w=true↔w = []∨∃ i,1≤i∧i≤w.length∧run a n (w.take i) 0=true∧stX1 a n (w.drop i)=true:=by
 cases w with
 | nil=>exact ⟨fun _=>Or.inl rfl,fun _=>rfl⟩
 | cons c w =>
  have e:stX1 a n (c :: w)=runX (acSt a) (nxSt a n) ((0:Int),(1:Int)) (c :: w):=rfl
  rw [e,st_run hf ha h1]
  constructor
  ·rintro ⟨z,z1,z2,⟨h,_⟩ | h⟩
   ·cases h
   ·have hz:z=0:=by
     unfold bit at z2
     rcases z with _ | z
     ·rfl
     ·rw [show (1:Int).toNat=1 from rfl,Nat.testBit_succ] at z2
      simp at z2
    subst hz
    exact Or.inr h
  ·rintro (h | h)
   ·cases h
   ·exact ⟨0,by omega,by decide,Or.inr h⟩
theorem toF_len:∀ l:List Int,(toF l).length=l.length
 | []=>rfl
 | c :: l=>by rw [toF,List.length_cons,List.length_cons,toF_len l]
theorem toF_take:∀ (l:List Int) (i:Nat),toF (l.take i)=(toF l).take i
 | [],i=>by simp [toF]
 | c :: l,0=>rfl
 | c :: l,i+1=>by rw [List.take_succ_cons,toF,toF,List.take_succ_cons,toF_take l i]
theorem toF_drop:∀ (l:List Int) (i:Nat),toF (l.drop i)=(toF l).drop i
 | [],i=>by simp [toF]
 | c :: l,0=>rfl
 | c :: l,i+1=>by rw [List.drop_succ_cons,toF,List.drop_succ_cons,toF_drop l i]
theorem lets_take {l:List Int} (i:Nat) (h:lets l=true):lets (l.take i)=true:=by
 unfold lets at h ⊢
 rw [List.all_eq_true] at h ⊢
 exact fun x hx=>h x (List.mem_of_mem_take hx)
theorem lets_drop {l:List Int} (i:Nat) (h:lets l=true):lets (l.drop i)=true:=by
 unfold lets at h ⊢
 rw [List.all_eq_true] at h ⊢
 exact fun x hx=>h x (List.mem_of_mem_drop hx)
theorem fst_part {s:ByteArray} (hs:word s=true) (i:Nat) (hi:i≤s.size):word (s.extract 0 i)=true∧toF (bytesOf (s.extract 0 i))=(toF (bytesOf s)).take i∧(s.extract 0 i).size=i:=by
 unfold word at hs ⊢
 rw [Bool.and_eq_true,decide_eq_true_iff] at hs
 have e:bytesOf (s.extract 0 i)=(bytesOf s).take i:=by rw [bytes_extract,List.drop_zero]
 have hl:(s.extract 0 i).size=i:=by rw [ByteArray.size_extract];omega
 rw [e,toF_take,hl,lets_take i hs.1,Bool.true_and,decide_eq_true_iff]
 exact ⟨by omega,rfl,rfl⟩
theorem snd_part {s:ByteArray} (hs:word s=true) (i:Nat) (hi:i≤s.size):word (s.extract i s.size)=true∧toF (bytesOf (s.extract i s.size))=(toF (bytesOf s)).drop i∧(s.extract i s.size).size=s.size - i:=by
 unfold word at hs ⊢
 rw [Bool.and_eq_true,decide_eq_true_iff] at hs
 have e:bytesOf (s.extract i s.size)=(bytesOf s).drop i:=by
  rw [bytes_extract,List.take_of_length_le (by rw [len_bytes];exact Nat.le_refl _)]
 have hl:(s.extract i s.size).size=s.size - i:=by rw [ByteArray.size_extract];omega
 rw [e,toF_drop,hl,lets_drop i hs.1,Bool.true_and,decide_eq_true_iff]
 exact ⟨by omega,rfl,rfl⟩
def splB (a:List Bool) (n:List (List Int)) (b:List Bool) (m:List (List Int)) (s:ByteArray):Nat→Bool
 | 0=>false
 | i+1=>splB a n b m s i || (accOf a n (s.extract 0 i) && accOf b m (s.extract i s.size))
def morB (e:List Bool) (en:List (List Int)) (x:List Bool) (xn:List (List Int)) (s:ByteArray):Nat→Bool
 | 0=>decide (s.size=0)
 | i+1=>morB e en x xn s i || (decide (0<i) && (accOf e en (s.extract 0 i) && accOf x xn (s.extract i s.size)))
theorem splB_iff (a:List Bool) (n:List (List Int)) (b:List Bool) (m:List (List Int)) (s:ByteArray):∀ j,splB a n b m s j=true↔∃ i,i<j∧accOf a n (s.extract 0 i)=true∧accOf b m (s.extract i s.size)=true
 | 0=>⟨fun h=>(by cases h),fun ⟨i,h,_⟩=>absurd h (by omega)⟩
 | j+1=>by
  rw [splB,Bool.or_eq_true,splB_iff a n b m s j,Bool.and_eq_true]
  constructor
  ·rintro (⟨i,h1,h2⟩ | h)
   ·exact ⟨i,by omega,h2⟩
   ·exact ⟨j,by omega,h⟩
  ·rintro ⟨i,h1,h2⟩
   by_cases e:i=j
   ·subst e;exact Or.inr h2
   ·exact Or.inl ⟨i,by omega,h2⟩
theorem morB_iff (e:List Bool) (en:List (List Int)) (x:List Bool) (xn:List (List Int)) (s:ByteArray):∀ j,morB e en x xn s j=true↔s.size=0∨∃ i,i<j∧0<i∧accOf e en (s.extract 0 i)=true∧accOf x xn (s.extract i s.size)=true
 | 0=>by
  rw [morB,decide_eq_true_iff]
  exact ⟨Or.inl,fun h=>h.elim id (fun ⟨i,h,_⟩=>absurd h (by omega))⟩
 | j+1=>by
  rw [morB,Bool.or_eq_true,morB_iff e en x xn s j,Bool.and_eq_true,Bool.and_eq_true,decide_eq_true_iff]
  constructor
  ·rintro ((h | ⟨i,h1,h2⟩) | h)
   ·exact Or.inl h
   ·exact Or.inr ⟨i,by omega,h2⟩
   ·exact Or.inr ⟨j,by omega,h⟩
  ·rintro (h | ⟨i,h1,h2⟩)
   ·exact Or.inl (Or.inl h)
   ·by_cases e:i=j
    ·subst e;exact Or.inr h2
    ·exact Or.inl (Or.inr ⟨i,by omega,h2⟩)
theorem ct_acc {a b:List Bool} {n m:List (List Int)} {s:ByteArray} (h:(ctR a n b m).2.2=true) (hs:word s=true):accOf (ctR a n b m).1 (ctR a n b m).2.1 s=splB a n b m s (s.size+1):=by
 obtain ⟨⟨v1,v2⟩,v3,v4⟩:=ct_lang h
 obtain ⟨c1,c2,c3,c4⟩:=validD_facts v2
 have hsz:(toF (bytesOf s)).length=s.size:=by rw [toF_len,len_bytes]
 rw [acc_lang v3 hs,v4,Bool.eq_iff_iff,ct_run (fits_valid v2) c2 c1 _ _ _ ⟨by omega,by omega⟩,splB_iff]
 constructor
 ·rintro (⟨z,z1,z2,_⟩ | ⟨i,i1,i2,i3⟩)
  ·exact absurd ((low_zero (m:=0)).2 z z2) (by omega)
  ·rw [hsz] at i1
   refine ⟨i,by omega,?_,?_⟩
   ·rw [acc_lang v1 (fst_part hs i i1).1,(fst_part hs i i1).2.1];exact i2
   ·rw [acc_lang v2 (snd_part hs i i1).1,(snd_part hs i i1).2.1];exact i3
 ·rintro ⟨i,i1,i2,i3⟩
  have i1':i≤s.size:=by omega
  rw [acc_lang v1 (fst_part hs i i1').1,(fst_part hs i i1').2.1] at i2
  rw [acc_lang v2 (snd_part hs i i1').1,(snd_part hs i i1').2.1] at i3
  exact Or.inr ⟨i,by omega,i2,i3⟩
theorem st_acc {a:List Bool} {n:List (List Int)} {s:ByteArray} (h:(stR a n).2.2=true) (hs:word s=true):accOf (stR a n).1 (stR a n).2.1 s=morB a n (stR a n).1 (stR a n).2.1 s (s.size+1):=by
 obtain ⟨v1,v3,v4⟩:=st_lang h
 obtain ⟨c1,c2,c3,c4⟩:=validD_facts v1
 have hsz:(toF (bytesOf s)).length=s.size:=by rw [toF_len,len_bytes]
 have v5:∀ w,lang (stR a n).1 (stR a n).2.1 0 w=stX1 a n w:=fun w=>congrFun v4 w
 rw [acc_lang v3 hs,v5,Bool.eq_iff_iff,st_first (fits_valid v1) c2 c1,morB_iff]
 constructor
 ·rintro (h0 | ⟨i,i1,i2,i3,i4⟩)
  ·rw [h0] at hsz
   exact Or.inl hsz.symm
  ·rw [hsz] at i2
   refine Or.inr ⟨i,by omega,by omega,?_,?_⟩
   ·rw [acc_lang v1 (fst_part hs i i2).1,(fst_part hs i i2).2.1];exact i3
   ·rw [acc_lang v3 (snd_part hs i i2).1,(snd_part hs i i2).2.1,v5];exact i4
 ·rintro (h0 | ⟨i,i0,i1,i2,i3⟩)
  ·rw [h0] at hsz
   exact Or.inl (List.eq_nil_of_length_eq_zero hsz)
  ·have i1':i≤s.size:=by omega
   rw [acc_lang v1 (fst_part hs i i1').1,(fst_part hs i i1').2.1] at i2
   rw [acc_lang v3 (snd_part hs i i1').1,(snd_part hs i i1').2.1,v5] at i3
   exact Or.inr ⟨i,by omega,by omega,i2,i3⟩
section
variable (l0:List Int) (h1:l0.length≤140737488351232)
include h1
theorem draw_concat:∃ a n b m,Ev (fun r=>spec_DrawConcatDfa.f r l0) (a,n,b,m)∧(a.length≤6∧n.length≤6)∧b.length≤6∧m.length≤6:=by
 obtain ⟨a,n,b,m,k,hev,ha,hb,hm⟩:=draw_product l0 h1
 refine ⟨a,n,b,m,?_,ha,hb,hm⟩
 simp only [spec_DrawConcatDfa.f]
 exact Ev.bind hev (Ev.now _)
theorem draw_star:∃ a n,Ev (fun r=>spec_DrawStarDfa.f r l0) (a,n)∧a.length≤6∧n.length≤6:=by
 obtain ⟨r,hr⟩:=new l0 h1
 obtain ⟨x,i3,g3,e,c3⟩:=once l0 h1 0 r (cur0 l0) 12 (by omega) (by omega)
 by_cases hx:x=true
 ·obtain ⟨b',m',i4,g4,hev4,d1,d2,d3,c4⟩:=bent l0 h1 i3 g3 c3
  refine ⟨b',m',?_,d1,d2⟩
  simp only [spec_DrawStarDfa.f]
  refine Ev.bind hr ?_
  simp only [e,Option.bind_some,if_pos hx]
  exact Ev.bind hev4 (Ev.now _)
 ·obtain ⟨a,n,i1,g1,hev,a1,a2,a3,a4,c1⟩:=draw l0 h1 i3 g3 c3 4 (by omega) (by omega)
  refine ⟨a,n,?_,by omega,by omega⟩
  simp only [spec_DrawStarDfa.f]
  refine Ev.bind hr ?_
  simp only [e,Option.bind_some,if_neg hx]
  exact Ev.bind hev (Ev.now _)
end
end Go.Proofs.Ytogamkblkoobkaa.Can
end
section
namespace Go.Proofs.Ytogamkblkoobkaa
open Go.RowKit Go.Shelf Go.Proofs.Ytogamkblkoobkaa.P Go.Proofs.YtogamkblkoobkaaW.PrintWords Go.Proofs.YtogamkblkoobkaaW.PrintLast Go.Proofs.YtogamkblkoobkaaW.PrintMore
structure Pc where
 P:World→List Nat→Prop
 mv:∀ {w w':World} {fp:List Nat},P w fp→(∀ k ∈ fp,w'.heap[k]? = w.heap[k]?)→P w' fp
 lt:∀ {w:World} {fp:List Nat},P w fp→∀ k ∈ fp,k<w.heap.size
def SlF (w:World):List Pc→List Nat→Prop
 | [],fp=>fp = []
 | p :: ps,fp=>∃ f1 f2,fp=f1 ++ f2∧p.P w f1∧SlF w ps f2
structure Sl (w0 w:World) (ps:List Pc):Prop where
 bel:Below w0.heap.size w0 w
 own:∃ fp,SlF w ps fp∧fp.Nodup∧∀ k ∈ fp,w0.heap.size≤k
section
variable {w0 w w' w1:World} {ps qs:List Pc} {p q:Pc} {fp:List Nat} {i j:Nat}
theorem SlF.mv:∀ {ps:List Pc} {fp:List Nat},SlF w ps fp→(∀ k ∈ fp,w'.heap[k]? = w.heap[k]?)→SlF w' ps fp
 | [],_,h,_=>h
 | p :: ps,_,⟨f1,f2,e,h1,h2⟩,hm=>⟨f1,f2,e,p.mv h1 (fun k hk=>hm k (by rw [e];exact List.mem_append_left _ hk)),SlF.mv h2 (fun k hk=>hm k (by rw [e];exact List.mem_append_right _ hk))⟩
theorem SlF.lt:∀ {ps:List Pc} {fp:List Nat},SlF w ps fp→∀ k ∈ fp,k<w.heap.size
 | [],_,h,k,hk=>by rw [h] at hk;cases hk
 | p :: ps,_,⟨f1,f2,e,h1,h2⟩,k,hk=>by
  rw [e] at hk
  rcases List.mem_append.1 hk with hk | hk
  ·exact p.lt h1 k hk
  ·exact SlF.lt h2 k hk
theorem SlF.app:∀ {ps:List Pc} {f g:List Nat},SlF w ps f→SlF w qs g→SlF w (ps ++ qs) (f ++ g)
 | [],_,_,h,h2=>by rw [h];exact h2
 | p :: ps,_,g,⟨f1,f2,e,h1,h2⟩,h3=>⟨f1,f2 ++ g,by rw [e,List.append_assoc],h1,SlF.app h2 h3⟩
theorem SlF.take:∀ {ps:List Pc} {f:List Nat} (n:Nat),SlF w ps f→∃ g,SlF w (ps.take n) g∧List.Sublist g f
 | ps,f,0,h=>⟨[],rfl,List.nil_sublist _⟩
 | [],_,n+1,h=>⟨[],rfl,List.nil_sublist _⟩
 | p :: ps,_,n+1,⟨f1,f2,e,h1,h2⟩=>by
  obtain ⟨g,h3,h4⟩:=SlF.take n h2
  exact ⟨f1 ++ g,⟨f1,g,rfl,h1,h3⟩,by rw [e];exact List.Sublist.append_left h4 _⟩
theorem SlF.at_:∀ {ps:List Pc} {i:Nat} {fp:List Nat},SlF w ps fp→ps[i]? = some p →
  ∃ f fr,p.P w f∧fp.Perm (f ++ fr)∧∀ (w':World) (q:Pc) (f':List Nat),(∀ k ∈ fr,w'.heap[k]? = w.heap[k]?)→q.P w' f'→∃ fp',SlF w' (ps.set i q) fp'∧fp'.Perm (f' ++ fr)
 | [],i,_,_,h=>by cases i <;> cases h
 | r :: ps,0,_,⟨f1,f2,e,h1,h2⟩,h=>by
  obtain rfl:=Option.some.inj h
  exact ⟨f1,f2,h1,by rw [e],fun w' q f' hk hq=>⟨f' ++ f2,⟨f',f2,rfl,hq,SlF.mv h2 hk⟩,List.Perm.refl _⟩⟩
 | r :: ps,i+1,_,⟨f1,f2,e,h1,h2⟩,h=>by
  obtain ⟨f,fr,h3,h4,h5⟩:=SlF.at_ h2 (by simpa using h)
  refine ⟨f,f1 ++ fr,h3,?_,fun w' q f' hk hq=>?_⟩
  ·rw [e]
   exact (List.Perm.append_left f1 h4).trans (by rw [← List.append_assoc,← List.append_assoc];exact List.Perm.append_right fr List.perm_append_comm)
  ·obtain ⟨g,h6,h7⟩:=h5 w' q f' (fun k hk'=>hk k (List.mem_append_right _ hk')) hq
   refine ⟨f1 ++ g,⟨f1,g,rfl,r.mv h1 (fun k hk'=>hk k (List.mem_append_left _ hk')),h6⟩,?_⟩
   exact (List.Perm.append_left f1 h7).trans (by rw [← List.append_assoc,← List.append_assoc];exact List.Perm.append_right fr List.perm_append_comm)
theorem Sl.start (w:World):Sl w w []:=⟨Below.refl _ _,[],rfl,List.nodup_nil,fun k hk=>by cases hk⟩
theorem Sl.only (H:Sl w0 w ps) (hb:Below w.heap.size w w'):Sl w0 w' ps:=by
 obtain ⟨fp,h1,h2,h3⟩:=H.own
 exact ⟨below_then H.bel H.bel.size hb,fp,SlF.mv h1 (fun k hk=>hb.block k (SlF.lt h1 k hk)),h2,h3⟩
theorem Sl.drew (H:Sl w0 w ps):Sl w0 w.drew ps:=H.only (below_drew1 (Below.refl _ _))
theorem Sl.call (H:Sl w0 w ps) (K:Sl w w' qs):Sl w0 w' (ps ++ qs):=by
 obtain ⟨fp,h1,h2,h3⟩:=H.own
 obtain ⟨gp,g1,g2,g3⟩:=K.own
 refine ⟨below_then H.bel H.bel.size K.bel,fp ++ gp,SlF.app (SlF.mv h1 (fun k hk=>K.bel.block k (SlF.lt h1 k hk))) g1,List.nodup_append.2 ⟨h2,g2,fun a ha b hb e=>?_⟩,fun k hk=>?_⟩
 ·have:=SlF.lt h1 a ha
  have:=g3 b hb
  omega
 ·rcases List.mem_append.1 hk with hk | hk
  ·exact h3 k hk
  ·exact Nat.le_trans H.bel.size (g3 k hk)
theorem Sl.pre (H:Sl w0 w ps) (n:Nat):Sl w0 w (ps.take n):=by
 obtain ⟨fp,h1,h2,h3⟩:=H.own
 obtain ⟨g,h4,h5⟩:=SlF.take n h1
 exact ⟨H.bel,g,h4,h2.sublist h5,fun k hk=>h3 k (h5.subset hk)⟩
theorem Sl.opn (H:Sl w0 w ps) (i:Nat) (hi:ps[i]? = some p):∃ f,p.P w f∧f.Nodup∧(∀ k ∈ f,w0.heap.size≤k)∧∀ (w':World) (q:Pc) (f':List Nat),Below w0.heap.size w0 w'→q.P w' f'→f'.Nodup→(∀ k ∈ f',k ∈ f∨w.heap.size≤k)→(∀ k,k<w.heap.size→k ∉ f→w'.heap[k]? = w.heap[k]?)→Sl w0 w' (ps.set i q):=by
 obtain ⟨fp,h1,h2,h3⟩:=H.own
 obtain ⟨f,fr,h4,h5,h6⟩:=SlF.at_ h1 hi
 have hn:=(List.Perm.nodup_iff h5).1 h2
 obtain ⟨n1,n2,n3⟩:=List.nodup_append.1 hn
 have hlt:∀ k ∈ fr,k<w.heap.size:=fun k hk=>SlF.lt h1 k (h5.mem_iff.2 (List.mem_append_right _ hk))
 refine ⟨f,h4,n1,fun k hk=>h3 k (h5.mem_iff.2 (List.mem_append_left _ hk)),fun w' q f' hb hq hd hf hk=>?_⟩
 obtain ⟨gp,g1,g2⟩:=h6 w' q f' (fun k hkr=>hk k (hlt k hkr) (fun hkf=>n3 k hkf k hkr rfl)) hq
 refine ⟨hb,gp,g1,(List.Perm.nodup_iff g2).2 (List.nodup_append.2 ⟨hd,n2,fun a ha b hb' e=>?_⟩),fun k hk'=>?_⟩
 ·subst e
  rcases hf a ha with hf | hf
  ·exact n3 a hf a hb' rfl
  ·exact absurd (hlt a hb') (by omega)
 ·rcases List.mem_append.1 (g2.mem_iff.1 hk') with hk' | hk'
  ·rcases hf k hk' with hf | hf
   ·exact h3 k (h5.mem_iff.2 (List.mem_append_left _ hf))
   ·exact Nat.le_trans H.bel.size hf
  ·exact h3 k (h5.mem_iff.2 (List.mem_append_right _ hk'))
theorem Sl.upd (H:Sl w0 w ps) (i:Nat) (hi:ps[i]? = some p) (hb:Below w0.heap.size w0 w')
  (h:∀ f,p.P w f→f.Nodup→(∀ k ∈ f,w0.heap.size≤k)→∃ f',q.P w' f'∧f'.Nodup∧(∀ k ∈ f',k ∈ f∨w.heap.size≤k)∧∀ k,k<w.heap.size→k ∉ f→w'.heap[k]? = w.heap[k]?):Sl w0 w' (ps.set i q):=by
 obtain ⟨f,h1,h2,h3,h4⟩:=H.opn i hi
 obtain ⟨f',k1,k2,k3,k4⟩:=h f h1 h2 h3
 exact h4 w' q f' hb k1 k2 k3 k4
def emp:Pc:=⟨fun _ fp=>fp = [],fun h _=>h,fun h k hk=>by rw [h] at hk;cases hk⟩
def both (p q:Pc):Pc:=⟨fun w fp=>∃ f1 f2,fp=f1 ++ f2∧p.P w f1∧q.P w f2,
 fun ⟨f1,f2,e,h1,h2⟩ hm=>⟨f1,f2,e,p.mv h1 (fun k hk=>hm k (by rw [e];exact List.mem_append_left _ hk)),q.mv h2 (fun k hk=>hm k (by rw [e];exact List.mem_append_right _ hk))⟩,
 fun ⟨f1,f2,e,h1,h2⟩ k hk=>by
  rw [e] at hk
  rcases List.mem_append.1 hk with hk | hk
  ·exact p.lt h1 k hk
  ·exact q.lt h2 k hk⟩
theorem Sl.join (H:Sl w0 w ps) (i j:Nat) (hi:ps[i]? = some p) (hj:ps[j]? = some q) (hne:i ≠ j):Sl w0 w ((ps.set i (both p q)).set j emp):=by
 obtain ⟨fp,h1,h2,h3⟩:=H.own
 obtain ⟨f,fr,h4,h5,h6⟩:=SlF.at_ h1 hj
 obtain ⟨gp,g1,g2⟩:=h6 w emp [] (fun _ _=>rfl) rfl
 obtain ⟨f',fr',k4,k5,k6⟩:=SlF.at_ (i:=i) (p:=p) g1 (by rw [List.getElem?_set_ne (Ne.symm hne)];exact hi)
 obtain ⟨hp,l1,l2⟩:=k6 w (both p q) (f' ++ f) (fun _ _=>rfl) ⟨f',f,rfl,k4,h4⟩
 have hperm:hp.Perm fp:=by
  have e1:hp.Perm (f ++ (f' ++ fr')):=l2.trans (by rw [← List.append_assoc];exact List.Perm.append_right _ List.perm_append_comm)
  refine e1.trans ((List.Perm.append_left f ?_).trans h5.symm)
  exact (k5.symm).trans (by simpa using g2)
 rw [List.set_comm _ _ (Ne.symm hne)] at l1
 exact ⟨H.bel,hp,l1,(List.Perm.nodup_iff hperm).2 h2,fun k hk=>h3 k (hperm.mem_iff.1 hk)⟩
theorem Sl.get (H:Sl w0 w ps) (i:Nat) (hi:ps[i]? = some p):∃ f,p.P w f∧f.Nodup∧∀ k ∈ f,w0.heap.size≤k:=by
 obtain ⟨fp,h1,h2,h3⟩:=H.own
 obtain ⟨f,fr,h4,h5,_⟩:=SlF.at_ h1 hi
 exact ⟨f,h4,(List.nodup_append.1 ((List.Perm.nodup_iff h5).1 h2)).1,fun k hk=>h3 k (h5.mem_iff.2 (List.mem_append_left _ hk))⟩
theorem Sl.turn (H:Sl w0 w ps) (i:Nat) (hi:ps[i]? = some p) (h:∀ f,p.P w f→q.P w f):Sl w0 w (ps.set i q):=
 H.upd i hi H.bel (fun f hp hn _=>⟨f,h f hp,hn,fun k hk=>Or.inl hk,fun _ _ _=>rfl⟩)
theorem Sl.drop (H:Sl w0 w ps) (i:Nat) (hi:ps[i]? = some p):Sl w0 w (ps.set i emp):=
 H.upd i hi H.bel (fun f hp hn _=>⟨[],rfl,List.nodup_nil,(fun k hk=>by cases hk),fun _ _ _=>rfl⟩)
theorem Sl.one (H:Sl w0 w ps) (i:Nat) (hi:ps[i]? = some p:=by rfl):Sl w0 w [p]:=by
 obtain ⟨f,h1,h2,h3⟩:=H.get i hi
 exact ⟨H.bel,f ++ [],⟨f,[],rfl,h1,rfl⟩,by simpa using h2,by simpa using h3⟩
theorem SlF.sel:∀ (is:List Nat) {ps:List Pc} {fp:List Nat},is.Nodup→SlF w ps fp→fp.Nodup→∃ g,SlF w (is.map (fun i=>ps.getD i emp)) g∧g.Nodup∧∀ k ∈ g,k ∈ fp
 | [],_,_,_,_,_=>⟨[],rfl,List.nodup_nil,fun k hk=>by cases hk⟩
 | i :: is,ps,fp,hn,h,hd=>by
  obtain ⟨h1,h2⟩:=List.nodup_cons.1 hn
  by_cases hi:i<ps.length
  ·obtain ⟨f,fr,h3,h4,h5⟩:=SlF.at_ h (List.getElem?_eq_getElem hi)
   obtain ⟨fp',h6,h7⟩:=h5 w emp [] (fun _ _=>rfl) rfl
   obtain ⟨n1,n2,n3⟩:=List.nodup_append.1 ((List.Perm.nodup_iff h4).1 hd)
   obtain ⟨g,h8,h9,h10⟩:=SlF.sel is h2 h6 ((List.Perm.nodup_iff h7).2 (by simpa using n2))
   have hg:∀ k ∈ g,k ∈ fr:=fun k hk=>by simpa using h7.mem_iff.1 (h10 k hk)
   refine ⟨f ++ g,⟨f,g,rfl,?_,?_⟩,List.nodup_append.2 ⟨n1,h9,fun a ha b hb=>n3 a ha b (hg b hb)⟩,fun k hk=>h4.mem_iff.2 ?_⟩
   ·show (ps.getD i emp).P w f
    rw [List.getD_eq_getElem?_getD,List.getElem?_eq_getElem hi]
    exact h3
   ·have e:List.map (fun j=>(ps.set i emp).getD j emp) is=List.map (fun j=>ps.getD j emp) is:=List.map_congr_left (fun j hj=>by
     have hne:i ≠ j:=fun e=>h1 (by rw [e];exact hj)
     rw [List.getD_eq_getElem?_getD,List.getD_eq_getElem?_getD,List.getElem?_set_ne hne])
    show SlF w (List.map (fun j=>ps.getD j emp) is) g
    rw [← e]
    exact h8
   ·rcases List.mem_append.1 hk with hk | hk
    ·exact List.mem_append_left _ hk
    ·exact List.mem_append_right _ (hg k hk)
  ·obtain ⟨g,h8,h9,h10⟩:=SlF.sel is h2 h hd
   refine ⟨[] ++ g,⟨[],g,rfl,?_,h8⟩,h9,h10⟩
   show (ps.getD i emp).P w []
   rw [List.getD_eq_getElem?_getD,List.getElem?_eq_none (by omega)]
   rfl
theorem Sl.sel (H:Sl w0 w ps) (is:List Nat) (hn:is.Nodup:=by decide):Sl w0 w (is.map (fun i=>ps.getD i emp)):=by
 obtain ⟨fp,h1,h2,h3⟩:=H.own
 obtain ⟨g,h4,h5,h6⟩:=SlF.sel is hn h1 h2
 exact ⟨H.bel,g,h4,h5,fun k hk=>h3 k (h6 k hk)⟩
def bx (g:Nat) (cs:Array Value) (t:TypeId):Pc:=⟨fun w fp=>fp = [g]∧w.heap[g]? = some (.cells cs t (0,0)),fun ⟨e,h⟩ hm=>⟨e,(hm g (by rw [e];exact List.mem_singleton.2 rfl)).trans h⟩,fun ⟨e,h⟩ k hk=>by
 rw [e] at hk
 rw [List.mem_singleton.1 hk]
 exact blk_lt h⟩
theorem Sl.blk (H:Sl w0 w ps) (i:Nat) {g:Nat} {cs:Array Value} {t:TypeId} (hi:ps[i]? = some (bx g cs t)):w.heap[g]? = some (.cells cs t (0,0)):=by
 obtain ⟨f,⟨_,h⟩,_⟩:=H.get i hi
 exact h
theorem Sl.new (H:Sl w0 w ps) (cs:Array Value) (t:TypeId):Sl w0 (w.alloc (.cells cs t (0,0))) (ps ++ [bx w.heap.size cs t]):=
 H.call ⟨below_alloc (Below.refl _ _) _,[w.heap.size],⟨[w.heap.size],[],by simp,⟨rfl,blk_new _ _⟩,rfl⟩,by simp,by simp⟩
theorem Sl.put (H:Sl w0 w ps) (i:Nat) {g:Nat} {cs:Array Value} {t:TypeId} (hi:ps[i]? = some (bx g cs t)) (j:Nat) (u:Value):Sl w0 (w.setCell ⟨g,j,none⟩ u) (ps.set i (bx g (cs.setIfInBounds j u) t)):=by
 obtain ⟨f,⟨e,h⟩,_,hg⟩:=H.get i hi
 refine H.upd i hi (below_set H.bel (hg g (by rw [e];exact List.mem_singleton.2 rfl))) (fun f hp hn _=>⟨[g],⟨rfl,blk_set h j u⟩,by simp,fun k hk=>Or.inl (by rw [hp.1];exact hk),fun k _ hk=>Below.heap_setCell w ⟨g,j,none⟩ u k (fun e=>hk (by rw [hp.1,e];exact List.mem_singleton.2 rfl))⟩)
theorem Sl.f1 (H:Sl w0 w ps) (i:Nat) {g:Nat} {x:Value} {t:TypeId} (hi:ps[i]? = some (bx g #[x] t):=by rfl):w.cell? ⟨g,0,none⟩=some x∧w.frozen? ⟨g,0,none⟩=false:=by
 have h:=H.blk i hi
 exact ⟨blk_cell h 0,blk_frozen h 0⟩
theorem Sl.f2 (H:Sl w0 w ps) (i:Nat) {g:Nat} {x y:Value} {t:TypeId} (hi:ps[i]? = some (bx g #[x,y] t):=by rfl):(w.cell? ⟨g,0,none⟩=some x∧w.frozen? ⟨g,0,none⟩=false)∧w.cell? ⟨g,1,none⟩=some y∧w.frozen? ⟨g,1,none⟩=false:=by
 have h:=H.blk i hi
 exact ⟨⟨blk_cell h 0,blk_frozen h 0⟩,blk_cell h 1,blk_frozen h 1⟩
theorem Sl.f3 (H:Sl w0 w ps) (i:Nat) {g:Nat} {x y z:Value} {t:TypeId} (hi:ps[i]? = some (bx g #[x,y,z] t):=by rfl):(w.cell? ⟨g,0,none⟩=some x∧w.frozen? ⟨g,0,none⟩=false)∧(w.cell? ⟨g,1,none⟩=some y∧w.frozen? ⟨g,1,none⟩=false)∧w.cell? ⟨g,2,none⟩=some z∧w.frozen? ⟨g,2,none⟩=false:=by
 have h:=H.blk i hi
 exact ⟨⟨blk_cell h 0,blk_frozen h 0⟩,⟨blk_cell h 1,blk_frozen h 1⟩,blk_cell h 2,blk_frozen h 2⟩
theorem ba_ {w:World} {o:Obj}:Below w.heap.size w (w.alloc o):=below_alloc (Below.refl _ _) o
theorem sb_ {w w':World} {p q:Prop} (hb:Below w.heap.size w w') (h:p) (c:Below w.heap.size w w'→p→q:=by intro hb_ h_;(repeat (refine And.intro (pw_cell_below hb_ h_.1) ?_;replace h_:=h_.2));exact pw_cell_below hb_ h_):q:=c hb h
end
theorem tw_ {P:Program} {ops:Array Oper} {Q:Exit→Act→World→Prop} {md:Region.Mode} {S:World→Prop} {ds:List Nat} {T:Bool × List (List Nat × List Nat)} {oi oj:Oper} {fuel:Nat} {l:Array Bool} {a:Act} {w:World} (i j:Nat) (Ni Nj:Option Nat) (li lj:Array Bool) (hT:Aside0 (rtab md ops=T))
  (h1:∀ K:Act→World→Prop,Shut (∀ a' w',S w'→(S w'→wpAnyLast P md ops Q S ds fuel li a' w')→K a' w')→if Region.wanted oi (yielded ops a.tmps)=true then Oper.wp P oi a w K Q else K (a.put Ni undef) w)
  (h2:∀ K:Act→World→Prop,Shut (∀ a' w',S w'→(S w'→wpAnyLast P md ops Q S ds fuel lj a' w')→K a' w')→if Region.wanted oj (yielded ops a.tmps)=true then Oper.wp P oj a w K Q else K (a.put Nj undef) w)
  (hi:ops[i]? = some oi:=by rfl) (hj:ops[j]? = some oj:=by rfl) (hNi:oi.dst=Ni:=by rfl) (hNj:oj.dst=Nj:=by rfl) (hc:(readyT T.2 l.toList == [i,j] && l.toList.set i true == li.toList && l.toList.set j true == lj.toList)=true:=by kernel_rfl) (hdi:i ∉ ds:=by decide) (hdj:j ∉ ds:=by decide):wpAnyLast P md ops Q S ds (fuel+1) l a w:=
 two_ li lj hi hj hNi hNj (two_of hT.out hc) hdi hdj h1 h2
theorem ed_ {P:Program} {ops:Array Oper} {Q:Exit→Act→World→Prop} {md:Region.Mode} {S:World→Prop} {ds:List Nat} {fuel:Nat} {l:Array Bool} {a a':Act} {w:World} (h:wpAnyLast P md ops Q S ds fuel l a' w) (ha:a=a':=by simp only [putAll,Act.put,List.setIfInBounds_toArray,List.set_cons_zero,List.set_cons_succ];rfl):wpAnyLast P md ops Q S ds fuel l a w:=norm_ ha h
section
variable {P:Program} {ops:Array Oper} {rest:List Oper} {o:Oper} {a:Act} {Q:Exit→Act→World→Prop} {Kc:Act→World→Prop} {w0 W:World} {ps:List Pc}
theorem nw_ (H:Sl w0 W ps) (N:Tmp) (cs:Array Value) (t:TypeId) (hd:o.dst=some N)
  (h:∀ g w1,Sl w0 w1 (ps ++ [bx g cs t])→wpList P ops Q rest (a.put o.dst (.pointer (some ⟨g,0,none⟩))) w1) (hgd:o.guard=none:=by rfl)
  (hrun:(execOp a.eval o).run P W = .ok (.value (.pointer (some ⟨W.heap.size,0,none⟩))) (W.alloc (.cells cs t (0,0))):=by first | (go_simp;done) | (go_simp;rfl)):wpList P ops Q (o :: rest) a W:=
 Kd.event_run hgd hrun (h _ _ (H.new cs t))
theorem ns_ (H:Sl w0 W ps) (N:Tmp) (cs:Array Value) (t:TypeId) (hd:o.dst=some N)
  (h:∀ g w1,Sl w0 w1 (ps ++ [bx g cs t])→Below W.heap.size W w1→Kc (a.put o.dst (.pointer (some ⟨g,0,none⟩))) w1) (hw:Region.wanted o (yielded ops a.tmps)=true:=by rfl)
  (hrun:(execOp a.eval o).run P W = .ok (.value (.pointer (some ⟨W.heap.size,0,none⟩))) (W.alloc (.cells cs t (0,0))):=by first | (go_simp;done) | (go_simp;rfl)):if Region.wanted o (yielded ops a.tmps)=true then Oper.wp P o a W Kc Q else Kc (a.put o.dst undef) W:=
 event_step hw hrun (h _ _ (H.new cs t) ba_)
theorem Sl.put3 (H:Sl w0 W ps) (i:Nat) {g:Nat} {x y z:Value} {t:TypeId} (x' y' z':Value) (hi:ps[i]? = some (bx g #[x,y,z] t):=by rfl):Sl w0 (((W.setCell ⟨g,0,none⟩ x').setCell ⟨g,1,none⟩ y').setCell ⟨g,2,none⟩ z') (ps.set i (bx g #[x',y',z'] t)):=by
 have hl:=(List.getElem?_eq_some_iff.1 hi).1
 have h1:=H.put i hi 0 x'
 have h2:=h1.put i (by rw [List.getElem?_set_self hl]) 1 y'
 have h3:=h2.put i (by rw [List.getElem?_set_self (by rw [List.length_set];exact hl)]) 2 z'
 rw [List.set_set,List.set_set] at h3
 exact h3
theorem p3_ (H:Sl w0 W ps) (p:Tmp) (i:Nat) {g:Nat} {x y z x' y' z':Value} {t t':TypeId} {q:Operand} (ho:o.op = .store t' (.tmp p) q)
  (h:∀ w1,Sl w0 w1 (ps.set i (bx g #[x',y',z'] t))→wpList P ops Q rest a w1) (hi:ps[i]? = some (bx g #[x,y,z] t):=by rfl)
  (hrun:(execOp a.eval o).run P W = .ok .skip (((W.setCell ⟨g,0,none⟩ x').setCell ⟨g,1,none⟩ y').setCell ⟨g,2,none⟩ z'):=by first | (go_simp;done) | (go_simp;rfl)) (hgd:o.guard=none:=by rfl) (hN:o.dst=none:=by rfl):wpList P ops Q (o :: rest) a W:=by
 refine wpList_plain hgd fun K hK=>?_
 unfold Oper.wp
 rw [hrun]
 show K (a.put o.dst undef) _
 rw [hN]
 exact hK _ _ (h _ (H.put3 i x' y' z' hi))
theorem s1_ (H:Sl w0 W ps) (i j:Nat) {g:Nat} {cs:Array Value} {x':Value} {t:TypeId} (h:∀ w1,Sl w0 w1 (ps.set i (bx g (cs.setIfInBounds j x') t))→Kc a w1) (hi:ps[i]? = some (bx g cs t):=by rfl)
  (hrun:(execOp a.eval o).run P W = .ok .skip (W.setCell ⟨g,j,none⟩ x'):=by first | (go_simp;done) | (go_simp;rfl)) (hw:Region.wanted o (yielded ops a.tmps)=true:=by rfl) (hN:o.dst=none:=by rfl):if Region.wanted o (yielded ops a.tmps)=true then Oper.wp P o a W Kc Q else Kc (a.put none undef) W:=
 skip_ hw hN hrun (h _ (H.put i hi j x'))
theorem s3_ (H:Sl w0 W ps) (i:Nat) {g:Nat} {x y z x' y' z':Value} {t:TypeId} (h:∀ w1,Sl w0 w1 (ps.set i (bx g #[x',y',z'] t))→Kc a w1) (hi:ps[i]? = some (bx g #[x,y,z] t):=by rfl)
  (hrun:(execOp a.eval o).run P W = .ok .skip (((W.setCell ⟨g,0,none⟩ x').setCell ⟨g,1,none⟩ y').setCell ⟨g,2,none⟩ z'):=by first | (go_simp;done) | (go_simp;rfl)) (hw:Region.wanted o (yielded ops a.tmps)=true:=by rfl) (hN:o.dst=none:=by rfl):if Region.wanted o (yielded ops a.tmps)=true then Oper.wp P o a W Kc Q else Kc (a.put none undef) W:=
 skip_ hw hN hrun (h _ (H.put3 i x' y' z' hi))
theorem p1_ (H:Sl w0 W ps) (p:Tmp) (i j:Nat) {g:Nat} {cs:Array Value} {x':Value} {t t':TypeId} {q:Operand} (ho:o.op = .store t' (.tmp p) q)
  (h:∀ w1,Sl w0 w1 (ps.set i (bx g (cs.setIfInBounds j x') t))→wpList P ops Q rest a w1) (hi:ps[i]? = some (bx g cs t):=by rfl)
  (hrun:(execOp a.eval o).run P W = .ok .skip (W.setCell ⟨g,j,none⟩ x'):=by first | (go_simp;done) | (go_simp;rfl)) (hgd:o.guard=none:=by rfl) (hN:o.dst=none:=by rfl):wpList P ops Q (o :: rest) a W:=by
 refine wpList_plain hgd fun K hK=>?_
 unfold Oper.wp
 rw [hrun]
 show K (a.put o.dst undef) _
 rw [hN]
 exact hK _ _ (h _ (H.put i hi j x'))
end
theorem lt_same {w w':World} {k:Nat} (h:k<w.heap.size) (e:w'.heap[k]? = w.heap[k]?):k<w'.heap.size:=by
 rw [Array.getElem?_eq_getElem h] at e
 exact (Array.getElem?_eq_some_iff.1 e).1
def rwP {α:Type} (d:Kd α) (e:Nat) (v:Value) (xs:List α):Pc:=⟨fun w fp=>Kd.R d e w 0 (fun k=>k ∈ fp) v xs∧∀ k ∈ fp,k<w.heap.size,
 fun ⟨h,hl⟩ hm=>⟨Kd.R_step h (fun k hk _=>hm k hk),fun k hk=>lt_same (hl k hk) (hm k hk)⟩,fun ⟨_,hl⟩=>hl⟩
def nwP {α:Type} (d:Kd α) (e:Nat) (v:Value) (xs:List α):Pc:=⟨fun w fp=>Kd.N d e w 0 (fun k=>k ∈ fp) v xs∧∀ k ∈ fp,k<w.heap.size,
 fun ⟨h,hl⟩ hm=>⟨Kd.N_step h (fun k hk _=>hm k hk),fun k hk=>lt_same (hl k hk) (hm k hk)⟩,fun ⟨_,hl⟩=>hl⟩
def nlP {α:Type} (d:Kd α) (e e':Nat) (v:Value) (M:List (List α)) (u:Value) (S:List α):Pc:=⟨fun w fp=>Kd.N (Kd.slice e d) e' w 0 (fun k=>k ∈ fp) v M∧Kd.R d e w 0 (fun k=>k ∈ fp) u S∧∀ k ∈ fp,k<w.heap.size,
 fun ⟨h,g,hl⟩ hm=>⟨Kd.N_step h (fun k hk _=>hm k hk),Kd.R_step g (fun k hk _=>hm k hk),fun k hk=>lt_same (hl k hk) (hm k hk)⟩,fun ⟨_,_,hl⟩=>hl⟩
section
variable {w0 w w1:World} {ps:List Pc} {α:Type} {d:Kd α} {e e':Nat} {ok:Nat→Prop} {v u:Value} {xs S:List α} {M:List (List α)}
theorem Sl.newR (H:Sl w0 w ps) (hb:Below w.heap.size w w1) (ho:Kd.R d e w1 w.heap.size ok v xs):Sl w0 w1 (ps ++ [rwP d e v xs]):=by
 have hs:=hb.size
 refine H.call ⟨hb,List.range' w.heap.size (w1.heap.size - w.heap.size) ++ [],⟨_,[],rfl,⟨Kd.R_lower (Kd.R_mono (Kd.R_bound ho) (fun k hk=>?_)) (Nat.zero_le _),fun k hk=>?_⟩,rfl⟩,?_,fun k hk=>?_⟩
 ·rw [List.mem_range'_1]
  have:=hk.2.1
  have:=hk.2.2.1
  omega
 ·rw [List.mem_range'_1] at hk
  omega
 ·rw [List.append_nil];exact List.nodup_range'
 ·rw [List.append_nil,List.mem_range'_1] at hk
  exact hk.1
theorem Sl.rd (H:Sl w0 w ps) (i:Nat) (hi:ps[i]? = some (rwP d e v xs):=by rfl) (hM:∀ w ok x cs,d.M w 0 ok x cs→d.M w w0.heap.size ok x cs:=by exact fun _ _ _ _ h=>h):Kd.R d e w w0.heap.size (fun _=>True) v xs∧∃ A c,v = .slice A xs.length c∧xs.length≤c∧Kd.C d w A xs.length xs:=by
 obtain ⟨f,⟨h,hl⟩,hn,hg⟩:=H.get i hi
 have hr:=Kd.R_reads h
 refine ⟨Kd.R_mono (?_:Kd.R d e w w0.heap.size (fun k=>k ∈ f) v xs) (fun _ _=>trivial),hr⟩
 exact Kd.R_raise hM h (fun k hk=>hg k (h.1 k hk))
theorem Sl.rdN (H:Sl w0 w ps) (i:Nat) (hi:ps[i]? = some (nwP d e v xs):=by rfl):∃ A c,v = .slice A xs.length c∧xs.length≤c∧Kd.C d w A xs.length xs:=by
 obtain ⟨f,⟨h,hl⟩,hn,hg⟩:=H.get i hi
 exact Kd.N_reads h
theorem Sl.nl_n (H:Sl w0 w ps) (i:Nat) (hi:ps[i]? = some (nlP d e e' v M u S):=by rfl):Sl w0 w (ps.set i (nwP (Kd.slice e d) e' v M)):=
 H.turn i hi (fun f ⟨h,g,hl⟩=>⟨h,hl⟩)
theorem Sl.rd_c {A:Option Addr} {n c:Nat} (H:Sl w0 w ps) (i:Nat) (hi:ps[i]? = some (rwP d e (.slice A n c) xs):=by rfl):Kd.C d w A xs.length xs:=by
 obtain ⟨f,⟨h,hl⟩,hn,hg⟩:=H.get i hi
 exact (Kd.R_reads' h).2.2
theorem Sl.rdN_c {A:Option Addr} {n c:Nat} (H:Sl w0 w ps) (i:Nat) (hi:ps[i]? = some (nwP d e (.slice A n c) xs):=by rfl):Kd.C d w A xs.length xs:=by
 obtain ⟨f,⟨h,hl⟩,hn,hg⟩:=H.get i hi
 exact (Kd.N_reads' h).2.2
theorem Sl.grown {q:Pc} {f:List Nat} {row:Option Nat} {i:Nat} (hb:∀ k ∈ f,w0.heap.size≤k) (hn:f.Nodup) (hlt:∀ k ∈ f,k<w.heap.size) (B:Below w0.heap.size w0 w) (hback:∀ (w':World) (q:Pc) (f':List Nat),Below w0.heap.size w0 w'→q.P w' f'→f'.Nodup→(∀ k ∈ f',k ∈ f∨w.heap.size≤k)→(∀ k,k<w.heap.size→k ∉ f→w'.heap[k]? = w.heap[k]?)→Sl w0 w' (ps.set i q))
  (hg:w.grownBy w1 row) (hr:∀ k,row=some k→k ∈ f) (hq:q.P w1 (f ++ List.range' w.heap.size (w1.heap.size - w.heap.size))):Sl w0 w1 (ps.set i q):=by
 refine hback w1 q _ (B.grown hg B.size (fun k hk=>hb k (hr k hk))) hq (List.nodup_append.2 ⟨hn,List.nodup_range',fun a ha b hb' e=>?_⟩) (fun k hk=>?_) (fun k hk hkf=>hg.block k hk (fun e=>hkf (hr k e.symm)))
 ·rw [List.mem_range'_1] at hb'
  have:=hlt a ha
  omega
 ·rcases List.mem_append.1 hk with hk | hk
  ·exact Or.inl hk
  ·rw [List.mem_range'_1] at hk
   exact Or.inr hk.1
theorem in_new {f:List Nat} {k:Nat} (h:k ∈ f∨w.heap.size≤k) (hk:k<w1.heap.size):k ∈ f ++ List.range' w.heap.size (w1.heap.size - w.heap.size):=by
 rcases h with h | h
 ·exact List.mem_append_left _ h
 ·refine List.mem_append_right _ ?_
  rw [List.mem_range'_1]
  omega
theorem new_lt {f:List Nat} (hlt:∀ k ∈ f,k<w.heap.size) (hs:w.heap.size≤w1.heap.size):∀ k ∈ f ++ List.range' w.heap.size (w1.heap.size - w.heap.size),k<w1.heap.size:=fun k hk=>by
 rcases List.mem_append.1 hk with hk | hk
 ·have:=hlt k hk
  omega
 ·rw [List.mem_range'_1] at hk
  omega
end
section
variable {P:Program} {ops:Array Oper} {rest:List Oper} {o:Oper} {a:Act} {Q:Exit→Act→World→Prop} {Kc:Act→World→Prop} {w0 W:World} {ps:List Pc} {α:Type} {d:Kd α} {e e':TypeId} {v u:Value} {xs L:List α} {M:List (List α)}
theorem Sl.apR (H:Sl w0 W ps) (i:Nat) (p:α) (cs:List Value) (s x:Operand) (t:TypeId) (z:Value) (bytes:Nat) (hgd:o.guard=none)
  (ho:o.op = .call { callee:=.builtin .append,args:=#[s,x],argTypes:=#[t,t] })
  (ht:P.underlying t=some (.slice e)) (hinfo:(P.info? e).map (fun i=>(i.zero,i.size,i.bytes))=some (some z,d.sz,bytes)) (hz:z.cells.size=d.sz) (hs0:0<d.sz) (hb0:0<bytes)
  (hs:a.eval s=v) (hx:a.eval x = .slice (some ⟨W.heap.size,0,none⟩) 1 1) (hp:d.M W 0 (fun _=>False) p cs) (hl:(xs.length+1) * bytes≤140737488355328)
  (h:∀ v1 w1,Sl w0 w1 (ps.set i (rwP d e v1 (xs ++ [p])))→wpList P ops Q rest (a.put o.dst v1) w1) (hi:ps[i]? = some (rwP d e v xs):=by rfl) :
  wpList P ops Q (o :: rest) a (W.alloc (.cells cs.toArray e)):=by
 obtain ⟨f,⟨h1,h1l⟩,hn,hb,hback⟩:=H.opn i hi
 refine Kd.R_append d (w0:=W) 0 hgd s x t e z bytes ho ht hinfo hz hs0 hb0 v xs p cs (fun k=>k ∈ f∨W.heap.size≤k) (fun _=>False) hs hx hp (fun _ hk=>hk.elim) (fun k hk=>Or.inr hk) (Kd.R_mono h1 (fun k hk=>Or.inl hk)) (Below.refl _ _) (Nat.zero_le _) hl ?_
 intro v1 w1 hr hB hg hat
 exact h v1 w1 (Sl.grown hb hn h1l H.bel hback hg h1.1 ⟨Kd.R_mono (Kd.R_bound hr) (fun k hk=>in_new hk.1 hk.2.2.1),new_lt h1l hg.size⟩)
theorem Sl.apR_step (H:Sl w0 W ps) (i:Nat) (p:α) (cs:List Value) (s x:Operand) (t:TypeId) (z:Value) (bytes:Nat)
  (ho:o.op = .call { callee:=.builtin .append,args:=#[s,x],argTypes:=#[t,t] })
  (ht:P.underlying t=some (.slice e)) (hinfo:(P.info? e).map (fun i=>(i.zero,i.size,i.bytes))=some (some z,d.sz,bytes)) (hz:z.cells.size=d.sz) (hs0:0<d.sz) (hb0:0<bytes)
  (hs:a.eval s=v) (hx:a.eval x = .slice (some ⟨W.heap.size,0,none⟩) 1 1) (hp:d.M W 0 (fun _=>False) p cs) (hl:(xs.length+1) * bytes≤140737488355328)
  (h:∀ v1 w1,Sl w0 w1 (ps.set i (rwP d e v1 (xs ++ [p])))→Kc (a.put o.dst v1) w1) (hi:ps[i]? = some (rwP d e v xs):=by rfl) (hw:Region.wanted o (yielded ops a.tmps)=true:=by rfl) :
  if Region.wanted o (yielded ops a.tmps)=true then Oper.wp P o a (W.alloc (.cells cs.toArray e)) Kc Q else Kc (a.put o.dst undef) (W.alloc (.cells cs.toArray e)):=by
 obtain ⟨f,⟨h1,h1l⟩,hn,hb,hback⟩:=H.opn i hi
 refine Kd.R_append_step d (w0:=W) 0 hw s x t e z bytes ho ht hinfo hz hs0 hb0 v xs p cs (fun k=>k ∈ f∨W.heap.size≤k) (fun _=>False) hs hx hp (fun _ hk=>hk.elim) (fun k hk=>Or.inr hk) (Kd.R_mono h1 (fun k hk=>Or.inl hk)) (Below.refl _ _) (Nat.zero_le _) hl ?_
 intro v1 w1 hr hB hg hat
 exact h v1 w1 (Sl.grown hb hn h1l H.bel hback hg h1.1 ⟨Kd.R_mono (Kd.R_bound hr) (fun k hk=>in_new hk.1 hk.2.2.1),new_lt h1l hg.size⟩)
theorem Sl.apN (H:Sl w0 W ps) (i j:Nat) (s x:Operand) (t:TypeId) (z:Value) (bytes:Nat) (hgd:o.guard=none)
  (ho:o.op = .call { callee:=.builtin .append,args:=#[s,x],argTypes:=#[t,t] })
  (ht:P.underlying t=some (.slice e')) (hinfo:(P.info? e').map (fun i=>(i.zero,i.size,i.bytes))=some (some z,1,bytes)) (hz:z.cells.size=1) (hb0:0<bytes)
  (hs:a.eval s=v) (hx:a.eval x = .slice (some ⟨W.heap.size,0,none⟩) 1 1) (hl:(M.length+1) * bytes≤140737488355328)
  (h:∀ v1 w1,Sl w0 w1 ((ps.set i (nlP d e e' v1 (M ++ [L]) u L)).set j emp)→wpList P ops Q rest (a.put o.dst v1) w1) (hi:ps[i]? = some (nwP (Kd.slice e d) e' v M):=by rfl) (hj:ps[j]? = some (rwP d e u L):=by rfl) (hij:i ≠ j:=by decide) :
  wpList P ops Q (o :: rest) a (W.alloc (.cells #[u] e')):=by
 have HJ:=H.join i j hi hj hij
 have hp:((ps.set i (both (nwP (Kd.slice e d) e' v M) (rwP d e u L))).set j emp)[i]? = some (both (nwP (Kd.slice e d) e' v M) (rwP d e u L)):=by rw [List.getElem?_set_ne (Ne.symm hij),List.getElem?_set_self (List.getElem?_eq_some_iff.1 hi).1]
 obtain ⟨f,⟨f1,f2,ef,⟨h1,h1l⟩,⟨h2,h2l⟩⟩,hn,hb,hback⟩:=HJ.opn i hp
 have hd:∀ k ∈ f2,k ∉ f1:=fun k h3 h4=>by
  rw [ef] at hn
  exact (List.nodup_append.1 hn).2.2 k h4 k h3 rfl
 have hfl:∀ k ∈ f,k<W.heap.size:=fun k hk=>by
  rw [ef] at hk
  rcases List.mem_append.1 hk with hk | hk
  ·exact h1l k hk
  ·exact h2l k hk
 obtain ⟨A,c,eu,hlc,hC⟩:=Kd.R_reads h2
 have hfk:Kd.FK (Kd.slice e d) W (fun k=>k ∈ f2) L [u]:=by
  subst eu
  exact Kd.FK_slice_mk hlc (Kd.R_F h2)
 have hv:∀ k,v.ownBlock=some k→k ∈ f1:=h1.1
 refine Kd.N_append (Kd.slice e d) (w0:=W) 0 hgd s x t e' z bytes ho ht hinfo hz Nat.one_pos hb0 v M L [u] (fun k=>k ∈ f∨W.heap.size≤k) (fun k=>k ∈ f2) hs hx hfk (fun k hk=>⟨Or.inl (by rw [ef];exact List.mem_append_right _ hk),fun e=>hd k hk (hv k e.symm)⟩) (fun k hk=>Or.inr hk) (Kd.N_mono h1 (fun k hk=>Or.inl (by rw [ef];exact List.mem_append_left _ hk))) (Below.refl _ _) (Nat.zero_le _) hl ?_
 intro v1 w1 hr hB hg hat
 have hset:((ps.set i (both (nwP (Kd.slice e d) e' v M) (rwP d e u L))).set j emp).set i (nlP d e e' v1 (M ++ [L]) u L)=(ps.set i (nlP d e e' v1 (M ++ [L]) u L)).set j emp:=by rw [List.set_comm _ _ (Ne.symm hij),List.set_set]
 have hR:Kd.R d e w1 0 (fun k=>k ∈ f ++ List.range' W.heap.size (w1.heap.size - W.heap.size)) u L:=Kd.R_mono (Kd.R_step h2 (fun k hk hlt=>hg.block k hlt (fun e=>hd k hk (hv k e.symm)))) (fun k hk=>List.mem_append_left _ (by rw [ef];exact List.mem_append_right _ hk))
 refine h v1 w1 ?_
 rw [← hset]
 exact Sl.grown hb hn hfl HJ.bel hback hg (fun k hk=>by rw [ef];exact List.mem_append_left _ (hv k hk)) ⟨Kd.N_mono (Kd.N_bound hr) (fun k hk=>in_new hk.1 hk.2),hR,new_lt hfl hg.size⟩
end
theorem Sl.nz {w0 w:World} {ps qs:List Pc} (H:Sl w0 w ps) (e:ps=qs:=by simp only [List.cons_append,List.nil_append,List.set_cons_zero,List.set_cons_succ];rfl):Sl w0 w qs:=e ▸ H
end Go.Proofs.Ytogamkblkoobkaa
end
section
namespace Go.Proofs.Ytogamkblkoobkaa.P
open Go.RowKit Go.Proofs.YtogamkblkoobkaaW.PrintWords Go.Proofs.YtogamkblkoobkaaW.PrintLast Go.Proofs.YtogamkblkoobkaaW.PrintMore
attribute [local go_sem] max2_int min2_int max_two min_two max_three min_three max_four min_four
end Go.Proofs.Ytogamkblkoobkaa.P
end
section
namespace Go.Proofs.Ytogamkblkoobkaa
open Go.RowKit Go.Shelf Go.Proofs.Ytogamkblkoobkaa.P Go.Proofs.Ytogamkblkoobkaa.Wk Go.Proofs.YtogamkblkoobkaaW.PrintWords Go.Proofs.YtogamkblkoobkaaW.PrintLast Go.Proofs.YtogamkblkoobkaaW.PrintMore
def dvP (b:Nat) (v0 v1:Value) (xs:List Bool) (xss:List (List Int)):Pc:=⟨fun w fp=>Kd.R Kd.bool 4 w b (fun k=>k ∈ fp) v0 xs∧Kd.S (Kd.slice 3 (Kd.int .i64)) 67 w b (fun k=>k ∈ fp) v1 xss∧∀ k ∈ fp,k<w.heap.size,
 fun ⟨h,g,hl⟩ hm=>⟨Kd.R_step h (fun k hk _=>hm k hk),Kd.S_step g (fun k hk _=>hm k hk),fun k hk=>lt_same (hl k hk) (hm k hk)⟩,fun ⟨_,_,hl⟩=>hl⟩
section
variable {w0 w w1:World} {ps:List Pc} {ok0 ok1:Nat→Prop} {v0 v1:Value} {xs:List Bool} {xss:List (List Int)} {b:Nat}
theorem Sl.newD (H:Sl w0 w ps) (hb:Below w.heap.size w w1) (h0:Kd.R Kd.bool 4 w1 w.heap.size ok0 v0 xs) (h1:Kd.S (Kd.slice 3 (Kd.int .i64)) 67 w1 w.heap.size ok1 v1 xss):Sl w0 w1 (ps ++ [dvP w0.heap.size v0 v1 xs xss]):=by
 have hs:=hb.size
 have hin:∀ k,w.heap.size≤k→k<w1.heap.size→k ∈ List.range' w.heap.size (w1.heap.size - w.heap.size):=fun k h1 h2=>by
  rw [List.mem_range'_1]
  omega
 refine H.call ⟨hb,List.range' w.heap.size (w1.heap.size - w.heap.size) ++ [],⟨_,[],rfl,⟨Kd.R_lower (Kd.R_mono (Kd.R_bound h0) (fun k hk=>hin k hk.2.1 hk.2.2.1)) H.bel.size,Kd.S_lower (Kd.S_mono (Kd.S_bound h1) (fun k hk=>hin k hk.2.1 hk.2.2.1)) H.bel.size,fun k hk=>?_⟩,rfl⟩,?_,fun k hk=>?_⟩
 ·rw [List.mem_range'_1] at hk
  omega
 ·rw [List.append_nil];exact List.nodup_range'
 ·rw [List.append_nil,List.mem_range'_1] at hk
  exact hk.1
theorem Sl.dv (H:Sl w0 w ps) (i:Nat) (hi:ps[i]? = some (dvP b v0 v1 xs xss):=by rfl):∃ A0 c0 A1 c1,v0 = .slice A0 xs.length c0∧v1 = .slice A1 xss.length c1∧xs.length≤c0∧xss.length≤c1:=by
 obtain ⟨f,⟨h,g,hl⟩,hn,hg⟩:=H.get i hi
 obtain ⟨A0,c0,e0,h0,_⟩:=Kd.R_reads h
 obtain ⟨A1,c1,e1,h1,_⟩:=Kd.S_reads g
 exact ⟨A0,c0,A1,c1,e0,e1,h0,h1⟩
theorem Sl.dv0 {A:Option Addr} {n c:Nat} (H:Sl w0 w ps) (i:Nat) (hi:ps[i]? = some (dvP b (.slice A n c) v1 xs xss):=by rfl):Kd.C Kd.bool w A xs.length xs:=by
 obtain ⟨f,⟨h,g,hl⟩,hn,hg⟩:=H.get i hi
 exact (Kd.R_reads' h).2.2
theorem Sl.dv1 {A:Option Addr} {n c:Nat} (H:Sl w0 w ps) (i:Nat) (hi:ps[i]? = some (dvP b v0 (.slice A n c) xs xss):=by rfl):Kd.C (Kd.slice 3 (Kd.int .i64)) w A xss.length xss:=by
 obtain ⟨f,⟨h,g,hl⟩,hn,hg⟩:=H.get i hi
 exact (Kd.S_reads' g).2.2
end
section
variable {P:Program} {ops:Array Oper} {rest:List Oper} {o:Oper} {a:Act} {Q:Exit→Act→World→Prop} {w0 W:World} {ps:List Pc}
theorem p2_ (H:Sl w0 W ps) (p:Tmp) (i:Nat) {g:Nat} {x y x' y':Value} {t t':TypeId} {q:Operand} (ho:o.op = .store t' (.tmp p) q)
  (h:∀ w1,Sl w0 w1 (ps.set i (bx g #[x',y'] t))→wpList P ops Q rest a w1) (hi:ps[i]? = some (bx g #[x,y] t):=by rfl)
  (hrun:(execOp a.eval o).run P W = .ok .skip ((W.setCell ⟨g,0,none⟩ x').setCell ⟨g,1,none⟩ y'):=by first | (go_simp;done) | (go_simp;rfl)) (hgd:o.guard=none:=by rfl) (hN:o.dst=none:=by rfl):wpList P ops Q (o :: rest) a W:=by
 refine wpList_plain hgd fun K hK=>?_
 unfold Oper.wp
 rw [hrun]
 show K (a.put o.dst undef) _
 rw [hN]
 have hl:=(List.getElem?_eq_some_iff.1 hi).1
 have h1:=H.put i hi 0 x'
 have h2:=h1.put i (by rw [List.getElem?_set_self hl]) 1 y'
 rw [List.set_set] at h2
 exact hK _ _ (h _ h2)
end
end Go.Proofs.Ytogamkblkoobkaa
end
section
namespace Go.Proofs.Ytogamkblkoobkaa.Wu
open Go.RowKit Go.Proofs.Ytogamkblkoobkaa.P Go.Proofs.Ytogamkblkoobkaa.Pl Go.Proofs.YtogamkblkoobkaaW.PrintWords Go.Proofs.YtogamkblkoobkaaW.PrintLast Go.Proofs.YtogamkblkoobkaaW.PrintMore
def pc (j:Nat):ByteArray:=(⟨#[97,98,99]⟩:ByteArray).extract j (j+1)
def three (w:ByteArray):List ByteArray:=[w ++ pc 0,w ++ pc 1,w ++ pc 2]
def longer (l:List ByteArray):List ByteArray:=l.flatMap three
def wordsN:Nat→List ByteArray
 | 0=>[⟨#[]⟩]
 | n+1=>longer (wordsN n)
theorem len_longer (l:List ByteArray):(longer l).length=3 * l.length:=by
 induction l with
 | nil=>rfl
 | cons a t ih=>simp only [longer,List.flatMap_cons,List.length_append,three,List.length_cons,List.length_nil] at ih ⊢;omega
theorem size_pc (j:Nat) (h:j<3):(pc j).size=1:=by
 match j,h with
 | 0,_=>rfl
 | 1,_=>rfl
 | 2,_=>rfl
theorem size_longer {l:List ByteArray} {m:Nat} (h:∀ w ∈ l,w.size=m):∀ w ∈ longer l,w.size=m+1:=by
 intro w hw
 simp only [longer,List.mem_flatMap,three,List.mem_cons,List.not_mem_nil,or_false] at hw
 obtain ⟨x,hx,rfl | rfl | rfl⟩:=hw <;> simp only [ByteArray.size_append,h x hx] <;> rfl
theorem size_words (n:Nat):∀ w ∈ wordsN n,w.size=n:=by
 induction n with
 | zero=>intro w hw;simp only [wordsN,List.mem_singleton] at hw;subst hw;rfl
 | succ n ih=>exact size_longer ih
theorem len_words (n:Nat):(wordsN n).length=3 ^ n:=by
 induction n with
 | zero=>rfl
 | succ n ih=>rw [wordsN,len_longer,ih,Nat.pow_succ];omega
theorem spec_words_l2 (n:Int) (l:List ByteArray) (r:Int) (i:Nat) (out:List ByteArray) (res:List ByteArray) (hi:i<l.length) (hsz:l[i].size≤1000) (ho:out.length≤1000000) (hll:l.length≤1000000)
  (h:Ev (fun k=>spec_WordsOfLength.l1 k n l r (out ++ three l[i]) ((i+1:Nat):Int)) res):Ev (fun k=>spec_WordsOfLength.l2 k n l r out i 0) res:=by
 have w0:wrap64 ((0:Int)+1)=1:=by unfold wrap64;omega
 have w1:wrap64 ((1:Int)+1)=2:=by unfold wrap64;omega
 have w2:wrap64 ((2:Int)+1)=3:=by unfold wrap64;omega
 have p0:(⟨#[97,98,99]⟩:ByteArray).extract (0:Int).toNat (1:Int).toNat=pc 0:=rfl
 have p1:(⟨#[97,98,99]⟩:ByteArray).extract (1:Int).toNat (2:Int).toNat=pc 1:=rfl
 have p2:(⟨#[97,98,99]⟩:ByteArray).extract (2:Int).toNat (3:Int).toNat=pc 2:=rfl
 refine next ?_
 simp only [spec_WordsOfLength.l2,if_pos (show (0:Int)<3 by omega),if_pos (show (0:Int)≤i by omega),if_pos (show (i:Int)<(l.length:Int) by omega),if_pos (show (0:Int)≤0 by omega),w0,if_pos (show (0:Int)≤1 by omega),if_pos (show (1:Int)≤3 by omega),p0,rdOf_get _ l i hi,size_pc 0 (by omega),if_pos (show l[i].size+1≤9223372036854775807 by omega),if_pos (show out.length<8796093022208 by omega)]
 refine next ?_
 simp only [spec_WordsOfLength.l2,if_pos (show (1:Int)<3 by omega),if_pos (show (0:Int)≤i by omega),if_pos (show (i:Int)<(l.length:Int) by omega),if_pos (show (0:Int)≤1 by omega),w1,if_pos (show (1:Int)≤2 by omega),if_pos (show (2:Int)≤3 by omega),p1,rdOf_get _ l i hi,size_pc 1 (by omega),if_pos (show l[i].size+1≤9223372036854775807 by omega),List.length_append,List.length_cons,List.length_nil,if_pos (show out.length+(0+1)<8796093022208 by omega)]
 refine next ?_
 simp only [spec_WordsOfLength.l2,if_pos (show (2:Int)<3 by omega),if_pos (show (0:Int)≤i by omega),if_pos (show (i:Int)<(l.length:Int) by omega),if_pos (show (0:Int)≤2 by omega),w2,if_pos (show (2:Int)≤3 by omega),if_pos (show (3:Int)≤3 by omega),p2,rdOf_get _ l i hi,size_pc 2 (by omega),if_pos (show l[i].size+1≤9223372036854775807 by omega),List.length_append,List.length_cons,List.length_nil,if_pos (show out.length+(0+1)+(0+1)<8796093022208 by omega)]
 refine next ?_
 simp only [spec_WordsOfLength.l2,if_neg (show ¬ (3:Int)<3 by omega)]
 have e:out ++ [l[i] ++ pc 0] ++ [l[i] ++ pc 1] ++ [l[i] ++ pc 2]=out ++ three l[i]:=by simp [three]
 rw [e]
 rw [up1 (by omega)]
 exact h
theorem spec_words_l1 (n:Int) (l:List ByteArray) (r:Int) (hsz:∀ w ∈ l,w.size≤1000) (hll:l.length≤100000) (res:List ByteArray) (h:Ev (fun k=>spec_WordsOfLength.l0 k n (longer l) (wrap64 (r+1))) res) :
  ∀ (d i:Nat) (out:List ByteArray),i+d=l.length→out=longer (l.take i)→Ev (fun k=>spec_WordsOfLength.l1 k n l r out i) res:=by
 intro d
 induction d with
 | zero =>
  intro i out hd ho
  refine next ?_
  simp only [spec_WordsOfLength.l1,if_neg (show ¬ (i:Int)<(l.length:Int) by omega)]
  rw [ho,List.take_of_length_le (by omega)]
  exact h
 | succ d ih =>
  intro i out hd ho
  have hi:i<l.length:=by omega
  refine next ?_
  simp only [spec_WordsOfLength.l1,if_pos (show (i:Int)<(l.length:Int) by omega)]
  refine spec_words_l2 n l r i out res hi (hsz _ (List.getElem_mem _)) (by rw [ho,len_longer,List.length_take];omega) (by omega) ?_
  refine ih (i+1) _ (by omega) ?_
  rw [ho,List.take_succ_eq_append_getElem hi]
  simp only [longer,List.flatMap_append,List.flatMap_cons,List.flatMap_nil,List.append_nil]
theorem spec_words_l0 (n:Nat) (hn:n≤5):∀ (d i:Nat),i+d=n→Ev (fun k=>spec_WordsOfLength.l0 k n (wordsN i) i) (wordsN n):=by
 intro d
 induction d with
 | zero =>
  intro i h
  refine next ?_
  simp only [spec_WordsOfLength.l0,if_neg (show ¬ (i:Int)<(n:Int) by omega)]
  have:i=n:=by omega
  subst this
  exact Ev.now _
 | succ d ih =>
  intro i h
  have hlen:(wordsN i).length≤100000:=by
   rw [len_words]
   have:3 ^ i≤3 ^ 5:=Nat.pow_le_pow_right (by omega) (by omega)
   omega
  refine next ?_
  simp only [spec_WordsOfLength.l0,if_pos (show (i:Int)<(n:Int) by omega)]
  refine spec_words_l1 n (wordsN i) i (fun w hw=>by rw [size_words i w hw];omega) hlen _ ?_ (wordsN i).length 0 [] (by omega) rfl
  rw [up1 (by omega)]
  exact ih (i+1) (by omega)
theorem spec_words (n:Int):Ev (fun k=>spec_WordsOfLength.f k n) (if 0≤n∧n≤5 then wordsN n.toNat else []):=by
 simp only [spec_WordsOfLength.f,spec_l1In.f]
 by_cases h0:0≤n
 ·by_cases h5:n≤5
  ·simp only [ge_iff_le,if_pos h0,Option.bind_some,h5,decide_true,if_true,h0,true_and]
   obtain ⟨m,rfl⟩:=Int.eq_ofNat_of_zero_le h0
   rw [Int.toNat_natCast]
   exact spec_words_l0 m (by omega) m 0 (by omega)
  ·simp only [ge_iff_le,if_pos h0,Option.bind_some,h5,decide_false,if_neg Bool.false_ne_true,h0,true_and,if_false]
   exact Ev.now _
 ·simp only [ge_iff_le,if_neg h0,Option.bind_some,h0,false_and,if_false,if_neg Bool.false_ne_true]
  exact Ev.now _
def upto:Nat→List ByteArray
 | 0=>wordsN 0
 | n+1=>upto n ++ wordsN (n+1)
def before:Nat→List ByteArray
 | 0=>[]
 | n+1=>upto n
theorem before_next (i:Nat):before i ++ wordsN i=upto i:=by cases i <;> rfl
theorem len_upto (n:Nat) (hn:n≤5):(upto n).length≤1000∧(before n).length≤1000:=by
 match n,hn with
 | 0,_=>decide +kernel
 | 1,_=>decide +kernel
 | 2,_=>decide +kernel
 | 3,_=>decide +kernel
 | 4,_=>decide +kernel
 | 5,_=>decide +kernel
theorem spec_upto_l0 (n:Int) (m:Nat) (hm:(m:Int)=min n 5):∀ (d i:Nat),i+d=m+1→Ev (fun k=>spec_WordsUpTo.l0 k n (before i) i) (upto m):=by
 intro d
 induction d with
 | zero =>
  intro i h
  have e:i=m+1:=by omega
  subst e
  refine next ?_
  by_cases h1:((m+1:Nat):Int)≤n
  ·simp only [spec_WordsUpTo.l0,if_pos h1,if_neg (show ¬ ((m+1:Nat):Int)≤5 by omega)]
   exact Ev.now _
  ·simp only [spec_WordsUpTo.l0,if_neg h1]
   exact Ev.now _
 | succ d ih =>
  intro i h
  refine next ?_
  simp only [spec_WordsUpTo.l0,if_pos (show (i:Int)≤n by omega),if_pos (show (i:Int)≤5 by omega),up1 (show i<9223372036854775807 by omega)]
  refine Ev.bind (spec_words i) ?_
  rw [if_pos (by omega),Int.toNat_natCast]
  have hl:=(len_upto i (by omega)).1
  rw [← before_next,List.length_append] at hl
  simp only [if_pos (show (before i).length+(wordsN i).length<8796093022208 by omega),before_next]
  exact ih (i+1) (by omega)
theorem spec_upto (n:Int):Ev (fun k=>spec_WordsUpTo.f k n) (if n<0 then [] else upto (min n 5).toNat):=by
 simp only [spec_WordsUpTo.f]
 by_cases h:n<0
 ·rw [if_pos h]
  refine next ?_
  simp only [spec_WordsUpTo.l0,if_neg (show ¬ (0:Int)≤n by omega)]
  exact Ev.now _
 ·rw [if_neg h]
  exact spec_upto_l0 n (min n 5).toNat (by omega) ((min n 5).toNat+1) 0 (by omega)
theorem lets_longer {l:List ByteArray} (h:∀ w ∈ l,lets (bytesOf w)=true):∀ w ∈ longer l,lets (bytesOf w)=true:=by
 intro w hw
 simp only [longer,List.mem_flatMap,three,List.mem_cons,List.not_mem_nil,or_false] at hw
 have hb:∀ a b:ByteArray,bytesOf (a ++ b)=bytesOf a ++ bytesOf b:=fun a b=>by simp [bytesOf,ByteArray.data_append]
 have hp:∀ j,j<3→lets (bytesOf (pc j))=true:=fun j hj=>by
  match j,hj with
  | 0,_=>rfl
  | 1,_=>rfl
  | 2,_=>rfl
 have ha:∀ a b:ByteArray,lets (bytesOf a)=true→lets (bytesOf b)=true→lets (bytesOf (a ++ b))=true:=fun a b h1 h2=>by
  rw [hb]
  unfold lets at h1 h2 ⊢
  rw [List.all_append,h1,h2]
  rfl
 obtain ⟨x,hx,rfl | rfl | rfl⟩:=hw
 ·exact ha _ _ (h x hx) (hp 0 (by omega))
 ·exact ha _ _ (h x hx) (hp 1 (by omega))
 ·exact ha _ _ (h x hx) (hp 2 (by omega))
theorem lets_words (n:Nat):∀ w ∈ wordsN n,lets (bytesOf w)=true:=by
 induction n with
 | zero=>intro w hw;simp only [wordsN,List.mem_singleton] at hw;subst hw;rfl
 | succ n ih=>exact lets_longer ih
theorem upto_words (n:Nat):∀ w ∈ upto n,lets (bytesOf w)=true∧w.size≤n:=by
 induction n with
 | zero=>intro w hw;exact ⟨lets_words 0 w hw,by rw [size_words 0 w hw];omega⟩
 | succ n ih =>
  intro w hw
  rcases List.mem_append.mp hw with hw | hw
  ·obtain ⟨h1,h2⟩:=ih w hw
   exact ⟨h1,by omega⟩
  ·exact ⟨lets_words _ w hw,by rw [size_words _ w hw];omega⟩
end Go.Proofs.Ytogamkblkoobkaa.Wu
end
section
namespace Go.Proofs.Ytogamkblkoobkaa.P
open Go.RowKit Go.Proofs.YtogamkblkoobkaaW.PrintWords Go.Proofs.YtogamkblkoobkaaW.PrintLast Go.Proofs.YtogamkblkoobkaaW.PrintMore
attribute [local go_sem] max2_int min2_int max_two min_two max_three min_three max_four min_four
end Go.Proofs.Ytogamkblkoobkaa.P
end
section
namespace Go.Proofs.Ytogamkblkoobkaa.P
open Go.RowKit Go.Proofs.YtogamkblkoobkaaW.PrintWords Go.Proofs.YtogamkblkoobkaaW.PrintLast Go.Proofs.YtogamkblkoobkaaW.PrintMore
attribute [local go_sem] max2_int min2_int max_two min_two max_three min_three max_four min_four
mutual
def spec_EqualDfa.j0:Nat→Bool→List Bool→List (List Int)→List Bool→List (List Int)→Option (Bool)
 | 0,_,_,_,_,_=>none
 | k+1,x22,al,am,an,ao=>if x22=true then (some false) else (spec_EqualDfa.l0 k 0 al am an ao)
def spec_EqualDfa.l0:Nat→Int→List Bool→List (List Int)→List Bool→List (List Int)→Option (Bool)
 | 0,_,_,_,_,_=>none
 | k+1,x5,al,am,an,ao=>if x5<(al.length:Int) then (if 0≤x5 then (if x5<(an.length:Int) then (if ((rdOf false al x5) != (rdOf false an x5))=true then (some false) else (spec_EqualDfa.l0 k (wrap64 (x5+1)) al am an ao)) else (none)) else (none)) else (spec_EqualDfa.l1 k 0 al am an ao)
def spec_EqualDfa.l1:Nat→Int→List Bool→List (List Int)→List Bool→List (List Int)→Option (Bool)
 | 0,_,_,_,_,_=>none
 | k+1,x6,al,am,an,ao=>if x6<(am.length:Int) then (if 0≤x6 then (if x6<(ao.length:Int) then ((spec_l5Ints.f k (rd_L1 am x6) (rd_L1 ao x6)).bind fun aQ=>(if aQ=true then (spec_EqualDfa.l1 k (wrap64 (x6+1)) al am an ao) else (some false))) else (none)) else (none)) else (some true)
end
def spec_EqualDfa.f (k:Nat) (l0_0:List Bool) (l0_1:List (List Int)) (l1_0:List Bool) (l1_1:List (List Int)):Option (Bool):=if (l0_0.length:Int)=(l1_0.length:Int) then (spec_EqualDfa.j0 k ((l0_1.length:Int) != (l1_1.length:Int)) l0_0 l0_1 l1_0 l1_1) else (spec_EqualDfa.j0 k true l0_0 l0_1 l1_0 l1_1)
theorem spec_EqualDfa.mono_l:∀ k,(∀ y0 y1 y2 y3 y4,LeO (spec_EqualDfa.j0 k y0 y1 y2 y3 y4) (spec_EqualDfa.j0 (k+1) y0 y1 y2 y3 y4))∧(∀ y0 y1 y2 y3 y4,LeO (spec_EqualDfa.l0 k y0 y1 y2 y3 y4) (spec_EqualDfa.l0 (k+1) y0 y1 y2 y3 y4))∧(∀ y0 y1 y2 y3 y4,LeO (spec_EqualDfa.l1 k y0 y1 y2 y3 y4) (spec_EqualDfa.l1 (k+1) y0 y1 y2 y3 y4))
 | 0=>⟨fun _ _ _ _ _ r h=>by simp [spec_EqualDfa.j0] at h,fun _ _ _ _ _ r h=>by simp [spec_EqualDfa.l0] at h,fun _ _ _ _ _ r h=>by simp [spec_EqualDfa.l1] at h⟩
 | k+1=>by
  obtain ⟨ih0,ih1,ih2⟩:=spec_EqualDfa.mono_l k
  refine ⟨?_,?_,?_⟩
  ·intro y0 y1 y2 y3 y4
   unfold spec_EqualDfa.j0
   repeat' first
   | (with_reducible exact ih0 _ _ _ _ _)
   | (with_reducible exact ih1 _ _ _ _ _)
   | (with_reducible exact ih2 _ _ _ _ _)
   | (with_reducible exact spec_l5Ints.mono _ _ _)
   | (with_reducible exact LeO.refl _)
   | (with_reducible exact LeO.none _)
   | (with_reducible refine LeO.ite ?_ ?_)
   | (with_reducible refine LeO.bind ?_ (fun _=>?_))
   | exact ih0 _ _ _ _ _
   | exact ih1 _ _ _ _ _
   | exact ih2 _ _ _ _ _
   | exact spec_l5Ints.mono _ _ _
   | exact LeO.none _
   | refine LeO.ite ?_ ?_
   | refine LeO.bind ?_ (fun _=>?_)
  ·intro y0 y1 y2 y3 y4
   unfold spec_EqualDfa.l0
   repeat' first
   | (with_reducible exact ih0 _ _ _ _ _)
   | (with_reducible exact ih1 _ _ _ _ _)
   | (with_reducible exact ih2 _ _ _ _ _)
   | (with_reducible exact spec_l5Ints.mono _ _ _)
   | (with_reducible exact LeO.refl _)
   | (with_reducible exact LeO.none _)
   | (with_reducible refine LeO.ite ?_ ?_)
   | (with_reducible refine LeO.bind ?_ (fun _=>?_))
   | exact ih0 _ _ _ _ _
   | exact ih1 _ _ _ _ _
   | exact ih2 _ _ _ _ _
   | exact spec_l5Ints.mono _ _ _
   | exact LeO.none _
   | refine LeO.ite ?_ ?_
   | refine LeO.bind ?_ (fun _=>?_)
  ·intro y0 y1 y2 y3 y4
   unfold spec_EqualDfa.l1
   repeat' first
   | (with_reducible exact ih0 _ _ _ _ _)
   | (with_reducible exact ih1 _ _ _ _ _)
   | (with_reducible exact ih2 _ _ _ _ _)
   | (with_reducible exact spec_l5Ints.mono _ _ _)
   | (with_reducible exact LeO.refl _)
   | (with_reducible exact LeO.none _)
   | (with_reducible refine LeO.ite ?_ ?_)
   | (with_reducible refine LeO.bind ?_ (fun _=>?_))
   | exact ih0 _ _ _ _ _
   | exact ih1 _ _ _ _ _
   | exact ih2 _ _ _ _ _
   | exact spec_l5Ints.mono _ _ _
   | exact LeO.none _
   | refine LeO.ite ?_ ?_
   | refine LeO.bind ?_ (fun _=>?_)
theorem spec_EqualDfa.mono:∀ a0 a1 a2 a3 k,LeO (spec_EqualDfa.f k a0 a1 a2 a3) (spec_EqualDfa.f (k+1) a0 a1 a2 a3):=by
 intro a0 a1 a2 a3 k
 obtain ⟨ih0,ih1,ih2⟩:=spec_EqualDfa.mono_l k
 unfold spec_EqualDfa.f
 repeat' first
  | (with_reducible exact ih0 _ _ _ _ _)
  | (with_reducible exact ih1 _ _ _ _ _)
  | (with_reducible exact ih2 _ _ _ _ _)
  | (with_reducible exact spec_l5Ints.mono _ _ _)
  | (with_reducible exact LeO.refl _)
  | (with_reducible exact LeO.none _)
  | (with_reducible refine LeO.ite ?_ ?_)
  | (with_reducible refine LeO.bind ?_ (fun _=>?_))
  | exact ih0 _ _ _ _ _
  | exact ih1 _ _ _ _ _
  | exact ih2 _ _ _ _ _
  | exact spec_l5Ints.mono _ _ _
  | exact LeO.none _
  | refine LeO.ite ?_ ?_
  | refine LeO.bind ?_ (fun _=>?_)
theorem zp44_0_ {p q g1 g2:Prop} (h:p) (h1:g1) (h2:g2) (c:p→g1→g2→q:=by intro h_ h1_ h2_;repeat (first | (with_reducible first | exact h_ | apply below_alloc | apply pw_below_drewN | apply below_drew1 | refine below_set ?_ h1_ | refine below_set ?_ h2_) | exact h_)):q:=c h h1 h2
set_option maxHeartbeats 8000000 in
set_option maxRecDepth 100000 in
theorem spec_EqualDfa.calls (k:Nat) (A0_0:Option Addr) (c0_0:Nat) (l0_0:List Bool) (A0_1:Option Addr) (c0_1:Nat) (l0_1:List (List Int)) (A1_0:Option Addr) (c1_0:Nat) (l1_0:List Bool) (A1_1:Option Addr) (c1_1:Nat) (l1_1:List (List Int)) (r:Bool) (w:World) (hr0_0:Kd.C Kd.bool w A0_0 l0_0.length l0_0) (hc0_0:l0_0.length≤c0_0) (hr0_1:Kd.C (Kd.slice 3 (Kd.int .i64)) w A0_1 l0_1.length l0_1) (hc0_1:l0_1.length≤c0_1) (hr1_0:Kd.C Kd.bool w A1_0 l1_0.length l1_0) (hc1_0:l1_0.length≤c1_0) (hr1_1:Kd.C (Kd.slice 3 (Kd.int .i64)) w A1_1 l1_1.length l1_1) (hc1_1:l1_1.length≤c1_1) (h:spec_EqualDfa.f k l0_0 l0_1 l1_0 l1_1=some r) :
  Calls Try.prog 32 #[.agg #[.slice A0_0 l0_0.length c0_0,.slice A0_1 l0_1.length c0_1],.agg #[.slice A1_0 l1_0.length c1_0,.slice A1_1 l1_1.length c1_1]] w fun e w'=>e = .returned (.bool r)∧Below w.heap.size w w':=by
 have hu27:=Try.underlying27
 have aR:=am_ hr0_0
 have bR:=am_ hc0_0
 clear hr0_0 hc0_0
 have aS:=am_ hr0_1
 have bS:=am_ hc0_1
 clear hr0_1 hc0_1
 have aT:=am_ hr1_0
 have bT:=am_ hc1_0
 clear hr1_0 hc1_0
 have aU:=am_ hr1_1
 have bU:=am_ hc1_1
 clear hr1_1 hc1_1
 have HB:=am_ (Below.refl w.heap.size w)
 have H:(if (l0_0.length:Int)=(l1_0.length:Int) then (spec_EqualDfa.j0 k ((l0_1.length:Int) != (l1_1.length:Int)) l0_0 l0_1 l1_0 l1_1) else (spec_EqualDfa.j0 k true l0_0 l0_1 l1_0 l1_1))=some r:=h
 clear h
 have HC3:=am_ H
 clear H
 go_enter Try.func32,Try.ntmps32
 go_upto_region 1 with (first | ((with_reducible refine gate_dst (N:=2) rfl ?_);(try (refine gate_guard (by rfl) ?_;dsimp only));refine box_event ?hg (N:=2) ?hd (cs:=#[.slice A0_0 l0_0.length c0_0,.slice A0_1 l0_1.length c0_1]) (t:=27) ?hr ?_;(case hd=>rfl);(case hg=>rfl);(case hr=>first | (go_simp;done) | (go_simp;rfl));intro ai hg w4 hbox hb;replace aa:=am_ (hbox);replace aV:=am_ ((by rw [hg];exact (below_size (b0_ HB.out)):w.heap.size≤ai));replace af:=am_ ((by rw [hg];exact (below_size (b0_ HB.out)):w.heap.size≤ai));replace HB:=am_ (below_step (b0_ HB.out) hb);clear hb hbox hg) | ((with_reducible refine gate_dst (N:=3) rfl ?_);(try (refine gate_guard (by rfl) ?_;dsimp only));refine box_event ?hg (N:=3) ?hd (cs:=#[.slice A1_0 l1_0.length c1_0,.slice A1_1 l1_1.length c1_1]) (t:=27) ?hr ?_;(case hd=>rfl);(case hg=>rfl);(case hr=>first | (go_simp;done) | (go_simp;rfl));intro aj hg w5 hbox hb;have n0_:=am_ (blk_below (rb_ aa.out) hb);have n1_:=am_ (below_step (b1_ HB.out af.out) hb);have n2_:=am_ (hbox);have n3_:=am_ ((by rw [hg];exact (below_size (b1_ HB.out af.out)):w.heap.size≤aj));have n4_:=am_ ((by rw [hg];exact (below_size (b1_ HB.out af.out)):w.heap.size≤aj));have n5_:=am_ ((by rw [hg];exact Nat.ne_of_lt (blk_lt (rb_ aa.out)):ai ≠ aj));have n6_:=am_ ((by rw [hg];exact Nat.ne_of_gt (blk_lt (rb_ aa.out)):aj ≠ ai));clear aa;clear HB;have aa:=n0_;have HB:=n1_;have ab:=n2_;have aW:=n3_;have ak:=n4_;have ag:=n5_;have ah:=n6_;clear n0_ n1_ n2_ n3_ n4_ n5_ n6_;clear hb hbox hg))
 repeat (go_quiet (first | ((with_reducible refine gate_dst (N:=2) rfl ?_);(try (refine gate_guard (by rfl) ?_;dsimp only));refine box_event ?hg (N:=2) ?hd (cs:=#[.slice A0_0 l0_0.length c0_0,.slice A0_1 l0_1.length c0_1]) (t:=27) ?hr ?_;(case hd=>rfl);(case hg=>rfl);(case hr=>first | (go_simp;done) | (go_simp;rfl));intro ai hg w4 hbox hb;replace aa:=am_ (hbox);replace aV:=am_ ((by rw [hg];exact (below_size (b0_ HB.out)):w.heap.size≤ai));replace af:=am_ ((by rw [hg];exact (below_size (b0_ HB.out)):w.heap.size≤ai));replace HB:=am_ (below_step (b0_ HB.out) hb);clear hb hbox hg) | ((with_reducible refine gate_dst (N:=3) rfl ?_);(try (refine gate_guard (by rfl) ?_;dsimp only));refine box_event ?hg (N:=3) ?hd (cs:=#[.slice A1_0 l1_0.length c1_0,.slice A1_1 l1_1.length c1_1]) (t:=27) ?hr ?_;(case hd=>rfl);(case hg=>rfl);(case hr=>first | (go_simp;done) | (go_simp;rfl));intro aj hg w5 hbox hb;have n0_:=am_ (blk_below (rb_ aa.out) hb);have n1_:=am_ (below_step (b1_ HB.out af.out) hb);have n2_:=am_ (hbox);have n3_:=am_ ((by rw [hg];exact (below_size (b1_ HB.out af.out)):w.heap.size≤aj));have n4_:=am_ ((by rw [hg];exact (below_size (b1_ HB.out af.out)):w.heap.size≤aj));have n5_:=am_ ((by rw [hg];exact Nat.ne_of_lt (blk_lt (rb_ aa.out)):ai ≠ aj));have n6_:=am_ ((by rw [hg];exact Nat.ne_of_gt (blk_lt (rb_ aa.out)):aj ≠ ai));clear aa;clear HB;have aa:=n0_;have HB:=n1_;have ab:=n2_;have aW:=n3_;have ak:=n4_;have ag:=n5_;have ah:=n6_;clear n0_ n1_ n2_ n3_ n4_ n5_ n6_;clear hb hbox hg));go_upto_region 1 with (first | ((with_reducible refine gate_dst (N:=2) rfl ?_);(try (refine gate_guard (by rfl) ?_;dsimp only));refine box_event ?hg (N:=2) ?hd (cs:=#[.slice A0_0 l0_0.length c0_0,.slice A0_1 l0_1.length c0_1]) (t:=27) ?hr ?_;(case hd=>rfl);(case hg=>rfl);(case hr=>first | (go_simp;done) | (go_simp;rfl));intro ai hg w4 hbox hb;replace aa:=am_ (hbox);replace aV:=am_ ((by rw [hg];exact (below_size (b0_ HB.out)):w.heap.size≤ai));replace af:=am_ ((by rw [hg];exact (below_size (b0_ HB.out)):w.heap.size≤ai));replace HB:=am_ (below_step (b0_ HB.out) hb);clear hb hbox hg) | ((with_reducible refine gate_dst (N:=3) rfl ?_);(try (refine gate_guard (by rfl) ?_;dsimp only));refine box_event ?hg (N:=3) ?hd (cs:=#[.slice A1_0 l1_0.length c1_0,.slice A1_1 l1_1.length c1_1]) (t:=27) ?hr ?_;(case hd=>rfl);(case hg=>rfl);(case hr=>first | (go_simp;done) | (go_simp;rfl));intro aj hg w5 hbox hb;have n0_:=am_ (blk_below (rb_ aa.out) hb);have n1_:=am_ (below_step (b1_ HB.out af.out) hb);have n2_:=am_ (hbox);have n3_:=am_ ((by rw [hg];exact (below_size (b1_ HB.out af.out)):w.heap.size≤aj));have n4_:=am_ ((by rw [hg];exact (below_size (b1_ HB.out af.out)):w.heap.size≤aj));have n5_:=am_ ((by rw [hg];exact Nat.ne_of_lt (blk_lt (rb_ aa.out)):ai ≠ aj));have n6_:=am_ ((by rw [hg];exact Nat.ne_of_gt (blk_lt (rb_ aa.out)):aj ≠ ai));clear aa;clear HB;have aa:=n0_;have HB:=n1_;have ab:=n2_;have aW:=n3_;have ak:=n4_;have ag:=n5_;have ah:=n6_;clear n0_ n1_ n2_ n3_ n4_ n5_ n6_;clear hb hbox hg)))
 (try simp only [Act.put,List.setIfInBounds_toArray,List.set_cons_zero,List.set_cons_succ])
 go_cut [22] (fun v22 wc=>∃ (kq:Nat) (aH:Bool),v22 = .bool aH∧Aside0 (spec_EqualDfa.j0 kq aH l0_0 l0_1 l1_0 l1_1=some r)∧Aside0 (kq≤k)∧Aside0 (wc.heap[ai]? = some (.cells #[(.slice A0_0 l0_0.length c0_0),(.slice A0_1 l0_1.length c0_1)] 27 (0,0)))∧Aside0 (wc.heap[aj]? = some (.cells #[(.slice A1_0 l1_0.length c1_0),(.slice A1_1 l1_1.length c1_1)] 27 (0,0)))∧Aside0 (Below w.heap.size w wc))
 case first =>
  have H:=HC3.out
  clear HC3
  by_cases c6:(l0_0.length:Int)=(l1_0.length:Int)
  ·rw [if_pos c6] at H
   have c6b0:((l0_0.length:Int) == (l1_0.length:Int))=true:=beq_iff_eq.mpr c6
   have c6b1:((l0_0.length:Int) != (l1_0.length:Int))=false:=bne_eq_false_iff_eq.mpr c6
   have c6b2:(l0_0.length == l1_0.length)=true:=by first | simpa using c6 | (simp at c6 ⊢;omega)
   clear c6
   (first | rw [c6b0] | (simp only [i64_w,i32_w];rw [c6b0]) | skip)
   have H':=am_ H
   clear H
   have cj:=ag.out
   have ck:=ah.out
   have aI:=ck_ (v:=(.slice A0_0 l0_0.length c0_0)) aa 0 rfl
   have aJ:=ck_ (v:=(.slice A0_1 l0_1.length c0_1)) aa 1 rfl
   have aK:=blk_frozen aa.out 0
   have aL:=blk_frozen aa.out 1
   have aM:=ck_ (v:=(.slice A1_0 l1_0.length c1_0)) ab 0 rfl
   have aN:=ck_ (v:=(.slice A1_1 l1_1.length c1_1)) ab 1 rfl
   have aO:=blk_frozen ab.out 0
   have aP:=blk_frozen ab.out 1
   go_wp2
   repeat (go_quiet (fail);try go_wp2)
   go_meet
   case rel=>exact ⟨_,(((l0_1.length:Int) != (l1_1.length:Int))),(by first | rfl | (simp;done) | (simp [*];done)),H',⟨by first | omega | exact Nat.le_refl _⟩,⟨by refine rb_ ?_;exact aa.out⟩,⟨by refine rb_ ?_;exact ab.out⟩,⟨by exact zp44_0_ HB.out af.out ak.out⟩⟩
  ·rw [if_neg c6] at H
   have c6b0:((l0_0.length:Int) == (l1_0.length:Int))=false:=beq_eq_false_iff_ne.mpr c6
   have c6b1:((l0_0.length:Int) != (l1_0.length:Int))=true:=bne_iff_ne.mpr c6
   have c6b2:(l0_0.length == l1_0.length)=false:=by first | simpa using c6 | (simp at c6 ⊢;omega)
   (first | rw [c6b0] | (simp only [i64_w,i32_w];rw [c6b0]) | skip)
   have H':=am_ H
   clear H
   have bV:=ag.out
   have bW:=ah.out
   have az:=ck_ (v:=(.slice A0_0 l0_0.length c0_0)) aa 0 rfl
   have aA:=ck_ (v:=(.slice A0_1 l0_1.length c0_1)) aa 1 rfl
   have aB:=blk_frozen aa.out 0
   have aC:=blk_frozen aa.out 1
   have aD:=ck_ (v:=(.slice A1_0 l1_0.length c1_0)) ab 0 rfl
   have aE:=ck_ (v:=(.slice A1_1 l1_1.length c1_1)) ab 1 rfl
   have aF:=blk_frozen ab.out 0
   have aG:=blk_frozen ab.out 1
   go_wp2
   repeat (go_quiet (fail);try go_wp2)
   go_meet
   case rel=>exact ⟨_,(true),(by first | rfl | (simp;done) | (simp [*];done)),H',⟨by first | omega | exact Nat.le_refl _⟩,⟨by refine rb_ ?_;exact aa.out⟩,⟨by refine rb_ ?_;exact ab.out⟩,⟨by exact zp44_0_ HB.out af.out ak.out⟩⟩
 case rest =>
  clear HC3
  try clear c1
  try clear p2
  try clear c3
  try clear c6
  try clear c6b0
  try clear c6b1
  try clear c6b2
  try clear c7
  try clear c10
  try clear az
  try clear aA
  try clear aD
  try clear aE
  try clear aI
  try clear aJ
  try clear aM
  try clear aN
  try clear aB
  try clear aC
  try clear aF
  try clear aG
  try clear aK
  try clear aL
  try clear aO
  try clear aP
  obtain ⟨kq,aH,rfl,HA,HJ2,aa,ab,HB⟩:=hcut
  cases kq with
  | zero=>exact absurd HA.out (by simp [spec_EqualDfa.j0])
  | succ kj2 =>
   have H:=HA.out
   clear HA
   simp only [spec_EqualDfa.j0] at H
   by_cases c13:aH=true
   ·subst c13
    have H1:(some false)=some r:=by rw [if_pos rfl] at H;exact H
    clear H
    have H:=H1
    clear H1
    obtain rfl:=Option.some.inj H
    simp only [Option.some.injEq,Prod.mk.injEq] at H
    obtain ⟨rfl⟩:=H
    go_wp2
    repeat (go_quiet (fail);try go_wp2)
    go_ret
    exact ⟨by first | rfl | (simp [errW_none,errW_some] <;> rfl) | (simp [*,errW_none,errW_some] <;> rfl),by exact zp44_0_ HB.out af.out ak.out⟩
   ·replace c13:=Bool.eq_false_iff.mpr c13
    subst c13
    have H1:(spec_EqualDfa.l0 kj2 0 l0_0 l0_1 l1_0 l1_1)=some r:=by rw [if_neg (show ¬ (false=true) by decide)] at H;exact H
    clear H
    have H:=H1
    clear H1
    have H':=am_ H
    clear H
    go_wp2
    repeat (go_quiet (fail);try go_wp2)
    go_loopg [5] kj2 (fun kq v5 w'=>∃ (ad:Int),v5 = .int .i64 ad∧Aside0 (spec_EqualDfa.l0 kq ad l0_0 l0_1 l1_0 l1_1=some r)∧Aside0 (kq≤kj2)∧Aside0 (w'.heap[ai]? = some (.cells #[(.slice A0_0 l0_0.length c0_0),(.slice A0_1 l0_1.length c0_1)] 27 (0,0)))∧Aside0 (w'.heap[aj]? = some (.cells #[(.slice A1_0 l1_0.length c1_0),(.slice A1_1 l1_1.length c1_1)] 27 (0,0)))∧Aside0 (Below w.heap.size w w'))
    case atStart=>exact ⟨(0),(by first | rfl | (simp;done) | (simp [*];done)),H',⟨Nat.le_refl _⟩,⟨by refine rb_ ?_;exact aa.out⟩,⟨by refine rb_ ?_;exact ab.out⟩,⟨by exact zp44_0_ HB.out af.out ak.out⟩⟩
    case round =>
     clear H'
     try clear c1
     try clear p2
     try clear c3
     try clear c6
     try clear c6b0
     try clear c6b1
     try clear c6b2
     try clear c7
     try clear c10
     try clear c13
     try clear az
     try clear aA
     try clear aD
     try clear aE
     try clear aI
     try clear aJ
     try clear aM
     try clear aN
     try clear aB
     try clear aC
     try clear aF
     try clear aG
     try clear aK
     try clear aL
     try clear aO
     try clear aP
     try clear p2
     obtain ⟨ad,rfl,HA,HK2,aa,ab,HB⟩:=hrel
     cases gk with
     | zero=>exact absurd HA.out (by simp [spec_EqualDfa.l0])
     | succ k2 =>
      have H:=HA.out
      clear HA
      simp only [spec_EqualDfa.l0] at H
      by_cases c14:ad<(l0_0.length:Int)
      ·rw [if_pos c14] at H
       have c14b0:decide (ad<(l0_0.length:Int))=true:=decide_eq_true c14
       clear c14
       by_cases c15:0≤ad
       ·rw [if_pos c15] at H
        have c15b0:decide (0≤ad)=true:=decide_eq_true c15
        clear c15
        by_cases c16:ad<(l1_0.length:Int)
        ·rw [if_pos c16] at H
         have c16b0:decide (ad<(l1_0.length:Int))=true:=decide_eq_true c16
         clear c16
         by_cases c17:((rdOf false l0_0 ad) != (rdOf false l1_0 ad))=true
         ·rw [if_pos c17] at H
          have c17b0:((rdOf false l0_0 ad) != (rdOf false l1_0 ad))=true:=c17
          (try (have c17b1:decide ((rdOf false l0_0 ad)=(rdOf false l1_0 ad))=false:=by simpa using c17))
          (try (have c17b2:((rdOf false l0_0 ad) == (rdOf false l1_0 ad))=false:=by simpa using c17))
          (try (have c17b3:¬ ((rdOf false l0_0 ad)=(rdOf false l1_0 ad)):=by simpa using c17))
          clear c17
          obtain rfl:=Option.some.inj H
          simp only [Option.some.injEq,Prod.mk.injEq] at H
          obtain ⟨rfl⟩:=H
          have bX:=ag.out
          have bY:=ah.out
          have aX:=ck_ (v:=(.slice A0_0 l0_0.length c0_0)) aa 0 rfl
          have aY:=ck_ (v:=(.slice A0_1 l0_1.length c0_1)) aa 1 rfl
          have aZ:=blk_frozen aa.out 0
          have ba:=blk_frozen aa.out 1
          have p626:0≤(ad:Int):=of_decide_eq_true ah_
          have q626:ad<(l0_0.length:Int):=of_decide_eq_true ah_
          obtain ⟨bs,e626,ap⟩:=Kd.at_bool aR.out ad p626 q626
          cases e626
          replace ap:=(HB.out.cell (World.block_lt_of_cell? w _ ap)).trans ap
          replace p626:=eq_true p626
          replace q626:=eq_true q626
          have bb:=ck_ (v:=(.slice A1_0 l1_0.length c1_0)) ab 0 rfl
          have bc:=ck_ (v:=(.slice A1_1 l1_1.length c1_1)) ab 1 rfl
          have bd:=blk_frozen ab.out 0
          have be:=blk_frozen ab.out 1
          have p627:0≤(ad:Int):=of_decide_eq_true ah_
          have q627:ad<(l1_0.length:Int):=of_decide_eq_true ah_
          obtain ⟨bt,e627,aq⟩:=Kd.at_bool aT.out ad p627 q627
          cases e627
          replace aq:=(HB.out.cell (World.block_lt_of_cell? w _ aq)).trans aq
          replace p627:=eq_true p627
          replace q627:=eq_true q627
          go_wp2
          repeat (go_quiet (fail);try go_wp2)
          go_ret
          exact ⟨by first | rfl | (simp [errW_none,errW_some] <;> rfl) | (simp [*,errW_none,errW_some] <;> rfl),by exact zp44_0_ HB.out af.out ak.out⟩
         ·rw [if_neg c17] at H
          have c17b0:((rdOf false l0_0 ad) != (rdOf false l1_0 ad))=false:=by simpa using c17
          (try (have c17b1:decide ((rdOf false l0_0 ad)=(rdOf false l1_0 ad))=true:=by simpa using c17))
          (try (have c17b2:((rdOf false l0_0 ad) == (rdOf false l1_0 ad))=true:=by simpa using c17))
          clear c17
          have H':=am_ H
          clear H
          have bZ:=ag.out
          have ca:=ah.out
          have bf:=ck_ (v:=(.slice A0_0 l0_0.length c0_0)) aa 0 rfl
          have bg:=ck_ (v:=(.slice A0_1 l0_1.length c0_1)) aa 1 rfl
          have bh:=blk_frozen aa.out 0
          have bi:=blk_frozen aa.out 1
          have p626:0≤(ad:Int):=of_decide_eq_true ah_
          have q626:ad<(l0_0.length:Int):=of_decide_eq_true ah_
          obtain ⟨bs,e626,ap⟩:=Kd.at_bool aR.out ad p626 q626
          cases e626
          replace ap:=(HB.out.cell (World.block_lt_of_cell? w _ ap)).trans ap
          replace p626:=eq_true p626
          replace q626:=eq_true q626
          have bj:=ck_ (v:=(.slice A1_0 l1_0.length c1_0)) ab 0 rfl
          have bk:=ck_ (v:=(.slice A1_1 l1_1.length c1_1)) ab 1 rfl
          have bl:=blk_frozen ab.out 0
          have bm:=blk_frozen ab.out 1
          have p627:0≤(ad:Int):=of_decide_eq_true ah_
          have q627:ad<(l1_0.length:Int):=of_decide_eq_true ah_
          obtain ⟨bt,e627,aq⟩:=Kd.at_bool aT.out ad p627 q627
          cases e627
          replace aq:=(HB.out.cell (World.block_lt_of_cell? w _ aq)).trans aq
          replace p627:=eq_true p627
          replace q627:=eq_true q627
          go_wp2
          repeat (go_quiet (fail);try go_wp2)
          go_roundg k2
          case measure=>have:=HJ2.out;have:=HK2.out;omega
          case rel=>exact ⟨(wrap64 (ad+1)),(by first | rfl | (simp;done) | (simp [*];done)),H',⟨by have:=HJ2.out;have:=HK2.out;omega⟩,⟨by refine rb_ ?_;exact aa.out⟩,⟨by refine rb_ ?_;exact ab.out⟩,⟨by exact zp44_0_ HB.out af.out ak.out⟩⟩
        ·rw [if_neg c16] at H
         exact absurd H (by simp)
       ·rw [if_neg c15] at H
        exact absurd H (by simp)
      ·rw [if_neg c14] at H
       have c14b0:decide (ad<(l0_0.length:Int))=false:=decide_eq_false c14
       clear c14
       have H':=am_ H
       clear H
       have cb:=ag.out
       have cc:=ah.out
       have bn:=ck_ (v:=(.slice A0_0 l0_0.length c0_0)) aa 0 rfl
       have bo:=ck_ (v:=(.slice A0_1 l0_1.length c0_1)) aa 1 rfl
       have bp:=blk_frozen aa.out 0
       have bq:=blk_frozen aa.out 1
       go_wp2
       repeat (go_quiet (fail);try go_wp2)
       go_loopg [6] k2 (fun kq v6 w'=>∃ (ae:Int),v6 = .int .i64 ae∧Aside0 (spec_EqualDfa.l1 kq ae l0_0 l0_1 l1_0 l1_1=some r)∧Aside0 (kq≤k2)∧Aside0 (w'.heap[ai]? = some (.cells #[(.slice A0_0 l0_0.length c0_0),(.slice A0_1 l0_1.length c0_1)] 27 (0,0)))∧Aside0 (w'.heap[aj]? = some (.cells #[(.slice A1_0 l1_0.length c1_0),(.slice A1_1 l1_1.length c1_1)] 27 (0,0)))∧Aside0 (Below w.heap.size w w'))
       case atStart=>exact ⟨(0),(by first | rfl | (simp;done) | (simp [*];done)),H',⟨Nat.le_refl _⟩,⟨by refine rb_ ?_;exact aa.out⟩,⟨by refine rb_ ?_;exact ab.out⟩,⟨by exact zp44_0_ HB.out af.out ak.out⟩⟩
       case round =>
        clear H'
        try clear c1
        try clear c2
        try clear p2
        try clear c3
        try clear c6
        try clear c6b0
        try clear c6b1
        try clear c6b2
        try clear p6
        try clear q6
        try clear hx6
        try clear c7
        try clear c10
        try clear c13
        try clear c14
        try clear c14b0
        try clear c15
        try clear c15b0
        try clear c16
        try clear c16b0
        try clear c17
        try clear c17b0
        try clear c17b1
        try clear c17b2
        try clear c18
        try clear c21
        try clear c24
        try clear az
        try clear aA
        try clear aD
        try clear aE
        try clear aX
        try clear aY
        try clear bb
        try clear bc
        try clear bf
        try clear bg
        try clear bj
        try clear bk
        try clear bn
        try clear bo
        try clear aI
        try clear aJ
        try clear aM
        try clear aN
        try clear aB
        try clear aC
        try clear aF
        try clear aG
        try clear aZ
        try clear ba
        try clear bd
        try clear be
        try clear bh
        try clear bi
        try clear bl
        try clear bm
        try clear bp
        try clear bq
        try clear aK
        try clear aL
        try clear aO
        try clear aP
        try clear ap
        try clear aq
        try clear p2
        try clear p626
        try clear p627
        try clear q626
        try clear q627
        obtain ⟨ae,rfl,HA,HK3,aa,ab,HB⟩:=hrel
        cases gk with
        | zero=>exact absurd HA.out (by simp [spec_EqualDfa.l1])
        | succ k3 =>
         have H:=HA.out
         clear HA
         simp only [spec_EqualDfa.l1] at H
         by_cases c26:ae<(l0_1.length:Int)
         ·rw [if_pos c26] at H
          have c26b0:decide (ae<(l0_1.length:Int))=true:=decide_eq_true c26
          clear c26
          by_cases c27:0≤ae
          ·rw [if_pos c27] at H
           have c27b0:decide (0≤ae)=true:=decide_eq_true c27
           clear c27
           by_cases c28:ae<(l1_1.length:Int)
           ·rw [if_pos c28] at H
            have c28b0:decide (ae<(l1_1.length:Int))=true:=decide_eq_true c28
            clear c28
            replace H:=Option.bind_eq_some_iff.mp H
            obtain ⟨aQ,br,H⟩:=H
            have A29:=am_ br
            clear br
            by_cases c30:aQ=true
            ·subst c30
             have H1:(spec_EqualDfa.l1 k3 (wrap64 (ae+1)) l0_0 l0_1 l1_0 l1_1)=some r:=by rw [if_pos rfl] at H;exact H
             clear H
             have H:=H1
             clear H1
             have H':=am_ H
             clear H
             have cd:=ag.out
             have ce:=ah.out
             have bw:=ck_ (v:=(.slice A0_0 l0_0.length c0_0)) aa 0 rfl
             have bx:=ck_ (v:=(.slice A0_1 l0_1.length c0_1)) aa 1 rfl
             have bz:=blk_frozen aa.out 0
             have bA:=blk_frozen aa.out 1
             have p628:0≤(ae:Int):=of_decide_eq_true ah_
             have q628:ae<(l0_1.length:Int):=of_decide_eq_true ah_
             obtain ⟨bu,A628_0,c628_0,e628,ar,hl628_0,hi628_0⟩:=at_L1 aS.out ae p628 q628
             cases e628
             replace ar:=(HB.out.cell (World.block_lt_of_cell? w _ ar)).trans ar
             have au:=am_ hi628_0
             have av:=am_ hl628_0
             clear hi628_0 hl628_0
             replace p628:=eq_true p628
             replace q628:=eq_true q628
             have bB:=ck_ (v:=(.slice A1_0 l1_0.length c1_0)) ab 0 rfl
             have bC:=ck_ (v:=(.slice A1_1 l1_1.length c1_1)) ab 1 rfl
             have bD:=blk_frozen ab.out 0
             have bE:=blk_frozen ab.out 1
             have p629:0≤(ae:Int):=of_decide_eq_true ah_
             have q629:ae<(l1_1.length:Int):=of_decide_eq_true ah_
             obtain ⟨bv,A629_0,c629_0,e629,aw,hl629_0,hi629_0⟩:=at_L1 aU.out ae p629 q629
             cases e629
             replace aw:=(HB.out.cell (World.block_lt_of_cell? w _ aw)).trans aw
             have ax:=am_ hi629_0
             have ay:=am_ hl629_0
             clear hi629_0 hl629_0
             replace p629:=eq_true p629
             replace q629:=eq_true q629
             go_wp2_with (first | (go_at_call 93;(with_reducible refine (spec_l5Ints.calls k3 _ _ (rd_L1 l0_1 ae) _ _ (rd_L1 l1_1 ae) true _ ?side1 ?side2 ?side3 ?side4 A29.out).mono ?_);(case side1=>exact rc_ (Kd.C_below au.out HB.out));(case side2=>exact av.out);(case side3=>exact rc_ (Kd.C_below ax.out HB.out));(case side4=>exact ay.out);rintro e w' ⟨rfl,⟨nd,rfl⟩⟩;(try first | exact ⟨rfl,_,World.drewN_drewN _ _ _⟩ | exact ⟨rfl,_,Eq.trans (World.drewN_drewN _ _ _) (congrArg (World.drewN _) (Nat.add_assoc _ _ _))⟩)))
             repeat (go_quiet (first | (go_at_call 93;(with_reducible refine (spec_l5Ints.calls k3 _ _ (rd_L1 l0_1 ae) _ _ (rd_L1 l1_1 ae) true _ ?side1 ?side2 ?side3 ?side4 A29.out).mono ?_);(case side1=>exact rc_ (Kd.C_below au.out HB.out));(case side2=>exact av.out);(case side3=>exact rc_ (Kd.C_below ax.out HB.out));(case side4=>exact ay.out);rintro e w' ⟨rfl,⟨nd,rfl⟩⟩;(try first | exact ⟨rfl,_,World.drewN_drewN _ _ _⟩ | exact ⟨rfl,_,Eq.trans (World.drewN_drewN _ _ _) (congrArg (World.drewN _) (Nat.add_assoc _ _ _))⟩)));try go_wp2_with (first | (go_at_call 93;(with_reducible refine (spec_l5Ints.calls k3 _ _ (rd_L1 l0_1 ae) _ _ (rd_L1 l1_1 ae) true _ ?side1 ?side2 ?side3 ?side4 A29.out).mono ?_);(case side1=>exact rc_ (Kd.C_below au.out HB.out));(case side2=>exact av.out);(case side3=>exact rc_ (Kd.C_below ax.out HB.out));(case side4=>exact ay.out);rintro e w' ⟨rfl,⟨nd,rfl⟩⟩;(try first | exact ⟨rfl,_,World.drewN_drewN _ _ _⟩ | exact ⟨rfl,_,Eq.trans (World.drewN_drewN _ _ _) (congrArg (World.drewN _) (Nat.add_assoc _ _ _))⟩))))
             go_roundg k3
             case measure=>have:=HJ2.out;have:=HK2.out;have:=HK3.out;omega
             case rel=>exact ⟨(wrap64 (ae+1)),(by first | rfl | (simp;done) | (simp [*];done)),H',⟨by have:=HJ2.out;have:=HK2.out;have:=HK3.out;omega⟩,⟨by refine rb_ ?_;exact aa.out⟩,⟨by refine rb_ ?_;exact ab.out⟩,⟨by exact zp44_0_ HB.out af.out ak.out⟩⟩
            ·replace c30:=Bool.eq_false_iff.mpr c30
             subst c30
             have H1:(some false)=some r:=by rw [if_neg (show ¬ (false=true) by decide)] at H;exact H
             clear H
             have H:=H1
             clear H1
             obtain rfl:=Option.some.inj H
             simp only [Option.some.injEq,Prod.mk.injEq] at H
             obtain ⟨rfl⟩:=H
             have cf:=ag.out
             have cg:=ah.out
             have bF:=ck_ (v:=(.slice A0_0 l0_0.length c0_0)) aa 0 rfl
             have bG:=ck_ (v:=(.slice A0_1 l0_1.length c0_1)) aa 1 rfl
             have bH:=blk_frozen aa.out 0
             have bI:=blk_frozen aa.out 1
             have p628:0≤(ae:Int):=of_decide_eq_true ah_
             have q628:ae<(l0_1.length:Int):=of_decide_eq_true ah_
             obtain ⟨bu,A628_0,c628_0,e628,ar,hl628_0,hi628_0⟩:=at_L1 aS.out ae p628 q628
             cases e628
             replace ar:=(HB.out.cell (World.block_lt_of_cell? w _ ar)).trans ar
             have au:=am_ hi628_0
             have av:=am_ hl628_0
             clear hi628_0 hl628_0
             replace p628:=eq_true p628
             replace q628:=eq_true q628
             have bJ:=ck_ (v:=(.slice A1_0 l1_0.length c1_0)) ab 0 rfl
             have bK:=ck_ (v:=(.slice A1_1 l1_1.length c1_1)) ab 1 rfl
             have bL:=blk_frozen ab.out 0
             have bM:=blk_frozen ab.out 1
             have p629:0≤(ae:Int):=of_decide_eq_true ah_
             have q629:ae<(l1_1.length:Int):=of_decide_eq_true ah_
             obtain ⟨bv,A629_0,c629_0,e629,aw,hl629_0,hi629_0⟩:=at_L1 aU.out ae p629 q629
             cases e629
             replace aw:=(HB.out.cell (World.block_lt_of_cell? w _ aw)).trans aw
             have ax:=am_ hi629_0
             have ay:=am_ hl629_0
             clear hi629_0 hl629_0
             replace p629:=eq_true p629
             replace q629:=eq_true q629
             go_wp2_with (first | (go_at_call 93;(with_reducible refine (spec_l5Ints.calls k3 _ _ (rd_L1 l0_1 ae) _ _ (rd_L1 l1_1 ae) false _ ?side1 ?side2 ?side3 ?side4 A29.out).mono ?_);(case side1=>exact rc_ (Kd.C_below au.out HB.out));(case side2=>exact av.out);(case side3=>exact rc_ (Kd.C_below ax.out HB.out));(case side4=>exact ay.out);rintro e w' ⟨rfl,⟨nd,rfl⟩⟩;(try first | exact ⟨rfl,_,World.drewN_drewN _ _ _⟩ | exact ⟨rfl,_,Eq.trans (World.drewN_drewN _ _ _) (congrArg (World.drewN _) (Nat.add_assoc _ _ _))⟩)))
             repeat (go_quiet (first | (go_at_call 93;(with_reducible refine (spec_l5Ints.calls k3 _ _ (rd_L1 l0_1 ae) _ _ (rd_L1 l1_1 ae) false _ ?side1 ?side2 ?side3 ?side4 A29.out).mono ?_);(case side1=>exact rc_ (Kd.C_below au.out HB.out));(case side2=>exact av.out);(case side3=>exact rc_ (Kd.C_below ax.out HB.out));(case side4=>exact ay.out);rintro e w' ⟨rfl,⟨nd,rfl⟩⟩;(try first | exact ⟨rfl,_,World.drewN_drewN _ _ _⟩ | exact ⟨rfl,_,Eq.trans (World.drewN_drewN _ _ _) (congrArg (World.drewN _) (Nat.add_assoc _ _ _))⟩)));try go_wp2_with (first | (go_at_call 93;(with_reducible refine (spec_l5Ints.calls k3 _ _ (rd_L1 l0_1 ae) _ _ (rd_L1 l1_1 ae) false _ ?side1 ?side2 ?side3 ?side4 A29.out).mono ?_);(case side1=>exact rc_ (Kd.C_below au.out HB.out));(case side2=>exact av.out);(case side3=>exact rc_ (Kd.C_below ax.out HB.out));(case side4=>exact ay.out);rintro e w' ⟨rfl,⟨nd,rfl⟩⟩;(try first | exact ⟨rfl,_,World.drewN_drewN _ _ _⟩ | exact ⟨rfl,_,Eq.trans (World.drewN_drewN _ _ _) (congrArg (World.drewN _) (Nat.add_assoc _ _ _))⟩))))
             go_ret
             exact ⟨by first | rfl | (simp [errW_none,errW_some] <;> rfl) | (simp [*,errW_none,errW_some] <;> rfl),by exact zp44_0_ HB.out af.out ak.out⟩
           ·rw [if_neg c28] at H
            exact absurd H (by simp)
          ·rw [if_neg c27] at H
           exact absurd H (by simp)
         ·rw [if_neg c26] at H
          have c26b0:decide (ae<(l0_1.length:Int))=false:=decide_eq_false c26
          clear c26
          obtain rfl:=Option.some.inj H
          simp only [Option.some.injEq,Prod.mk.injEq] at H
          obtain ⟨rfl⟩:=H
          have ch:=ag.out
          have ci:=ah.out
          have bN:=ck_ (v:=(.slice A0_0 l0_0.length c0_0)) aa 0 rfl
          have bO:=ck_ (v:=(.slice A0_1 l0_1.length c0_1)) aa 1 rfl
          have bP:=blk_frozen aa.out 0
          have bQ:=blk_frozen aa.out 1
          go_wp2
          repeat (go_quiet (fail);try go_wp2)
          go_ret
          exact ⟨by first | rfl | (simp [errW_none,errW_some] <;> rfl) | (simp [*,errW_none,errW_some] <;> rfl),by exact zp44_0_ HB.out af.out ak.out⟩
end Go.Proofs.Ytogamkblkoobkaa.P
end
section
namespace Go.Proofs.Ytogamkblkoobkaa.Pl
open Go.RowKit Go.Proofs.Ytogamkblkoobkaa.P Go.Proofs.YtogamkblkoobkaaW.PrintWords Go.Proofs.YtogamkblkoobkaaW.PrintLast Go.Proofs.YtogamkblkoobkaaW.PrintMore Wk Rk
theorem spec_equal_l1 (a:List Bool) (n:List (List Int)) (b:List Bool) (m:List (List Int)) (hl:n.length=m.length) (hn:n.length≤1048576) (hx:∀ x ∈ n,x.length≤1048576):∀ d i:Nat,i+d=n.length→Ev (fun k=>spec_EqualDfa.l1 k i a n b m) (decide (n.drop i=m.drop i)):=by
 intro d
 induction d with
 | zero =>
  intro i h
  refine next ?_
  simp only [spec_EqualDfa.l1,if_neg (show ¬ (i:Int)<(n.length:Int) by omega)]
  exact ev_some (by rw [List.drop_eq_nil_of_le (by omega),List.drop_eq_nil_of_le (by omega)];simp)
 | succ d ih =>
  intro i h
  refine next ?_
  have ha:i<n.length:=by omega
  have hb:i<m.length:=by omega
  have e:(n.drop i=m.drop i)↔(n[i]=m[i]∧n.drop (i+1)=m.drop (i+1)):=by
   rw [List.drop_eq_getElem_cons ha,List.drop_eq_getElem_cons hb]
   exact List.cons_eq_cons
  simp only [spec_EqualDfa.l1,if_pos (show (i:Int)<(n.length:Int) by omega),if_pos (show (0:Int)≤i by omega),if_pos (show (i:Int)<(m.length:Int) by omega),rows_get n i ha,rows_get m i hb]
  refine Ev.bind (spec_ints n[i] m[i] (hx _ (List.getElem_mem _))) ?_
  by_cases he:n[i]=m[i]
  ·simp only [decide_eq_true he,if_true,up1 (show i<9223372036854775807 by omega)]
   exact ev_eq (ih (i+1) (by omega)) (decide_eq_decide.mpr (by rw [e];exact ⟨fun x=>⟨he,x⟩,fun x=>x.2⟩))
  ·simp only [decide_eq_false he,Bool.false_ne_true,if_false]
   exact ev_some (by rw [eq_comm,decide_eq_false_iff_not,e];exact fun x=>he x.1)
theorem spec_equal_l0 (a:List Bool) (n:List (List Int)) (b:List Bool) (m:List (List Int)) (hab:a.length=b.length) (ha:a.length≤1048576) (hl:n.length=m.length) (hn:n.length≤1048576) (hx:∀ x ∈ n,x.length≤1048576):∀ d i:Nat,i+d=a.length→Ev (fun k=>spec_EqualDfa.l0 k i a n b m) (decide (a.drop i=b.drop i) && decide (n=m)):=by
 intro d
 induction d with
 | zero =>
  intro i h
  refine next ?_
  simp only [spec_EqualDfa.l0,if_neg (show ¬ (i:Int)<(a.length:Int) by omega)]
  rw [List.drop_eq_nil_of_le (by omega),List.drop_eq_nil_of_le (by omega)]
  simp only [decide_true,Bool.true_and]
  exact spec_equal_l1 a n b m hl hn hx n.length 0 (by omega)
 | succ d ih =>
  intro i h
  refine next ?_
  have h1:i<a.length:=by omega
  have h2:i<b.length:=by omega
  have e:(a.drop i=b.drop i)↔(a[i]=b[i]∧a.drop (i+1)=b.drop (i+1)):=by
   rw [List.drop_eq_getElem_cons h1,List.drop_eq_getElem_cons h2]
   exact List.cons_eq_cons
  simp only [spec_EqualDfa.l0,if_pos (show (i:Int)<(a.length:Int) by omega),if_pos (show (0:Int)≤i by omega),if_pos (show (i:Int)<(b.length:Int) by omega),rdOf_get _ a i h1,rdOf_get _ b i h2]
  by_cases he:a[i]=b[i]
  ·simp only [show (a[i] != b[i])=false from bne_eq_false_iff_eq.mpr he,Bool.false_ne_true,if_false,up1 (show i<9223372036854775807 by omega)]
   refine ev_eq (ih (i+1) (by omega)) ?_
   rw [decide_eq_decide.mpr (show (a.drop (i+1)=b.drop (i+1))↔(a.drop i=b.drop i) by rw [e];exact ⟨fun x=>⟨he,x⟩,fun x=>x.2⟩)]
  ·simp only [show (a[i] != b[i])=true from bne_iff_ne.mpr he,if_true]
   exact ev_some (by rw [decide_eq_false (show ¬ (a.drop i=b.drop i) by rw [e];exact fun x=>he x.1),Bool.false_and])
theorem spec_equal (a:List Bool) (n:List (List Int)) (b:List Bool) (m:List (List Int)) (ha:a.length≤1048576) (hn:n.length≤1048576) (hx:∀ x ∈ n,x.length≤1048576):Ev (fun k=>spec_EqualDfa.f k a n b m) (decide (a=b) && decide (n=m)):=by
 have jt:Ev (fun k=>spec_EqualDfa.j0 k true a n b m) false:=by
  refine next ?_
  simp only [spec_EqualDfa.j0,if_true]
  exact Ev.now _
 simp only [spec_EqualDfa.f]
 by_cases h1:a.length=b.length
 ·simp only [if_pos (show (a.length:Int)=(b.length:Int) by omega)]
  by_cases h2:n.length=m.length
  ·have e2:((n.length:Int) != (m.length:Int))=false:=by rw [bne_eq_false_iff_eq];omega
   simp only [e2]
   refine next ?_
   simp only [spec_EqualDfa.j0,Bool.false_ne_true,if_false]
   exact spec_equal_l0 a n b m h1 ha h2 hn hx a.length 0 (by omega)
  ·have e2:((n.length:Int) != (m.length:Int))=true:=by rw [bne_iff_ne];omega
   simp only [e2]
   rw [decide_eq_false (show ¬ n=m from fun e=>h2 (by rw [e])),Bool.and_false]
   exact jt
 ·simp only [if_neg (show ¬ (a.length:Int)=(b.length:Int) by omega)]
  rw [decide_eq_false (show ¬ a=b from fun e=>h1 (by rw [e])),Bool.false_and]
  exact jt
end Go.Proofs.Ytogamkblkoobkaa.Pl
end
