/- The law FnDivided holds for every input. No condition. -/
import Derived.Test.YtogamkblkoobkaaQFnDivided2
import Derived.Test.YtogamkblkoobkaaQFnDivided12
import Derived.Test.YtogamkblkoobkaaQFnDivided7
import Derived.Test.YtogamkblkoobkaaQFnDivided13
import Derived.Test.YtogamkblkoobkaaQFnDivided5
import Derived.Test.YtogamkblkoobkaaQFnDivided9
import Derived.SizedLaws
import Derived.ChangeSlices
import Derived.Test.YtogamkblkoobkaaRows
import Derived.WalkKit
import Derived.ProofKit
import Derived.OpenShut
import Derived.ShutString
import Derived.ChangeOld
import Derived.Below
set_option linter.unusedVariables false
set_option linter.unusedSimpArgs false
section
namespace Go.Proofs.Ytogamkblkoobkaa.Di
open Go.RowKit Go.Shelf Go.Proofs.Ytogamkblkoobkaa Go.Proofs.Ytogamkblkoobkaa.P Go.Proofs.Ytogamkblkoobkaa.Pl Go.Proofs.Ytogamkblkoobkaa.Wk Go.Proofs.Ytogamkblkoobkaa.Can Go.Proofs.YtogamkblkoobkaaW.PrintWords Go.Proofs.YtogamkblkoobkaaW.PrintLast Go.Proofs.YtogamkblkoobkaaW.PrintMore
def Tdi21:Bool × List (List Nat × List Nat):=(true,[([],[]),([0],[0]),([1],[1]),([1],[1]),([1],[1]),([3,4,1],[1,3,4]),([2,5,1,1],[1,2,5]),([6,6,1],[1,6]),([7],[7]),([7],[7]),([7],[7]),([9,10,7],[7,9,10]),([8,11,7,7],[7,8,11]),([7,12,1],[1,7,12]),([1,13],[1,13]),([14,12,0,1,2,3,4,5,6,7,8,9,10,11,12,13,14],[0,14])])
def Bdi21:List Nat:=[0,1,3,3,3,27,63,127,255,255,255,1791,4095,8191,16383,32767]
theorem tabdi21:rtab .any (opsOf Try.f10 21)=Tdi21:=by kernel_rfl
theorem bitsdi21:waitsOk Tdi21.2 Bdi21=true:=by kernel_rfl
def Tdi22:Bool × List (List Nat × List Nat):=(true,[([],[]),([0],[0]),([1],[1]),([2,1],[1,2]),([3,1,1],[1,3]),([4],[4]),([4],[4]),([4],[4]),([6,7,4],[4,6,7]),([5,8,4,4],[4,5,8]),([4,9,1],[1,4,9]),([10,9,1],[1,10]),([11],[11]),([11],[11]),([11],[11]),([13,14,11],[11,13,14]),([12,15,11,11],[11,12,15]),([11,16,1],[1,11,16]),([1,17],[1,17]),([18,16,0,1,2,3,4,5,6,7,8,9,10,11,12,13,14,15,16,17,18],[0,18])])
def Bdi22:List Nat:=[0,1,3,7,15,31,31,31,223,511,1023,2047,4095,4095,4095,28671,65535,131071,262143,524287]
theorem tabdi22:rtab .any (opsOf Try.f10 22)=Tdi22:=by kernel_rfl
theorem bitsdi22:waitsOk Tdi22.2 Bdi22=true:=by kernel_rfl
theorem no_ {P:Program} {oi:Oper} {ops:Array Oper} {a:Act} {w:World} {K:Act→World→Prop} {Q:Exit→Act→World→Prop} {N:Option Nat} (h:K (a.put N undef) w) (hw:Region.wanted oi (yielded ops a.tmps)=false:=by rfl):if Region.wanted oi (yielded ops a.tmps)=true then Oper.wp P oi a w K Q else K (a.put N undef) w:=by
 rw [if_neg (by rw [hw];decide)]
 exact h
theorem tz_ {P:Program} {ops:Array Oper} {Q:Exit→Act→World→Prop} {md:Region.Mode} {S:World→Prop} {ds:List Nat} {T:Bool × List (List Nat × List Nat)} {B:List Nat} {oi:Oper} {fuel:Nat} {l:Array Bool} {a a':Act} {w:World} (i N:Nat) (l':Array Bool) (hT:Aside0 (rtab md ops=T)) (hB:Aside0 (waitsOk T.2 B=true)) (hS:S w) (h:wpAnyLast P md ops Q S ds fuel l' a' w)
 (hi:ops[i]? = some oi:=by rfl) (hN:oi.dst=some N:=by rfl) (hc:takeW T B ds l.toList l'.toList i=true:=by kernel_rfl) (hQ:∀ c a w,Q (.panic c) (a.put oi.dst undef) w→Q (.panic c) a w:=by exact fun _ _ _ h=>h)
 (hy:YieldsIf P ops S oi undef a:=by exact Or.inr ⟨by rfl,rfl⟩) (ha:a.put (some N) undef=a':=by simp only [Act.put,List.setIfInBounds_toArray,List.set_cons_zero,List.set_cons_succ];rfl):wpAnyLast P md ops Q S ds (fuel+1) l a w:=take_ l' hi hN (take_ofW hT.out hB.out hc) hQ hy hS ha h
def fb (n k:Nat):Array Bool:=((List.range n).map (fun i=>k.testBit i)).toArray
def ddP (v0 v1 v2 v3:Value) (a:List Bool) (n:List (List Int)) (b:List Bool) (m:List (List Int)):Pc:=⟨fun w fp=>(Kd.R Kd.bool 4 w 0 (fun k=>k ∈ fp) v0 a∧Kd.S (Kd.slice 3 (Kd.int .i64)) 67 w 0 (fun k=>k ∈ fp) v1 n∧Kd.R Kd.bool 4 w 0 (fun k=>k ∈ fp) v2 b∧Kd.S (Kd.slice 3 (Kd.int .i64)) 67 w 0 (fun k=>k ∈ fp) v3 m)∧∀ k ∈ fp,k<w.heap.size,
 fun ⟨⟨h0,h1,h2,h3⟩,hl⟩ hm=>⟨⟨Kd.R_step h0 (fun k hk _=>hm k hk),Kd.S_step h1 (fun k hk _=>hm k hk),Kd.R_step h2 (fun k hk _=>hm k hk),Kd.S_step h3 (fun k hk _=>hm k hk)⟩,fun k hk=>lt_same (hl k hk) (hm k hk)⟩,fun ⟨_,hl⟩=>hl⟩
theorem newDD {w0 w w1:World} {ps:List Pc} {v0 v1 v2 v3:Value} {a b:List Bool} {n m:List (List Int)} {o0 o1 o2 o3:Nat→Prop} (H:Sl w0 w ps) (hb:Below w.heap.size w w1) (h0:Kd.R Kd.bool 4 w1 w.heap.size o0 v0 a) (h1:Kd.S (Kd.slice 3 (Kd.int .i64)) 67 w1 w.heap.size o1 v1 n) (h2:Kd.R Kd.bool 4 w1 w.heap.size o2 v2 b) (h3:Kd.S (Kd.slice 3 (Kd.int .i64)) 67 w1 w.heap.size o3 v3 m):Sl w0 w1 (ps ++ [ddP v0 v1 v2 v3 a n b m]):=by
 have hs:=hb.size
 have hin:∀ k,w.heap.size≤k→k<w1.heap.size→k ∈ List.range' w.heap.size (w1.heap.size - w.heap.size):=fun k h1 h2=>by
  rw [List.mem_range'_1]
  omega
 refine H.call ⟨hb,List.range' w.heap.size (w1.heap.size - w.heap.size) ++ [],⟨_,[],rfl,⟨⟨Kd.R_lower (Kd.R_mono (Kd.R_bound h0) (fun k hk=>hin k hk.2.1 hk.2.2.1)) (Nat.zero_le _),Kd.S_lower (Kd.S_mono (Kd.S_bound h1) (fun k hk=>hin k hk.2.1 hk.2.2.1)) (Nat.zero_le _),Kd.R_lower (Kd.R_mono (Kd.R_bound h2) (fun k hk=>hin k hk.2.1 hk.2.2.1)) (Nat.zero_le _),Kd.S_lower (Kd.S_mono (Kd.S_bound h3) (fun k hk=>hin k hk.2.1 hk.2.2.1)) (Nat.zero_le _)⟩,fun k hk=>?_⟩,rfl⟩,?_,fun k hk=>?_⟩
 ·rw [List.mem_range'_1] at hk
  omega
 ·rw [List.append_nil];exact List.nodup_range'
 ·rw [List.append_nil,List.mem_range'_1] at hk
  exact hk.1
section
variable {w0 w:World} {ps:List Pc} {v0 v1 v2 v3:Value} {a b:List Bool} {n m:List (List Int)}
theorem dd (H:Sl w0 w ps) (i:Nat) (hi:ps[i]? = some (ddP v0 v1 v2 v3 a n b m):=by rfl):∃ A0 a0 A1 a1 B0 b0 B1 b1,v0 = .slice A0 a.length a0∧v1 = .slice A1 n.length a1∧v2 = .slice B0 b.length b0∧v3 = .slice B1 m.length b1∧a.length≤a0∧n.length≤a1∧b.length≤b0∧m.length≤b1:=by
 obtain ⟨f,⟨⟨h0,h1,h2,h3⟩,hl⟩,hn,hg⟩:=H.get i hi
 obtain ⟨A0,a0,e0,l0,_⟩:=Kd.R_reads h0
 obtain ⟨A1,a1,e1,l1,_⟩:=Kd.S_reads h1
 obtain ⟨B0,b0,e2,l2,_⟩:=Kd.R_reads h2
 obtain ⟨B1,b1,e3,l3,_⟩:=Kd.S_reads h3
 exact ⟨A0,a0,A1,a1,B0,b0,B1,b1,e0,e1,e2,e3,l0,l1,l2,l3⟩
theorem ddC {A0 A1 B0 B1:Option Addr} {a0 a1 b0 b1 x0 x1 x2 x3:Nat} (H:Sl w0 w ps) (i:Nat) (hi:ps[i]? = some (ddP (.slice A0 x0 a0) (.slice A1 x1 a1) (.slice B0 x2 b0) (.slice B1 x3 b1) a n b m):=by rfl):Kd.C Kd.bool w A0 a.length a∧Kd.C (Kd.slice 3 (Kd.int .i64)) w A1 n.length n∧Kd.C Kd.bool w B0 b.length b∧Kd.C (Kd.slice 3 (Kd.int .i64)) w B1 m.length m:=by
 obtain ⟨f,⟨⟨h0,h1,h2,h3⟩,hl⟩,hn,hg⟩:=H.get i hi
 exact ⟨(Kd.R_reads' h0).2.2,(Kd.S_reads' h1).2.2,(Kd.R_reads' h2).2.2,(Kd.S_reads' h3).2.2⟩
end
theorem big_ev (l0:List Int) (h:l0.length≤140737488351232):laws_big.f l0=some (decide ((l0.length:Int) > 1048576)):=by
 first | rfl | (simp [laws_big.f]) | (simp only [laws_big.f];split <;> simp_all)
theorem emp_dec (s:ByteArray):s.toList.isEmpty=decide (s.size=0):=by
 have e:s.toList.length=s.size:=by rw [ByteArray.toList_eq];rfl
 rw [← e]
 cases s.toList <;> simp
set_option maxHeartbeats 400000000 in
set_option maxRecDepth 100000 in
theorem lawDi (A:Option Addr) (c:Nat) (l0:List Int) (w:World) (hr:Kd.C (Kd.int .u8) w A l0.length l0) (hc:l0.length≤c) (h1:l0.length≤140737488351232) :
  Calls Try.prog 10 #[.slice A l0.length c] w fun e w'=>e = .returned (.bool true)∧Below w.heap.size w w':=by
 have H:=Sl.start w
 have HR:=am_ (And.intro hr hc)
 have HB:=am_ (big_ev l0 h1)
 have hu:=Try.underlying27
 clear hr hc
 by_cases hbig:((l0.length:Int) > 1048576)
 ·have e1:decide ((l0.length:Int) > 1048576)=true:=decide_eq_true hbig
  rw [e1] at HB
  clear h1 e1 hbig
  go_enter Try.func10,Try.ntmps10
  go_wp2_with ((with_reducible refine gate_dst (N:=21) rfl ?_);refine gL_ (some 21) Try.func27 #[.slice A l0.length c] ?_;refine (laws_big.calls A c l0 true _ (Kd.C_below HR.out.1 H.bel) HR.out.2 HB.out).mono ?_;rintro e w2 ⟨rfl,hb⟩;replace H:=H.only hb.below;clear hb;refine ⟨_,rfl,?_⟩)
  go_ret
  exact ⟨rfl,H.bel⟩
 have e1:decide ((l0.length:Int) > 1048576)=false:=decide_eq_false hbig
 rw [e1] at HB
 clear e1 hbig
 obtain ⟨a,n,b,m,hev,ha,hb,hm⟩:=draw_concat l0 h1
 obtain ⟨kd,hkd⟩:=hev.rounds
 have HKD:=am_ hkd
 obtain ⟨⟨d,dn,okb⟩,hd⟩:∃ r,r=ctR a n b m:=⟨_,rfl⟩
 have HP1:Aside0 (impl_ConcatDfa.f a n b m=some (d,dn,okb)):=⟨by rw [impl_ConcatDfa.f,← hd]⟩
 have HP2:Aside0 (spec_ConcatDfa.f a n b m=some (d,dn,okb)):=⟨by rw [spec_ConcatDfa.f,if_pos (by omega),← hd]⟩
 have hlen:d.length≤40∧dn.length≤40∧∀ r ∈ dn,r.length=3:=by have h:=ctR_len a n b m;rw [← hd] at h;exact h
 obtain ⟨e,en,hevx,hx,hxn⟩:=draw_star l0 h1
 obtain ⟨kx,hkx⟩:=hevx.rounds
 have HKX:=am_ hkx
 obtain ⟨⟨x,xn,fin⟩,hy⟩:∃ r,r=stR e en:=⟨_,rfl⟩
 have HS1:Aside0 (impl_StarDfa.f e en=some (x,xn,fin)):=⟨by rw [impl_StarDfa.f,← hy]⟩
 have HS2:Aside0 (spec_StarDfa.f e en=some (x,xn,fin)):=⟨by rw [spec_StarDfa.f,if_pos (by omega),← hy]⟩
 have hylen:x.length≤40∧xn.length≤40∧∀ r ∈ xn,r.length=3:=by have h:=stR_len e en;rw [← hy] at h;exact h
 obtain ⟨k3,hk3⟩:=(spec_equal d dn d dn (by have:=hlen.1;omega) (by have:=hlen.2.1;omega) (fun r hr=>by have:=hlen.2.2 r hr;omega)).rounds
 obtain ⟨k4,hk4⟩:=(spec_equal x xn x xn (by have:=hylen.1;omega) (by have:=hylen.2.1;omega) (fun r hr=>by have:=hylen.2.2 r hr;omega)).rounds
 have et:(decide (d=d) && decide (dn=dn))=true:=by simp
 have et2:(decide (x=x) && decide (xn=xn))=true:=by simp
 rw [et] at hk3
 rw [et2] at hk4
 have HE1:=am_ hk3
 have HE2:=am_ hk4
 obtain ⟨k6,hk6⟩:=(Wu.spec_upto 3).rounds
 rw [if_neg (by decide)] at hk6
 obtain ⟨ws,hws⟩:∃ ws,ws=Wu.upto (min (3:Int) 5).toNat:=⟨_,rfl⟩
 rw [← hws] at hk6
 have HW1:=am_ hk6
 have HWS:Aside0 (ws.length≤1000∧∀ s ∈ ws,lets (bytesOf s)=true∧s.size≤5):=⟨by rw [hws];exact ⟨(Wu.len_upto _ (by decide)).1,fun s hs=>⟨(Wu.upto_words _ s hs).1,Nat.le_trans (Wu.upto_words _ s hs).2 (by decide)⟩⟩⟩
 have HCT:Aside0 (∀ s:ByteArray,word s=true→okb=true→accOf d dn s=splB a n b m s (s.size+1)):=⟨fun s hs h=>by
  have h2:=ct_acc (a:=a) (n:=n) (b:=b) (m:=m) (s:=s) (by rw [← hd];exact h) hs
  rw [← hd] at h2
  exact h2⟩
 have HST:Aside0 (∀ s:ByteArray,word s=true→fin=true→accOf x xn s=morB e en x xn s (s.size+1)):=⟨fun s hs h=>by
  have h2:=st_acc (a:=e) (n:=en) (s:=s) (by rw [← hy];exact h) hs
  rw [← hy] at h2
  exact h2⟩
 have HLN:Aside0 ((a.length≤6∧b.length≤6)∧d.length≤40∧e.length≤6∧x.length≤40):=⟨⟨ha.1,hb⟩,hlen.1,hx,hylen.1⟩
 clear hev hkd hevx hkx hk3 hk4 et et2 hk6 hws hd hy hlen hylen ha hb hm hx hxn h1
 go_enter Try.func10,Try.ntmps10
 go_wp2_with (first
  | ((with_reducible refine gate_dst (N:=21) rfl ?_);refine gL_ (some 21) Try.func27 #[.slice A l0.length c] ?_;refine (laws_big.calls A c l0 false _ (Kd.C_below HR.out.1 H.bel) HR.out.2 HB.out).mono ?_;rintro e_ w2 ⟨rfl,hb⟩;replace H:=H.only hb.below;clear hb;refine ⟨_,rfl,?_⟩)
  | ((with_reducible refine gate_dst (N:=24) rfl ?_);refine gL_ (some 24) Try.func44 #[.slice A l0.length c] ?_;refine (spec_DrawConcatDfa.calls kd A c l0 a n b m _ (Kd.C_below HR.out.1 H.bel) HR.out.2 HKD.out).mono ?_;rintro e_ w2 ⟨v0,v1,v2,v3,rfl,h0,h1,h2,h3,hb⟩;replace H:=(newDD H hb h0 h1 h2 h3).nz;clear hb h0 h1 h2 h3;(obtain ⟨A0,a0,A1,a1,B0,b0,B1,b1,rfl,rfl,rfl,rfl,q0,q1,q2,q3⟩:=dd H 0);have Q0:=am_ (And.intro (And.intro q0 q1) (And.intro q2 q3));clear q0 q1 q2 q3;refine ⟨_,rfl,?_⟩)
  | ((with_reducible refine gate_dst (N:=3) rfl ?_);refine nw_ H 3 #[.slice none 0 0,.slice none 0 0] 27 rfl ?_;clear H;intro g3 w1 H;replace H:=H.nz;have F3:=H.f2 1)
  | ((with_reducible refine gate_store (p:=3) rfl ?_);refine p2_ H 3 1 rfl ?_;clear H F3;intro w1 H;replace H:=H.nz;clear F4;have F4:=H.f2 2)
  | ((with_reducible refine gate_dst (N:=4) rfl ?_);refine nw_ H 4 #[.slice none 0 0,.slice none 0 0] 27 rfl ?_;clear H;intro g4 w1 H;replace H:=H.nz;clear F3;have F3:=H.f2 1;have F4:=H.f2 2)
  | ((with_reducible refine gate_store (p:=4) rfl ?_);refine p2_ H 4 2 rfl ?_;clear H F4;intro w1 H;replace H:=H.nz;have F3:=H.f2 1;have F4:=H.f2 2)
  | ((with_reducible refine gate_dst (N:=30) rfl ?_);refine gL_ (some 30) Try.func24 #[.agg #[.slice A0 a.length a0,.slice A1 n.length a1],.agg #[.slice B0 b.length b0,.slice B1 m.length b1]] ?_;refine (impl_ConcatDfa.calls A0 a0 a A1 a1 n B0 b0 b B1 b1 m d dn okb _ (ddC H 0).1 Q0.out.1.1 (ddC H 0).2.1 Q0.out.1.2 (ddC H 0).2.2.1 Q0.out.2.1 (ddC H 0).2.2.2 Q0.out.2.2 HP1.out).mono ?_;clear F3 F4;rintro e_ w3 ⟨v0,v1,rfl,ho0,ho1,hb⟩;replace H:=(H.newD hb ho0 ho1).nz;clear hb ho0 ho1;(obtain ⟨D0,d0,D1,d1,rfl,rfl,l0_,l1_⟩:=H.dv 3);have QD:=am_ (And.intro l0_ l1_);clear l0_ l1_;refine ⟨_,rfl,?_⟩)
  | ((with_reducible refine gate_dst (N:=5) rfl ?_);refine nw_ H 5 #[.slice none 0 0,.slice none 0 0] 27 rfl ?_;clear H;intro g5 w1 H;replace H:=H.nz;have F5:=H.f2 4)
  | ((with_reducible refine gate_store (p:=5) rfl ?_);refine p2_ H 5 4 rfl ?_;clear H F5;intro w1 H;replace H:=H.nz;have F3:=H.f2 1;have F4:=H.f2 2)
  | ((with_reducible refine gate_dst (N:=36) rfl ?_);refine gL_ (some 36) Try.func23 #[.agg #[.slice A0 a.length a0,.slice A1 n.length a1],.agg #[.slice B0 b.length b0,.slice B1 m.length b1]] ?_;refine (spec_ConcatDfa.calls A0 a0 a A1 a1 n B0 b0 b B1 b1 m d dn okb _ (ddC H 0).1 Q0.out.1.1 (ddC H 0).2.1 Q0.out.1.2 (ddC H 0).2.2.1 Q0.out.2.1 (ddC H 0).2.2.2 Q0.out.2.2 HP2.out).mono ?_;clear F3 F4;rintro e_ w3 ⟨v0,v1,rfl,ho0,ho1,hb⟩;replace H:=(H.newD hb ho0 ho1).nz;clear hb ho0 ho1;(obtain ⟨W0,u0,W1,u1,rfl,rfl,l0_,l1_⟩:=H.dv 5);have QW:=am_ (And.intro l0_ l1_);clear l0_ l1_;refine ⟨_,rfl,?_⟩)
  | ((with_reducible refine gate_dst (N:=7) rfl ?_);refine nw_ H 7 #[.slice none 0 0,.slice none 0 0] 27 rfl ?_;clear H;intro g7 w1 H;replace H:=H.nz;have F7:=H.f2 6)
  | ((with_reducible refine gate_store (p:=7) rfl ?_);refine p2_ H 7 6 rfl ?_;clear H F7;intro w1 H;replace H:=H.nz)
  | ((with_reducible refine gate_dst (N:=40) rfl ?_);refine gL_ (some 40) Try.func45 #[.slice A l0.length c] ?_;refine (spec_DrawStarDfa.calls kx A c l0 e en _ (Kd.C_below HR.out.1 H.bel) HR.out.2 HKX.out).mono ?_;rintro e_ w3 ⟨v0,v1,rfl,ho0,ho1,hb⟩;replace H:=(H.newD hb ho0 ho1).nz;clear hb ho0 ho1;(obtain ⟨E0,e0,E1,e1,rfl,rfl,l0_,l1_⟩:=H.dv 7);have QE:=am_ (And.intro l0_ l1_);clear l0_ l1_;refine ⟨_,rfl,?_⟩)
  | ((with_reducible refine gate_dst (N:=9) rfl ?_);refine nw_ H 9 #[.slice none 0 0,.slice none 0 0] 27 rfl ?_;clear H;intro g9 w1 H;replace H:=H.nz;have F9:=H.f2 8)
  | ((with_reducible refine gate_store (p:=9) rfl ?_);refine p2_ H 9 8 rfl ?_;clear H F9;intro w1 H;replace H:=H.nz;have F9:=H.f2 8)
  | ((with_reducible refine gate_dst (N:=43) rfl ?_);refine gL_ (some 43) Try.func26 #[.agg #[.slice E0 e.length e0,.slice E1 en.length e1]] ?_;refine (impl_StarDfa.calls E0 e0 e E1 e1 en x xn fin _ (H.dv0 7) QE.out.1 (H.dv1 7) QE.out.2 HS1.out).mono ?_;clear F9;rintro e_ w3 ⟨v0,v1,rfl,ho0,ho1,hb⟩;replace H:=(H.newD hb ho0 ho1).nz;clear hb ho0 ho1;(obtain ⟨X0,x0,X1,x1,rfl,rfl,l0_,l1_⟩:=H.dv 9);have QX:=am_ (And.intro l0_ l1_);clear l0_ l1_;refine ⟨_,rfl,?_⟩)
  | ((with_reducible refine gate_dst (N:=10) rfl ?_);refine nw_ H 10 #[.slice none 0 0,.slice none 0 0] 27 rfl ?_;clear H;intro g10 w1 H;replace H:=H.nz;have F10:=H.f2 10)
  | ((with_reducible refine gate_store (p:=10) rfl ?_);refine p2_ H 10 10 rfl ?_;clear H F10;intro w1 H;replace H:=H.nz;have F9:=H.f2 8)
  | ((with_reducible refine gate_dst (N:=48) rfl ?_);refine gL_ (some 48) Try.func25 #[.agg #[.slice E0 e.length e0,.slice E1 en.length e1]] ?_;refine (spec_StarDfa.calls E0 e0 e E1 e1 en x xn fin _ (H.dv0 7) QE.out.1 (H.dv1 7) QE.out.2 HS2.out).mono ?_;clear F9;rintro e_ w3 ⟨v0,v1,rfl,ho0,ho1,hb⟩;replace H:=(H.newD hb ho0 ho1).nz;clear hb ho0 ho1;(obtain ⟨Y0,y0,Y1,y1,rfl,rfl,l0_,l1_⟩:=H.dv 11);have QY:=am_ (And.intro l0_ l1_);clear l0_ l1_;refine ⟨_,rfl,?_⟩)
  | ((with_reducible refine gate_dst (N:=12) rfl ?_);refine nw_ H 12 #[.slice none 0 0,.slice none 0 0] 27 rfl ?_;clear H;intro g12 w1 H;replace H:=H.nz;have F12:=H.f2 12)
  | ((with_reducible refine gate_store (p:=12) rfl ?_);refine p2_ H 12 12 rfl ?_;clear H F12;intro w1 H;replace H:=H.nz;have F5:=H.f2 4;have F7:=H.f2 6;have F10:=H.f2 10;have F12:=H.f2 12)
  | ((with_reducible refine gate_dst (N:=57) rfl ?_);refine gate_guard (by rfl) ?_;dsimp only;refine gL_ (some 57) Try.func32 #[.agg #[.slice D0 d.length d0,.slice D1 dn.length d1],.agg #[.slice W0 d.length u0,.slice W1 dn.length u1]] ?_;refine (spec_EqualDfa.calls k3 D0 d0 d D1 d1 dn W0 u0 d W1 u1 dn true _ (H.dv0 3) QD.out.1 (H.dv1 3) QD.out.2 (H.dv0 5) QW.out.1 (H.dv1 5) QW.out.2 HE1.out).mono ?_;rintro e_ w3 ⟨rfl,hb⟩;replace H:=H.only hb;clear hb F5 F7 F10 F12;have F10:=H.f2 10;have F12:=H.f2 12;refine ⟨_,rfl,?_⟩)
  | ((with_reducible refine gate_dst (N:=68) rfl ?_);refine gate_guard (by rfl) ?_;dsimp only;refine gL_ (some 68) Try.func32 #[.agg #[.slice X0 x.length x0,.slice X1 xn.length x1],.agg #[.slice Y0 x.length y0,.slice Y1 xn.length y1]] ?_;refine (spec_EqualDfa.calls k4 X0 x0 x X1 x1 xn Y0 y0 x Y1 y1 xn true _ (H.dv0 9) QX.out.1 (H.dv1 9) QX.out.2 (H.dv0 11) QY.out.1 (H.dv1 11) QY.out.2 HE2.out).mono ?_;rintro e_ w3 ⟨rfl,hb⟩;replace H:=H.only hb;clear hb F10 F12;refine ⟨_,rfl,?_⟩)
  | ((with_reducible refine gate_dst (N:=71) rfl ?_);refine gL_ (some 71) Try.func40 #[.int .i64 3] ?_;refine (spec_WordsUpTo.calls k6 3 ws _ HW1.out).mono ?_;rintro e_ w3 ⟨v,rfl,ho,hb⟩;replace H:=(H.newR hb ho).nz;clear ho hb;(obtain ⟨WA,wc,rfl,-,-⟩:=(H.rd 13).2);refine ⟨_,rfl,?_⟩))
 go_loopg [15] ws.length (fun gg v15 w'=>∃ (i:Nat),v15 = .int .i64 (i:Int)∧Aside0 (i≤ws.length∧ws.length≤gg+i)∧Sl w w' [ddP (.slice A0 a.length a0) (.slice A1 n.length a1) (.slice B0 b.length b0) (.slice B1 m.length b1) a n b m,bx g3 #[.slice A0 a.length a0,.slice A1 n.length a1] 27,bx g4 #[.slice B0 b.length b0,.slice B1 m.length b1] 27,dvP w.heap.size (.slice D0 d.length d0) (.slice D1 dn.length d1) d dn,bx g5 #[.slice D0 d.length d0,.slice D1 dn.length d1] 27,dvP w.heap.size (.slice W0 d.length u0) (.slice W1 dn.length u1) d dn,bx g7 #[.slice W0 d.length u0,.slice W1 dn.length u1] 27,dvP w.heap.size (.slice E0 e.length e0) (.slice E1 en.length e1) e en,bx g9 #[.slice E0 e.length e0,.slice E1 en.length e1] 27,dvP w.heap.size (.slice X0 x.length x0) (.slice X1 xn.length x1) x xn,bx g10 #[.slice X0 x.length x0,.slice X1 xn.length x1] 27,dvP w.heap.size (.slice Y0 x.length y0) (.slice Y1 xn.length y1) x xn,bx g12 #[.slice Y0 x.length y0,.slice Y1 xn.length y1] 27,rwP Kd.string 9 (.slice WA ws.length wc) ws])
 case atStart=>exact ⟨0,rfl,⟨by omega,by omega⟩,H⟩
 case round =>
  clear H
  obtain ⟨i,rfl,HI,H⟩:=hrel
  by_cases hi:i<ws.length
  ·obtain ⟨g1_,rfl⟩:∃ q,gk=q+1:=⟨gk - 1,by have:=HI.out;omega⟩
   obtain ⟨ad,rfl,hcell⟩:=Kd.at_string (H.rd_c 13) (i:Int) (by omega) (by omega)
   rw [Int.toNat_natCast,rdOf_get _ ws i hi] at hcell
   obtain ⟨s,hs⟩:∃ s,s=ws[i]:=⟨_,rfl⟩
   have hsw:=HWS.out.2 s (by rw [hs];exact List.getElem_mem hi)
   rw [← hs] at hcell
   have hword:word s=true:=by unfold word;rw [hsw.1,Bool.true_and];exact decide_eq_true (by omega)
   have HWD:=am_ (And.intro hword hsw.2)
   have p1:((i:Int)<(ws.length:Int))=True:=eq_true (by omega)
   have p2:((0:Int)≤(i:Int))=True:=eq_true (by omega)
   have HI2:=am_ hi
   clear hword hsw hs hi
   go_wp2
   clear hcell p1 p2
   obtain ⟨mo0,hmo0⟩:∃ u,u=morB e en x xn s 0:=⟨_,rfl⟩
   go_loopg [17,18,19] (s.size+1) (fun gg v17 v18 v19 w'=>∃ (j:Nat),v17 = .bool (splB a n b m s j)∧v18 = .bool (morB e en x xn s j)∧v19 = .int .i64 (j:Int)∧Aside0 (j≤s.size+1∧s.size+1≤gg+j)∧Sl w w' [ddP (.slice A0 a.length a0) (.slice A1 n.length a1) (.slice B0 b.length b0) (.slice B1 m.length b1) a n b m,bx g3 #[.slice A0 a.length a0,.slice A1 n.length a1] 27,bx g4 #[.slice B0 b.length b0,.slice B1 m.length b1] 27,dvP w.heap.size (.slice D0 d.length d0) (.slice D1 dn.length d1) d dn,bx g5 #[.slice D0 d.length d0,.slice D1 dn.length d1] 27,dvP w.heap.size (.slice W0 d.length u0) (.slice W1 dn.length u1) d dn,bx g7 #[.slice W0 d.length u0,.slice W1 dn.length u1] 27,dvP w.heap.size (.slice E0 e.length e0) (.slice E1 en.length e1) e en,bx g9 #[.slice E0 e.length e0,.slice E1 en.length e1] 27,dvP w.heap.size (.slice X0 x.length x0) (.slice X1 xn.length x1) x xn,bx g10 #[.slice X0 x.length x0,.slice X1 xn.length x1] 27,dvP w.heap.size (.slice Y0 x.length y0) (.slice Y1 xn.length y1) x xn,bx g12 #[.slice Y0 x.length y0,.slice Y1 xn.length y1] 27,rwP Kd.string 9 (.slice (some ad) ws.length wc) ws])
   case atStart =>
    refine ⟨0,rfl,?atM,rfl,⟨by omega,by omega⟩,H⟩
    case atM =>
     rw [morB]
     exact congrArg Value.bool (emp_dec s)
   case round =>
    clear H hmo0 mo0
    obtain ⟨j,rfl,rfl,rfl,HJ,H⟩:=hrel
    by_cases hj:j≤s.size
    ·obtain ⟨g2_,rfl⟩:∃ q,gk=q+1:=⟨gk - 1,by have:=HJ.out;omega⟩
     have HL:=HLN.out
     have h5:=HWD.out.2
     have hzA:(s.extract 0 j).size≤5:=by rw [(fst_part HWD.out.1 j hj).2.2];omega
     have hzB:(s.extract j s.size).size≤5:=by rw [(snd_part HWD.out.1 j hj).2.2];omega
     obtain ⟨j1,hj1⟩:=(impl_acc a n (by omega) (s.extract 0 j) (by omega)).rounds
     obtain ⟨j2,hj2⟩:=(impl_acc b m (by omega) (s.extract j s.size) (by omega)).rounds
     obtain ⟨j3,hj3⟩:=(impl_acc e en (by omega) (s.extract 0 j) (by omega)).rounds
     obtain ⟨j4,hj4⟩:=(impl_acc x xn (by omega) (s.extract j s.size) (by omega)).rounds
     have hS:splB a n b m s (j+1)=(splB a n b m s j || (accOf a n (s.extract 0 j) && accOf b m (s.extract j s.size))):=by rw [splB]
     have hM:morB e en x xn s (j+1)=(morB e en x xn s j || (decide (0<j) && (accOf e en (s.extract 0 j) && accOf x xn (s.extract j s.size)))):=by rw [morB]
     obtain ⟨sp,hsp⟩:∃ u,u=splB a n b m s j:=⟨_,rfl⟩
     obtain ⟨mo,hmo⟩:∃ u,u=morB e en x xn s j:=⟨_,rfl⟩
     obtain ⟨pa,hpa⟩:∃ u,u=accOf a n (s.extract 0 j):=⟨_,rfl⟩
     obtain ⟨pb,hpb⟩:∃ u,u=accOf b m (s.extract j s.size):=⟨_,rfl⟩
     obtain ⟨pe,hpe⟩:∃ u,u=accOf e en (s.extract 0 j):=⟨_,rfl⟩
     obtain ⟨px,hpx⟩:∃ u,u=accOf x xn (s.extract j s.size):=⟨_,rfl⟩
     rw [← hsp,← hpa,← hpb] at hS
     rw [← hmo,← hpe,← hpx] at hM
     rw [← hpa] at hj1
     rw [← hpb] at hj2
     rw [← hpe] at hj3
     rw [← hpx] at hj4
     have HPA:=am_ hj1
     have HPB:=am_ hj2
     have HPE:=am_ hj3
     have HPX:=am_ hj4
     have HSM:=am_ (And.intro hS hM)
     rw [← hsp,← hmo]
     clear hsp hmo hpa hpb hpe hpx hj1 hj2 hj3 hj4 hS hM HL h5 hzA hzB
     have q1:((j:Int)≤(s.size:Int))=True:=eq_true (by omega)
     have q2:((0:Int)≤(j:Int))=True:=eq_true (by omega)
     have HJ2:=am_ hj
     clear hj
     go_wp2
     have F3:=H.f2 1
     have F4:=H.f2 2
     have F9:=H.f2 8
     have F10:=H.f2 10
     cases sp
     cases pa
     refine start_ (n:=16) (S:=(fun w'=>w'.cell? ⟨g3,0,none⟩=some (.slice A0 a.length a0)∧w'.cell? ⟨g3,1,none⟩=some (.slice A1 n.length a1)∧w'.cell? ⟨g4,0,none⟩=some (.slice B0 b.length b0)∧w'.cell? ⟨g4,1,none⟩=some (.slice B1 m.length b1))) (ds:=[]) (bl 16 0) (by kernel_rfl) rfl rfl (⟨F3.1.1,F3.2.1,F4.1.1,F4.2.1⟩) (fun hHeld=>?_);refine with_tabW tabdi21 bitsdi21 (fun HT_ HW_=>?_)
     clear F3 F4 F9 F10
     replace H:=H.drew
     refine ph_ 0 90 (fb 16 1) HT_ ?_
     refine ph_ 1 91 (fb 16 3) HT_ ?_
     refine ph_ 3 93 (fb 16 11) HT_ ?_
     refine ph_ 4 94 (fb 16 27) HT_ ?_
     refine ph_ 5 95 (fb 16 59) HT_ ?_
     refine th_ 2 92 (fb 16 63) HT_ HW_ hHeld ?_
     refine on_ 6 (some 96) (fb 16 127) HT_ (fun K hK=>?_)
     refine gO_ Try.func34 #[.agg #[.slice A0 a.length a0,.slice A1 n.length a1],.string (s.extract 0 j)] ?_
     refine (impl_AcceptsWord.calls j1 A0 a0 a A1 a1 n (s.extract 0 j) false _ (ddC H 0).1 Q0.out.1.1 (ddC H 0).2.1 Q0.out.1.2 HPA.out).mono ?_
     rintro e_ w3 ⟨rfl,hb⟩
     replace H:=H.only hb
     refine ⟨_,rfl,?_⟩
     refine hK.out _ _ (sb_ hb hHeld) (fun hHeld=>?_)
     clear hK K
     refine nm_ 96 ?_
     refine ph_ 7 97 (fb 16 255) HT_ ?_
     refine pz_ 9 99 (fb 16 767) HT_ ?_
     refine pz_ 10 100 (fb 16 1791) HT_ ?_
     refine pz_ 11 101 (fb 16 3839) HT_ ?_
     refine tz_ 8 98 (fb 16 4095) HT_ HW_ hHeld ?_
     refine on_ 12 (some 102) (fb 16 8191) HT_ (fun K hK=>?_)
     refine no_ ?_
     refine hK.out _ _ hHeld (fun hHeld=>?_)
     clear hK K
     refine nm_ 102 ?_
     refine ph_ 13 103 (fb 16 16383) HT_ ?_
     refine ph_ 14 104 (fb 16 32767) HT_ ?_
     refine ph_ 15 17 (fb 16 65535) HT_ ?_
     refine done_ (done_of HT_.out (by kernel_rfl)) ?_
     clear HT_ HW_ hHeld
     (try clear hb)
     have F9:=H.f2 8
     have F10:=H.f2 10
     go_wp2
     rotate_left 1
     refine start_ (n:=16) (S:=(fun w'=>w'.cell? ⟨g3,0,none⟩=some (.slice A0 a.length a0)∧w'.cell? ⟨g3,1,none⟩=some (.slice A1 n.length a1)∧w'.cell? ⟨g4,0,none⟩=some (.slice B0 b.length b0)∧w'.cell? ⟨g4,1,none⟩=some (.slice B1 m.length b1))) (ds:=[]) (bl 16 0) (by kernel_rfl) rfl rfl (⟨F3.1.1,F3.2.1,F4.1.1,F4.2.1⟩) (fun hHeld=>?_);refine with_tabW tabdi21 bitsdi21 (fun HT_ HW_=>?_)
     clear F3 F4 F9 F10
     replace H:=H.drew
     refine ph_ 0 90 (fb 16 1) HT_ ?_
     refine ph_ 1 91 (fb 16 3) HT_ ?_
     refine ph_ 3 93 (fb 16 11) HT_ ?_
     refine ph_ 4 94 (fb 16 27) HT_ ?_
     refine ph_ 5 95 (fb 16 59) HT_ ?_
     refine th_ 2 92 (fb 16 63) HT_ HW_ hHeld ?_
     refine on_ 6 (some 96) (fb 16 127) HT_ (fun K hK=>?_)
     refine gO_ Try.func34 #[.agg #[.slice A0 a.length a0,.slice A1 n.length a1],.string (s.extract 0 j)] ?_
     refine (impl_AcceptsWord.calls j1 A0 a0 a A1 a1 n (s.extract 0 j) true _ (ddC H 0).1 Q0.out.1.1 (ddC H 0).2.1 Q0.out.1.2 HPA.out).mono ?_
     rintro e_ w3 ⟨rfl,hb⟩
     replace H:=H.only hb
     refine ⟨_,rfl,?_⟩
     refine hK.out _ _ (sb_ hb hHeld) (fun hHeld=>?_)
     clear hK K
     refine nm_ 96 ?_
     refine ph_ 7 97 (fb 16 255) HT_ ?_
     refine ph_ 9 99 (fb 16 767) HT_ ?_
     refine ph_ 10 100 (fb 16 1791) HT_ ?_
     refine ph_ 11 101 (fb 16 3839) HT_ ?_
     refine th_ 8 98 (fb 16 4095) HT_ HW_ hHeld ?_
     refine on_ 12 (some 102) (fb 16 8191) HT_ (fun K hK=>?_)
     refine gO_ Try.func34 #[.agg #[.slice B0 b.length b0,.slice B1 m.length b1],.string (s.extract j s.size)] ?_
     refine (impl_AcceptsWord.calls j2 B0 b0 b B1 b1 m (s.extract j s.size) pb _ (ddC H 0).2.2.1 Q0.out.2.1 (ddC H 0).2.2.2 Q0.out.2.2 HPB.out).mono ?_
     rintro e_ w3 ⟨rfl,hb⟩
     replace H:=H.only hb
     refine ⟨_,rfl,?_⟩
     refine hK.out _ _ (sb_ hb hHeld) (fun hHeld=>?_)
     clear hK K
     refine nm_ 102 ?_
     refine ph_ 13 103 (fb 16 16383) HT_ ?_
     refine ph_ 14 104 (fb 16 32767) HT_ ?_
     refine ph_ 15 17 (fb 16 65535) HT_ ?_
     refine done_ (done_of HT_.out (by kernel_rfl)) ?_
     clear HT_ HW_ hHeld
     (try clear hb)
     have F9:=H.f2 8
     have F10:=H.f2 10
     go_wp2
     rotate_left 1
     refine start_ (n:=16) (S:=(fun w'=>w'.cell? ⟨g3,0,none⟩=some (.slice A0 a.length a0)∧w'.cell? ⟨g3,1,none⟩=some (.slice A1 n.length a1)∧w'.cell? ⟨g4,0,none⟩=some (.slice B0 b.length b0)∧w'.cell? ⟨g4,1,none⟩=some (.slice B1 m.length b1))) (ds:=[]) (bl 16 0) (by kernel_rfl) rfl rfl (⟨F3.1.1,F3.2.1,F4.1.1,F4.2.1⟩) (fun hHeld=>?_);refine with_tabW tabdi21 bitsdi21 (fun HT_ HW_=>?_)
     clear F3 F4 F9 F10
     replace H:=H.drew
     refine ph_ 0 90 (fb 16 1) HT_ ?_
     refine ph_ 1 91 (fb 16 3) HT_ ?_
     refine pz_ 3 93 (fb 16 11) HT_ ?_
     refine pz_ 4 94 (fb 16 27) HT_ ?_
     refine pz_ 5 95 (fb 16 59) HT_ ?_
     refine tz_ 2 92 (fb 16 63) HT_ HW_ hHeld ?_
     refine on_ 6 (some 96) (fb 16 127) HT_ (fun K hK=>?_)
     refine no_ ?_
     refine hK.out _ _ hHeld (fun hHeld=>?_)
     clear hK K
     refine nm_ 96 ?_
     refine pz_ 7 97 (fb 16 255) HT_ ?_
     refine pz_ 9 99 (fb 16 767) HT_ ?_
     refine pz_ 10 100 (fb 16 1791) HT_ ?_
     refine pz_ 11 101 (fb 16 3839) HT_ ?_
     refine tz_ 8 98 (fb 16 4095) HT_ HW_ hHeld ?_
     refine on_ 12 (some 102) (fb 16 8191) HT_ (fun K hK=>?_)
     refine no_ ?_
     refine hK.out _ _ hHeld (fun hHeld=>?_)
     clear hK K
     refine nm_ 102 ?_
     refine pz_ 13 103 (fb 16 16383) HT_ ?_
     refine ph_ 14 104 (fb 16 32767) HT_ ?_
     refine ph_ 15 17 (fb 16 65535) HT_ ?_
     refine done_ (done_of HT_.out (by kernel_rfl)) ?_
     clear HT_ HW_ hHeld
     (try clear hb)
     have F9:=H.f2 8
     have F10:=H.f2 10
     go_wp2
     rotate_left 1
     all_goals (
      by_cases hz:j=0
      ·have HZ:Aside0 (decide (0<j)=false):=⟨decide_eq_false (by omega)⟩
       have q3:((j:Int) > 0)=False:=eq_false (by omega)
       have q4:(0<j)=False:=eq_false (by omega)
       clear hz
       cases mo
       ·refine start_ (n:=20) (S:=(fun w'=>w'.cell? ⟨g9,0,none⟩=some (.slice E0 e.length e0)∧w'.cell? ⟨g9,1,none⟩=some (.slice E1 en.length e1)∧w'.cell? ⟨g10,0,none⟩=some (.slice X0 x.length x0)∧w'.cell? ⟨g10,1,none⟩=some (.slice X1 xn.length x1))) (ds:=[]) (bl 20 0) (by kernel_rfl) rfl rfl (⟨F9.1.1,F9.2.1,F10.1.1,F10.2.1⟩) (fun hHeld=>?_);refine with_tabW tabdi22 bitsdi22 (fun HT_ HW_=>?_)
        clear F9 F10
        replace H:=H.drew
        refine ph_ 0 105 (fb 20 1) HT_ ?_
        refine ph_ 1 106 (fb 20 3) HT_ ?_
        refine ph_ 2 107 (fb 20 7) HT_ ?_
        refine ph_ 3 108 (fb 20 15) HT_ ?_
        refine ph_ 4 109 (fb 20 31) HT_ ?_
        refine pz_ 6 111 (fb 20 95) HT_ ?_
        refine pz_ 7 112 (fb 20 223) HT_ ?_
        refine pz_ 8 113 (fb 20 479) HT_ ?_
        refine tz_ 5 110 (fb 20 511) HT_ HW_ hHeld ?_
        refine on_ 9 (some 114) (fb 20 1023) HT_ (fun K hK=>?_)
        refine no_ ?_
        refine hK.out _ _ hHeld (fun hHeld=>?_)
        clear hK K
        refine nm_ 114 ?_
        refine ph_ 10 115 (fb 20 2047) HT_ ?_
        refine ph_ 11 116 (fb 20 4095) HT_ ?_
        refine pz_ 13 118 (fb 20 12287) HT_ ?_
        refine pz_ 14 119 (fb 20 28671) HT_ ?_
        refine pz_ 15 120 (fb 20 61439) HT_ ?_
        refine tz_ 12 117 (fb 20 65535) HT_ HW_ hHeld ?_
        refine on_ 16 (some 121) (fb 20 131071) HT_ (fun K hK=>?_)
        refine no_ ?_
        refine hK.out _ _ hHeld (fun hHeld=>?_)
        clear hK K
        refine nm_ 121 ?_
        refine ph_ 17 122 (fb 20 262143) HT_ ?_
        refine ph_ 18 123 (fb 20 524287) HT_ ?_
        refine ph_ 19 18 (fb 20 1048575) HT_ ?_
        refine done_ (done_of HT_.out (by kernel_rfl)) ?_
        clear HT_ HW_ hHeld
        (try clear hb)
        go_wp2
        go_roundg g2_
        case measure=>omega
        case rel=>exact ⟨j+1,by rw [HSM.out.1];(first | rfl | (simp;done)),by rw [HSM.out.2];(first | rfl | (simp [HZ.out];done)),by rw [up1 (by have:=HWD.out.2;have:=HJ2.out;omega)],⟨by have:=HJ2.out;omega,by have:=HJ.out;omega⟩,H⟩
       ·refine start_ (n:=20) (S:=(fun w'=>w'.cell? ⟨g9,0,none⟩=some (.slice E0 e.length e0)∧w'.cell? ⟨g9,1,none⟩=some (.slice E1 en.length e1)∧w'.cell? ⟨g10,0,none⟩=some (.slice X0 x.length x0)∧w'.cell? ⟨g10,1,none⟩=some (.slice X1 xn.length x1))) (ds:=[]) (bl 20 0) (by kernel_rfl) rfl rfl (⟨F9.1.1,F9.2.1,F10.1.1,F10.2.1⟩) (fun hHeld=>?_);refine with_tabW tabdi22 bitsdi22 (fun HT_ HW_=>?_)
        clear F9 F10
        replace H:=H.drew
        refine ph_ 0 105 (fb 20 1) HT_ ?_
        refine ph_ 1 106 (fb 20 3) HT_ ?_
        refine pz_ 2 107 (fb 20 7) HT_ ?_
        refine pz_ 3 108 (fb 20 15) HT_ ?_
        refine pz_ 4 109 (fb 20 31) HT_ ?_
        refine pz_ 6 111 (fb 20 95) HT_ ?_
        refine pz_ 7 112 (fb 20 223) HT_ ?_
        refine pz_ 8 113 (fb 20 479) HT_ ?_
        refine tz_ 5 110 (fb 20 511) HT_ HW_ hHeld ?_
        refine on_ 9 (some 114) (fb 20 1023) HT_ (fun K hK=>?_)
        refine no_ ?_
        refine hK.out _ _ hHeld (fun hHeld=>?_)
        clear hK K
        refine nm_ 114 ?_
        refine pz_ 10 115 (fb 20 2047) HT_ ?_
        refine pz_ 11 116 (fb 20 4095) HT_ ?_
        refine pz_ 13 118 (fb 20 12287) HT_ ?_
        refine pz_ 14 119 (fb 20 28671) HT_ ?_
        refine pz_ 15 120 (fb 20 61439) HT_ ?_
        refine tz_ 12 117 (fb 20 65535) HT_ HW_ hHeld ?_
        refine on_ 16 (some 121) (fb 20 131071) HT_ (fun K hK=>?_)
        refine no_ ?_
        refine hK.out _ _ hHeld (fun hHeld=>?_)
        clear hK K
        refine nm_ 121 ?_
        refine pz_ 17 122 (fb 20 262143) HT_ ?_
        refine ph_ 18 123 (fb 20 524287) HT_ ?_
        refine ph_ 19 18 (fb 20 1048575) HT_ ?_
        refine done_ (done_of HT_.out (by kernel_rfl)) ?_
        clear HT_ HW_ hHeld
        (try clear hb)
        go_wp2
        go_roundg g2_
        case measure=>omega
        case rel=>exact ⟨j+1,by rw [HSM.out.1];(first | rfl | (simp;done)),by rw [HSM.out.2];(first | rfl | (simp [HZ.out];done)),by rw [up1 (by have:=HWD.out.2;have:=HJ2.out;omega)],⟨by have:=HJ2.out;omega,by have:=HJ.out;omega⟩,H⟩
      ·have HZ:Aside0 (decide (0<j)=true):=⟨decide_eq_true (by omega)⟩
       have q3:((j:Int) > 0)=True:=eq_true (by omega)
       have q4:(0<j)=True:=eq_true (by omega)
       clear hz
       cases mo
       ·cases pe
        ·refine start_ (n:=20) (S:=(fun w'=>w'.cell? ⟨g9,0,none⟩=some (.slice E0 e.length e0)∧w'.cell? ⟨g9,1,none⟩=some (.slice E1 en.length e1)∧w'.cell? ⟨g10,0,none⟩=some (.slice X0 x.length x0)∧w'.cell? ⟨g10,1,none⟩=some (.slice X1 xn.length x1))) (ds:=[]) (bl 20 0) (by kernel_rfl) rfl rfl (⟨F9.1.1,F9.2.1,F10.1.1,F10.2.1⟩) (fun hHeld=>?_);refine with_tabW tabdi22 bitsdi22 (fun HT_ HW_=>?_)
         clear F9 F10
         replace H:=H.drew
         refine ph_ 0 105 (fb 20 1) HT_ ?_
         refine ph_ 1 106 (fb 20 3) HT_ ?_
         refine ph_ 2 107 (fb 20 7) HT_ ?_
         refine ph_ 3 108 (fb 20 15) HT_ ?_
         refine ph_ 4 109 (fb 20 31) HT_ ?_
         refine ph_ 6 111 (fb 20 95) HT_ ?_
         refine ph_ 7 112 (fb 20 223) HT_ ?_
         refine ph_ 8 113 (fb 20 479) HT_ ?_
         refine th_ 5 110 (fb 20 511) HT_ HW_ hHeld ?_
         refine on_ 9 (some 114) (fb 20 1023) HT_ (fun K hK=>?_)
         refine gO_ Try.func34 #[.agg #[.slice E0 e.length e0,.slice E1 en.length e1],.string (s.extract 0 j)] ?_
         refine (impl_AcceptsWord.calls j3 E0 e0 e E1 e1 en (s.extract 0 j) false _ (H.dv0 7) QE.out.1 (H.dv1 7) QE.out.2 HPE.out).mono ?_
         rintro e_ w3 ⟨rfl,hb⟩
         replace H:=H.only hb
         refine ⟨_,rfl,?_⟩
         refine hK.out _ _ (sb_ hb hHeld) (fun hHeld=>?_)
         clear hK K
         refine nm_ 114 ?_
         refine ph_ 10 115 (fb 20 2047) HT_ ?_
         refine ph_ 11 116 (fb 20 4095) HT_ ?_
         refine pz_ 13 118 (fb 20 12287) HT_ ?_
         refine pz_ 14 119 (fb 20 28671) HT_ ?_
         refine pz_ 15 120 (fb 20 61439) HT_ ?_
         refine tz_ 12 117 (fb 20 65535) HT_ HW_ hHeld ?_
         refine on_ 16 (some 121) (fb 20 131071) HT_ (fun K hK=>?_)
         refine no_ ?_
         refine hK.out _ _ hHeld (fun hHeld=>?_)
         clear hK K
         refine nm_ 121 ?_
         refine ph_ 17 122 (fb 20 262143) HT_ ?_
         refine ph_ 18 123 (fb 20 524287) HT_ ?_
         refine ph_ 19 18 (fb 20 1048575) HT_ ?_
         refine done_ (done_of HT_.out (by kernel_rfl)) ?_
         clear HT_ HW_ hHeld
         (try clear hb)
         go_wp2
         go_roundg g2_
         case measure=>omega
         case rel=>exact ⟨j+1,by rw [HSM.out.1];(first | rfl | (simp;done)),by rw [HSM.out.2];(first | rfl | (simp [HZ.out];done)),by rw [up1 (by have:=HWD.out.2;have:=HJ2.out;omega)],⟨by have:=HJ2.out;omega,by have:=HJ.out;omega⟩,H⟩
        ·refine start_ (n:=20) (S:=(fun w'=>w'.cell? ⟨g9,0,none⟩=some (.slice E0 e.length e0)∧w'.cell? ⟨g9,1,none⟩=some (.slice E1 en.length e1)∧w'.cell? ⟨g10,0,none⟩=some (.slice X0 x.length x0)∧w'.cell? ⟨g10,1,none⟩=some (.slice X1 xn.length x1))) (ds:=[]) (bl 20 0) (by kernel_rfl) rfl rfl (⟨F9.1.1,F9.2.1,F10.1.1,F10.2.1⟩) (fun hHeld=>?_);refine with_tabW tabdi22 bitsdi22 (fun HT_ HW_=>?_)
         clear F9 F10
         replace H:=H.drew
         refine ph_ 0 105 (fb 20 1) HT_ ?_
         refine ph_ 1 106 (fb 20 3) HT_ ?_
         refine ph_ 2 107 (fb 20 7) HT_ ?_
         refine ph_ 3 108 (fb 20 15) HT_ ?_
         refine ph_ 4 109 (fb 20 31) HT_ ?_
         refine ph_ 6 111 (fb 20 95) HT_ ?_
         refine ph_ 7 112 (fb 20 223) HT_ ?_
         refine ph_ 8 113 (fb 20 479) HT_ ?_
         refine th_ 5 110 (fb 20 511) HT_ HW_ hHeld ?_
         refine on_ 9 (some 114) (fb 20 1023) HT_ (fun K hK=>?_)
         refine gO_ Try.func34 #[.agg #[.slice E0 e.length e0,.slice E1 en.length e1],.string (s.extract 0 j)] ?_
         refine (impl_AcceptsWord.calls j3 E0 e0 e E1 e1 en (s.extract 0 j) true _ (H.dv0 7) QE.out.1 (H.dv1 7) QE.out.2 HPE.out).mono ?_
         rintro e_ w3 ⟨rfl,hb⟩
         replace H:=H.only hb
         refine ⟨_,rfl,?_⟩
         refine hK.out _ _ (sb_ hb hHeld) (fun hHeld=>?_)
         clear hK K
         refine nm_ 114 ?_
         refine ph_ 10 115 (fb 20 2047) HT_ ?_
         refine ph_ 11 116 (fb 20 4095) HT_ ?_
         refine ph_ 13 118 (fb 20 12287) HT_ ?_
         refine ph_ 14 119 (fb 20 28671) HT_ ?_
         refine ph_ 15 120 (fb 20 61439) HT_ ?_
         refine th_ 12 117 (fb 20 65535) HT_ HW_ hHeld ?_
         refine on_ 16 (some 121) (fb 20 131071) HT_ (fun K hK=>?_)
         refine gO_ Try.func34 #[.agg #[.slice X0 x.length x0,.slice X1 xn.length x1],.string (s.extract j s.size)] ?_
         refine (impl_AcceptsWord.calls j4 X0 x0 x X1 x1 xn (s.extract j s.size) px _ (H.dv0 9) QX.out.1 (H.dv1 9) QX.out.2 HPX.out).mono ?_
         rintro e_ w3 ⟨rfl,hb⟩
         replace H:=H.only hb
         refine ⟨_,rfl,?_⟩
         refine hK.out _ _ (sb_ hb hHeld) (fun hHeld=>?_)
         clear hK K
         refine nm_ 121 ?_
         refine ph_ 17 122 (fb 20 262143) HT_ ?_
         refine ph_ 18 123 (fb 20 524287) HT_ ?_
         refine ph_ 19 18 (fb 20 1048575) HT_ ?_
         refine done_ (done_of HT_.out (by kernel_rfl)) ?_
         clear HT_ HW_ hHeld
         (try clear hb)
         go_wp2
         go_roundg g2_
         case measure=>omega
         case rel=>exact ⟨j+1,by rw [HSM.out.1];(first | rfl | (simp;done)),by rw [HSM.out.2];(first | rfl | (simp [HZ.out];done)),by rw [up1 (by have:=HWD.out.2;have:=HJ2.out;omega)],⟨by have:=HJ2.out;omega,by have:=HJ.out;omega⟩,H⟩
       ·refine start_ (n:=20) (S:=(fun w'=>w'.cell? ⟨g9,0,none⟩=some (.slice E0 e.length e0)∧w'.cell? ⟨g9,1,none⟩=some (.slice E1 en.length e1)∧w'.cell? ⟨g10,0,none⟩=some (.slice X0 x.length x0)∧w'.cell? ⟨g10,1,none⟩=some (.slice X1 xn.length x1))) (ds:=[]) (bl 20 0) (by kernel_rfl) rfl rfl (⟨F9.1.1,F9.2.1,F10.1.1,F10.2.1⟩) (fun hHeld=>?_);refine with_tabW tabdi22 bitsdi22 (fun HT_ HW_=>?_)
        clear F9 F10
        replace H:=H.drew
        refine ph_ 0 105 (fb 20 1) HT_ ?_
        refine ph_ 1 106 (fb 20 3) HT_ ?_
        refine pz_ 2 107 (fb 20 7) HT_ ?_
        refine pz_ 3 108 (fb 20 15) HT_ ?_
        refine pz_ 4 109 (fb 20 31) HT_ ?_
        refine pz_ 6 111 (fb 20 95) HT_ ?_
        refine pz_ 7 112 (fb 20 223) HT_ ?_
        refine pz_ 8 113 (fb 20 479) HT_ ?_
        refine tz_ 5 110 (fb 20 511) HT_ HW_ hHeld ?_
        refine on_ 9 (some 114) (fb 20 1023) HT_ (fun K hK=>?_)
        refine no_ ?_
        refine hK.out _ _ hHeld (fun hHeld=>?_)
        clear hK K
        refine nm_ 114 ?_
        refine pz_ 10 115 (fb 20 2047) HT_ ?_
        refine pz_ 11 116 (fb 20 4095) HT_ ?_
        refine pz_ 13 118 (fb 20 12287) HT_ ?_
        refine pz_ 14 119 (fb 20 28671) HT_ ?_
        refine pz_ 15 120 (fb 20 61439) HT_ ?_
        refine tz_ 12 117 (fb 20 65535) HT_ HW_ hHeld ?_
        refine on_ 16 (some 121) (fb 20 131071) HT_ (fun K hK=>?_)
        refine no_ ?_
        refine hK.out _ _ hHeld (fun hHeld=>?_)
        clear hK K
        refine nm_ 121 ?_
        refine pz_ 17 122 (fb 20 262143) HT_ ?_
        refine ph_ 18 123 (fb 20 524287) HT_ ?_
        refine ph_ 19 18 (fb 20 1048575) HT_ ?_
        refine done_ (done_of HT_.out (by kernel_rfl)) ?_
        clear HT_ HW_ hHeld
        (try clear hb)
        go_wp2
        go_roundg g2_
        case measure=>omega
        case rel=>exact ⟨j+1,by rw [HSM.out.1];(first | rfl | (simp;done)),by rw [HSM.out.2];(first | rfl | (simp [HZ.out];done)),by rw [up1 (by have:=HWD.out.2;have:=HJ2.out;omega)],⟨by have:=HJ2.out;omega,by have:=HJ.out;omega⟩,H⟩)
    ·have e_:j=s.size+1:=by have:=HJ.out;omega
     subst e_
     have q1:(((s.size+1:Nat):Int)≤(s.size:Int))=False:=eq_false (by omega)
     have HL:=HLN.out
     have h5:=HWD.out.2
     obtain ⟨j1,hj1⟩:=(impl_acc d dn (by omega) s (by omega)).rounds
     obtain ⟨j2,hj2⟩:=(impl_acc x xn (by omega) s (by omega)).rounds
     have HPD:Aside0 (okb=true→impl_AcceptsWord.f j1 d dn s=some (splB a n b m s (s.size+1))):=⟨fun h=>by rw [hj1,HCT.out s HWD.out.1 h]⟩
     have HPX:Aside0 (fin=true→impl_AcceptsWord.f j2 x xn s=some (morB e en x xn s (s.size+1))):=⟨fun h=>by rw [hj2,HST.out s HWD.out.1 h]⟩
     have F5:=H.f2 4
     have F10:=H.f2 10
     clear hj HL h5 hj1 hj2
     generalize splB a n b m s (s.size+1)=sp at HPD ⊢
     generalize morB e en x xn s (s.size+1)=mo at HPX ⊢
     cases okb <;> cases fin
     all_goals
      go_wp2_with (first
       | ((with_reducible refine gate_dst (N:=128) rfl ?_);refine gate_guard (by rfl) ?_;dsimp only;refine gL_ (some 128) Try.func34 #[.agg #[.slice D0 d.length d0,.slice D1 dn.length d1],.string s] ?_;refine (impl_AcceptsWord.calls j1 D0 d0 d D1 d1 dn s sp _ (H.dv0 3) QD.out.1 (H.dv1 3) QD.out.2 (HPD.out rfl)).mono ?_;rintro e_ w3 ⟨rfl,hb⟩;replace H:=H.only hb;clear hb F5 F10;have F10:=H.f2 10;refine ⟨_,rfl,?_⟩)
       | ((with_reducible refine gate_dst (N:=137) rfl ?_);refine gate_guard (by rfl) ?_;dsimp only;refine gL_ (some 137) Try.func34 #[.agg #[.slice X0 x.length x0,.slice X1 xn.length x1],.string s] ?_;refine (impl_AcceptsWord.calls j2 X0 x0 x X1 x1 xn s mo _ (H.dv0 9) QX.out.1 (H.dv1 9) QX.out.2 (HPX.out rfl)).mono ?_;rintro e_ w3 ⟨rfl,hb⟩;replace H:=H.only hb;clear hb F10;refine ⟨_,rfl,?_⟩))
      go_roundg g1_
      case measure=>omega
      case rel=>exact ⟨i+1,by first | rfl | (rw [up1 (by have:=HWS.out.1;have:=HI2.out;omega)]),⟨by have:=HI2.out;omega,by have:=HI.out;omega⟩,H⟩
  ·have e_:i=ws.length:=by have:=HI.out;omega
   subst e_
   have p1:((ws.length:Int)<(ws.length:Int))=False:=eq_false (by omega)
   clear hi
   go_wp2
   go_ret
   exact ⟨rfl,H.bel⟩
end Go.Proofs.Ytogamkblkoobkaa.Di
end
section
namespace Go.Proofs.Ytogamkblkoobkaa.P
open Go.RowKit Go.Proofs.Ytogamkblkoobkaa Go.Proofs.YtogamkblkoobkaaW.PrintWords Go.Proofs.YtogamkblkoobkaaW.PrintLast Go.Proofs.YtogamkblkoobkaaW.PrintMore
def laws_FnDivided.Pure:Prop:=True
theorem laws_FnDivided.walk (P:laws_FnDivided.Pure) (a0:Option Addr) (len0 cap0:Nat) (z0:List Int) (w:World) (w0:(a0=none∧len0=0∧cap0=0∧z0 = [])∨∃ x,a0=some x∧len0≤cap0∧cap0≤maxLen∧z0.length=cap0∧(∀ i,i<z0.length→w.cell? (x.add i)=some (.int .u8 (z0.getD i 0)))∧∀ n ∈ z0,(Lit.int .u8 n).wf=true) (y0:len0 * 1≤140737488351232) :
  Calls Try.prog 10 #[.slice a0 len0 cap0] w fun e w'=>e = .returned (.bool true)∧Below w.heap.size w w':=by
 obtain ⟨l0,rfl,hr0,hm0,hw0,hc0⟩:=ReadsInt.ofRowC w0
 exact Di.lawDi a0 cap0 l0 w (Kd.C_of_reads (d:=(0:Int)) (h1:=fun _=>rfl) hr0) hc0 (by omega)
end Go.Proofs.Ytogamkblkoobkaa.P
namespace Go.Proofs.Ytogamkblkoobkaa.Pl
theorem pureFnDivided:P.laws_FnDivided.Pure:=trivial
end Go.Proofs.Ytogamkblkoobkaa.Pl
end
section
namespace Go.Proofs.Ytogamkblkoobkaa.Pure
open Go.Proofs.Ytogamkblkoobkaa.P
theorem FnDivided:laws_FnDivided.Pure:=Pl.pureFnDivided
end Go.Proofs.Ytogamkblkoobkaa.Pure
end
section
namespace Go.Proofs.YtogamkblkoobkaaW.PrintWords
open Go.ChangeShapes Go.WideShapes
theorem sized_ints {H:Type} {enc:TypeId × Value→H} {P:Program} {W:World} {base:Nat} {spare:Nat→Bool} {held:Bool} {t e:TypeId} {k:IntKind} {a:Option Addr} {len cap:Nat} {d:DataW H} {ps:List MemPlace} {ts:List TypeId} {ds:List (DataW H)} {j:Nat}
  (hsz:(DataW.weightsEach P ts ds).all (· ≤ reachBytes)=true) (ht:ts[j]? = some t) (hd:ds[j]? = some d) (hu:P.underlying t=some (.slice e)) (he:P.underlying e=some (.int k)) (hc:P.cellsOf e=1) {B:Nat} (hB:P.bytesOf e=B)
  (h:DataW.Trod enc P W base spare held t (.slice a len cap) d ps):len * B≤140737488351232:=by
 obtain ⟨fuel,hf⟩:=h
 rcases open_ints hu he hc hf with ⟨hcs,_⟩ | ⟨x,l,c,zs,hcs,_,hl,_,hz,hx,_,_⟩
 ·simp [Value.cells] at hcs
  obtain ⟨rfl,rfl,rfl⟩:=hcs
  simp
 ·simp [Value.cells] at hcs
  obtain ⟨rfl,rfl,rfl⟩:=hcs
  obtain ⟨hx,_⟩:=Prod.mk.inj hx
  subst hx
  have z:=sized_slice hsz ht hd hu
  rw [hB] at z
  have hl2:len≤zs.length:=by
   rw [hz]
   split
   ·exact hl
   ·exact Nat.le_refl _
  have h1:(lits (H:=H) k (zs.take len)).length+(lits (H:=H) k (zs.drop len)).length=zs.length:=by
   simp [lits]
   omega
  rw [h1] at z
  exact Nat.le_trans (Nat.mul_le_mul_right _ hl2) z
end Go.Proofs.YtogamkblkoobkaaW.PrintWords
end
section
namespace Go.Proofs.Ytogamkblkoobkaa.fnDivided
open Go.ChangeShapes Go.WideShapes Go.ChangeAt Go.RowKit
open Go.ChangeMaps (open_string shut_string)
theorem own:ownKnob Try.prog.godebug=none:=by kernel_rfl
theorem laidOut:laidOutB Try.prog=true:=by kernel_rfl
def IsRow (k:IntKind) (w:World) (a:Option Addr) (len cap:Nat) (zs:List Int):Prop:=
 (a=none∧len=0∧cap=0∧zs = []) ∨
 ∃ x,a=some x∧len≤cap∧cap≤maxLen∧zs.length=cap∧(∀ i,i<zs.length→w.cell? (x.add i)=some (.int k (zs.getD i 0)))∧∀ n ∈ zs,(Lit.int k n).wf=true
set_option maxRecDepth 100000 in
theorem lifted (os:Os) (started:os.Started) (H:Type) (enc:TypeId × Value→H) :
  ReturnsInHanded {} Try.checked os 10 .any (Rows.fnDividedSpec.pre6 enc Try.prog Try.f10 Rows.fnDividedRow.domain false) (Rows.fnDividedSpec.post enc Try.prog Try.f10 false true false false):=by
 refine returnsInHanded_of_change_sized (C:=Try.checked) own started (by kernel_rfl) Try.func10
  (ChangeSpec.witness6 (enc:=enc) (C:=Try.checked) false ⟨#[],#[.slice none 0 0],[]⟩ 10 (by kernel_rfl) (by kernel_rfl) (by kernel_rfl) (by kernel_rfl)) ?_
 intro W base args ds gs before hval0 hW hcnd hsz0 _
 have hsz:(DataW.weightsEach Try.prog (Try.f10.params.toList ++ Rows.fnDividedSpec.plain.varTypes Try.prog) (ds ++ gs)).all (· ≤ reachBytes)=true:=hsz0
 have hval:∀ (j:Nat) t v,Try.f10.params[j]? = some t→args[j]? = some v→Value.okWide Try.prog W .any base t v:=hval0
 have hW':=hW
 obtain ⟨p,q,hA0,hV,rfl,hfz,hnd⟩:=hW
 have hA:DataW.TrodAll enc Try.prog W 0 (fun _=>true) true Try.f10.params.toList args.toList ds p:=hA0
 rw [Try.params10] at hA hval hsz
 obtain ⟨v0,vs0,d0,ds0,p0,q0,hargs,rfl,rfl,h0,r0⟩:=trodAll_cons hA
 obtain ⟨rfl,rfl,rfl⟩:=trodAll_nil r0
 obtain rfl:args = #[v0]:=by cases args;simp_all
 obtain ⟨rfl,rfl⟩:=trodVars_none hV
 obtain ⟨a0,len0,cap0,rfl⟩:=okWide_slice Try.underlying41 (hval 0 41 v0 rfl rfl)
 have k0:=h0
 have lt0:∀ x ∈ p0,x.block<W.heap.size:=by obtain ⟨m,hm⟩:=k0;exact DataW.trod_lt m _ _ _ hm
 obtain ⟨z0,w0⟩:∃ zs,IsRow .u8 W a0 len0 cap0 zs:=by
  obtain ⟨fuel,hf⟩:=h0
  rcases open_ints Try.underlying41 Try.underlying5 (by kernel_rfl) hf with ⟨hcs,_⟩ | ⟨x,l,c,zs,hcs,_,hl,hm,hz,_,hcell,hwz⟩
  ·simp [Value.cells] at hcs
   obtain ⟨rfl,rfl,rfl⟩:=hcs
   exact ⟨[],.inl ⟨rfl,rfl,rfl,rfl⟩⟩
  ·simp [Value.cells] at hcs
   obtain ⟨rfl,rfl,rfl⟩:=hcs
   exact ⟨zs,.inr ⟨_,rfl,hl,hm,by simpa using hz,hcell,hwz⟩⟩
 have y0:len0 * 1≤140737488351232:=Go.Proofs.YtogamkblkoobkaaW.PrintWords.sized_ints hsz (j:=0) (t:=41) rfl rfl Try.underlying41 Try.underlying5 (by kernel_rfl) (by kernel_rfl) h0
 clear hA0 hval0 hsz0 hsz
 refine (P.laws_FnDivided.walk Pure.FnDivided a0 len0 cap0 z0 W w0 y0).mono fun e W' ⟨he,bel⟩=>?_
 subst he
 exact ⟨_,rfl,_,_,_,[],_,[],hW',trodAll_mk1 (shut_bool Try.underlying4 _),(trodAll_cons_mk (Below.trod laidOut (by kernel_rfl) (of_decide_eq_true (by kernel_rfl)) k0 bel lt0) trodAll_mk0),rfl,bel.frame _,fun h=>by cases h⟩
theorem over:Rows.fnDividedRow.holds Try.pinned (OpenSpec.ofChange Rows.fnDividedSpec):=
 OpenClaim.holds_of_wide 10 Try.f10 rfl rfl rfl rfl rfl rfl rfl ⟨rfl,rfl,rfl,rfl,rfl⟩ rfl rfl rfl rfl rfl (by kernel_rfl) Try.func10 (by kernel_rfl)
  (of_decide_eq_true (by kernel_rfl)) (by unfold Func.isWrapper;first | (rw [if_pos (by decide +kernel)];kernel_rfl) | (rw [if_neg (by decide +kernel)];exact ⟨rfl,rfl⟩))
  (fun os started H enc _=>lifted os started H enc)
theorem proved:Rows.FnDividedSaid:=over
#print axioms proved
end Go.Proofs.Ytogamkblkoobkaa.fnDivided
namespace Go.Proofs.Ytogamkblkoobkaa
theorem fnDivided_holds:Rows.FnDividedSaid:=fnDivided.proved
end Go.Proofs.Ytogamkblkoobkaa
end
