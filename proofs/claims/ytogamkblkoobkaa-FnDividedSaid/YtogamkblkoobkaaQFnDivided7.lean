/- Texts of the proof of FnDivided, put together. No condition. -/
import Derived.Test.YtogamkblkoobkaaQFnDivided2
import Derived.Test.YtogamkblkoobkaaQFnDivided6
import Derived.Test.YtogamkblkoobkaaQFnDivided4
import Derived.Test.YtogamkblkoobkaaQFnDivided5
import Derived.Shelf.Abstract
import Derived.Lib.Walk
import Derived.DeepKeys4
import Derived.WideKeyPair
import Derived.Test.YtogamkblkoobkaaQFnDivided3
set_option linter.unusedVariables false
set_option linter.unusedSimpArgs false
section
namespace Go.Proofs.Ytogamkblkoobkaa.P
open Go.RowKit Go.Proofs.YtogamkblkoobkaaW.PrintWords Go.Proofs.YtogamkblkoobkaaW.PrintLast Go.Proofs.YtogamkblkoobkaaW.PrintMore
attribute [local go_sem] max2_int min2_int max_two min_two max_three min_three max_four min_four
def impl_minimized.f (l0_0:List Bool) (l0_1:List (List Int)) (a1:Int):Option (List Bool × List (List Int)):=if l0_1.length=l0_0.length∧l0_0.length≤1100000∧(∀ r ∈ l0_1,r.length=3∧∀ q ∈ r,0≤q∧q<(l0_0.length:Int))∧0≤a1∧a1<(l0_0.length:Int) then some (Mn.minD l0_0 l0_1 a1) else none
theorem impl_minimized.calls (A0_0:Option Addr) (c0_0:Nat) (l0_0:List Bool) (A0_1:Option Addr) (c0_1:Nat) (l0_1:List (List Int)) (a1:Int) (r1:List Bool) (r2:List (List Int)) (w:World) (hr0_0:Kd.C Kd.bool w A0_0 l0_0.length l0_0) (hc0_0:l0_0.length≤c0_0) (hr0_1:Kd.C (Kd.slice 3 (Kd.int .i64)) w A0_1 l0_1.length l0_1) (hc0_1:l0_1.length≤c0_1) (h:impl_minimized.f l0_0 l0_1 a1=some (r1,r2)) :
  Calls Try.prog 56 #[.agg #[.slice A0_0 l0_0.length c0_0,.slice A0_1 l0_1.length c0_1],.int .i64 a1] w fun e w'=>∃ v0_ v1_:Value,e = .returned (.agg #[v0_,v1_])∧Kd.R Kd.bool 4 w' w.heap.size (fun _=>True) v0_ r1∧Kd.S (Kd.slice 3 (Kd.int .i64)) 67 w' w.heap.size (fun _=>True) v1_ r2∧Below w.heap.size w w':=by
 unfold impl_minimized.f at h
 split at h
 ·rename_i hp
  obtain ⟨h1,h2,h3,h4,h5⟩:=hp
  have h:=Option.some.inj h
  have e1:(Mn.minD l0_0 l0_1 a1).1=r1:=by rw [h]
  have e2:(Mn.minD l0_0 l0_1 a1).2=r2:=by rw [h]
  rw [← e1,← e2]
  exact Wk.minCalls A0_0 c0_0 l0_0 A0_1 c0_1 l0_1 a1 w hr0_0 hr0_1 h1 h2 h3 ⟨h4,h5⟩
 ·cases h
end Go.Proofs.Ytogamkblkoobkaa.P
end
section
namespace Go.Proofs.Ytogamkblkoobkaa.P
open Go.RowKit Go.Proofs.YtogamkblkoobkaaW.PrintWords Go.Proofs.YtogamkblkoobkaaW.PrintLast Go.Proofs.YtogamkblkoobkaaW.PrintMore
attribute [local go_sem] max2_int min2_int max_two min_two max_three min_three max_four min_four
end Go.Proofs.Ytogamkblkoobkaa.P
end
section
namespace Go.Proofs.Ytogamkblkoobkaa.P
open Go.RowKit Go.Proofs.YtogamkblkoobkaaW.PrintWords Go.Proofs.YtogamkblkoobkaaW.PrintLast Go.Proofs.YtogamkblkoobkaaW.PrintMore
attribute [local go_sem] max2_int min2_int max_two min_two max_three min_three max_four min_four
end Go.Proofs.Ytogamkblkoobkaa.P
end
section
namespace Go.Proofs.Ytogamkblkoobkaa.Can
open Go.RowKit Go.Proofs.Ytogamkblkoobkaa Go.Proofs.Ytogamkblkoobkaa.P Go.Proofs.Ytogamkblkoobkaa.Wk Go.Proofs.Ytogamkblkoobkaa.Lg Go.Proofs.Ytogamkblkoobkaa.Pl Go.Proofs.Ytogamkblkoobkaa.Mp Go.Proofs.Ytogamkblkoobkaa.Bf Go.Proofs.Ytogamkblkoobkaa.Mn Go.Proofs.YtogamkblkoobkaaW.PrintWords Go.Proofs.YtogamkblkoobkaaW.PrintLast Go.Proofs.YtogamkblkoobkaaW.PrintMore
theorem ldF_len:∀ (m:List Int) (i:Nat) (ns ls:List Int),(ldF m i ns ls).2.length≤ls.length+m.length
 | [],i,ns,ls=>by simp [ldF]
 | c :: m,i,ns,ls=>by
  rw [ldF]
  split
  ·have:=ldF_len m (i+1) ns ls
   simp only [List.length_cons]
   omega
  ·have:=ldF_len m (i+1) (ns ++ [c]) (ls ++ [(i:Int)])
   simp only [List.length_append,List.length_cons,List.length_nil] at this ⊢
   omega
theorem refF_len (l1:List (List Int)) (os:List Int):∀ (d:Nat) (cl:List Int) (c:Nat),cl.length=os.length→(refF l1 os d cl c).length=os.length
 | 0,cl,c,h=>h
 | d+1,cl,c,h=>by
  rw [refF]
  have gl:(nmF (keys l1 os cl) [] []).2.length=os.length:=by rw [nm_snd];simp [keys]
  split
  ·exact gl
  ·exact refF_len l1 os d _ _ gl
theorem minD_len {acc:List Bool} {l1:List (List Int)} (hf:Fits acc l1) {st:Int} (hst:0≤st∧st<(acc.length:Int)):(minD acc l1 st).1.length≤acc.length∧(minD acc l1 st).2.length=(minD acc l1 st).1.length∧∀ r ∈ (minD acc l1 st).2,r.length=3:=by
 have h0:∀ x ∈ [st],0≤x∧x<(acc.length:Int):=fun x hx=>by rw [List.mem_singleton] at hx;subst hx;exact hst
 have hR:=ord_runs hf (acc.length+2) [st] 0 (by simp) h0 (by omega)
 obtain ⟨R,hRR,hout⟩:=min_can hf hst
 have hlen:(minD acc l1 st).1.length≤acc.length:=by
  unfold minD minT
  generalize ordF l1 (acc.length+2) [st] 0=os at hR
  have hn:os.Nodup:=hR.nodup (by simp)
  have hdom:=hR.all (p:=fun x=>0≤x∧x<(acc.length:Int)) (fun x hx y hy=>(hf.row x hx).2 y hy) h0
  have h1:=refF_len l1 os (os.length+2) (os.map (cls0 acc)) 0 (by simp)
  have h2:=card_n acc.length os hn hdom
  unfold outD
  simp only [List.length_map]
  have:=ldF_len (refF l1 os (os.length+2) (os.map (cls0 acc)) 0) 0 [] []
  simp only [List.length_nil] at this
  omega
 refine ⟨hlen,?_,?_⟩
 ·rw [hout]
  simp [outL]
 ·rw [hout]
  intro r hr
  unfold outL at hr
  obtain ⟨X,_,rfl⟩:=List.mem_map.mp hr
  simp [lsucc]
theorem fits_valid {a:List Bool} {n:List (List Int)} (hv:validD a n=true):Fits a n:=by
 obtain ⟨h1,h2,h3,h4⟩:=validD_facts hv
 refine ⟨h3,fun q hq=>?_⟩
 have hlt:q.toNat<n.length:=by omega
 unfold rowOf
 rw [List.getD_eq_getElem?_getD,List.getElem?_eq_getElem hlt]
 exact h4 _ (List.getElem_mem hlt)
end Go.Proofs.Ytogamkblkoobkaa.Can
end
section
namespace Go.Proofs.Ytogamkblkoobkaa.P
open Go.RowKit Go.Proofs.YtogamkblkoobkaaW.PrintWords Go.Proofs.YtogamkblkoobkaaW.PrintLast Go.Proofs.YtogamkblkoobkaaW.PrintMore
attribute [local go_sem] max2_int min2_int max_two min_two max_three min_three max_four min_four
end Go.Proofs.Ytogamkblkoobkaa.P
end
section
namespace Go.Proofs.Ytogamkblkoobkaa.Pl
open Go.RowKit Go.Proofs.Ytogamkblkoobkaa.P Go.Proofs.YtogamkblkoobkaaW.PrintWords Go.Proofs.YtogamkblkoobkaaW.PrintLast Go.Proofs.YtogamkblkoobkaaW.PrintMore
def letIdx (b:Int):Int:=if b=97 then 0 else if b=98 then 1 else if b=99 then 2 else -1
theorem u8_eq {b:Int} (h0:0≤b) (h1:b≤255) (c:Nat) (hc:c<256):(b.toNat.toUInt8=UInt8.ofNat c)↔b=c:=by
 constructor
 ·intro h
  have:=congrArg UInt8.toNat h
  simp at this
  omega
 ·rintro rfl
  simp
theorem impl_letter {b:Int} (h0:0≤b) (h1:b≤255):impl_LetterIndex.f b=some (letIdx b):=by
 simp only [impl_LetterIndex.f,strings_IndexByte.f,Option.bind_some,letIdx]
 have e97:=u8_eq h0 h1 97 (by omega)
 have e98:=u8_eq h0 h1 98 (by omega)
 have e99:=u8_eq h0 h1 99 (by omega)
 congr 1
 by_cases h:b=97
 ·rw [h];rfl
 ·by_cases h2:b=98
  ·rw [h2];rfl
  ·by_cases h3:b=99
   ·rw [h3];rfl
   ·have n97:¬ b.toNat.toUInt8=97:=fun e=>h (e97.mp e)
    have n98:¬ b.toNat.toUInt8=98:=fun e=>h2 (e98.mp e)
    have n99:¬ b.toNat.toUInt8=99:=fun e=>h3 (e99.mp e)
    rw [if_neg h,if_neg h2,if_neg h3]
    have q1:¬ (97:UInt8)=b.toNat.toUInt8:=fun e=>n97 e.symm
    have q2:¬ (98:UInt8)=b.toNat.toUInt8:=fun e=>n98 e.symm
    have q3:¬ (99:UInt8)=b.toNat.toUInt8:=fun e=>n99 e.symm
    simp only [Lib.indexByte,beq_iff_eq,n97,n98,n99,q1,q2,q3,if_false]
    rfl
def lets (l:List Int):Bool:=l.all fun b=>decide (0≤letIdx b)
def word (s:ByteArray):Bool:=lets (bytesOf s) && decide (s.size≤30)
theorem letIdx_range (b:Int) : -1≤letIdx b∧letIdx b≤2:=by
 unfold letIdx
 split
 ·omega
 ·split
  ·omega
  ·split <;> omega
theorem impl_lets_l0 (s:ByteArray) (hs:s.size≤140737488351232):∀ d i:Nat,i+d=s.size→Ev (fun k=>impl_isLetters.l0 k s i) (lets ((bytesOf s).drop i)):=by
 intro d
 induction d with
 | zero =>
  intro i h
  refine next ?_
  simp only [impl_isLetters.l0,if_neg (show ¬ (i:Int)<(s.size:Int) by omega),drop_end s i (by omega)]
  exact ev_some (by simp [lets])
 | succ d ih =>
  intro i h
  refine next ?_
  simp only [impl_isLetters.l0,if_pos (show (i:Int)<(s.size:Int) by omega),if_pos (show (0:Int)≤i by omega),impl_letter (bt_range s i).1 (bt_range s i).2,Option.bind_some]
  rw [drop_cons s i (by omega)]
  by_cases hl:letIdx (bt s i)<0
  ·simp only [if_pos hl]
   exact ev_some (by simp [lets,show ¬ 0≤letIdx (bt s i) by omega])
  ·simp only [if_neg hl,up1 (show i<9223372036854775807 by omega)]
   exact ev_eq (ih (i+1) (by omega)) (by simp [lets,show 0≤letIdx (bt s i) by omega])
theorem impl_word (s:ByteArray) (hs:s.size≤140737488351232):Ev (fun k=>impl_IsWord.f k s) (word s):=by
 simp only [impl_IsWord.f]
 by_cases h:s.size≤30
 ·simp only [if_pos (show (s.size:Int)≤30 by omega)]
  refine Ev.bind (impl_lets_l0 s hs s.size 0 (by omega)) ?_
  exact ev_some (by simp [word,h])
 ·simp only [if_neg (show ¬ (s.size:Int)≤30 by omega)]
  exact ev_some (by simp [word,h])
end Go.Proofs.Ytogamkblkoobkaa.Pl
end
section
namespace Go.Proofs.Ytogamkblkoobkaa.P
open Go.RowKit Go.Proofs.YtogamkblkoobkaaW.PrintWords Go.Proofs.YtogamkblkoobkaaW.PrintLast Go.Proofs.YtogamkblkoobkaaW.PrintMore
attribute [local go_sem] max2_int min2_int max_two min_two max_three min_three max_four min_four
end Go.Proofs.Ytogamkblkoobkaa.P
end
section
namespace Go.Proofs.Ytogamkblkoobkaa.Pl
open Go.RowKit Go.Proofs.Ytogamkblkoobkaa.P Go.Proofs.YtogamkblkoobkaaW.PrintWords Go.Proofs.YtogamkblkoobkaaW.PrintLast Go.Proofs.YtogamkblkoobkaaW.PrintMore Wk
def runD (nxt:List (List Int)) (q:Int) (l:List Int):Int:=l.foldl (fun q b=>rd (rd_L1 nxt q) (letIdx b)) q
theorem lets_cons {b:Int} {l:List Int}:lets (b :: l)=true↔0≤letIdx b∧lets l=true:=by simp [lets]
theorem impl_run_l0 (acc:List Bool) (nxt:List (List Int)) (hv:validD acc nxt=true) (s:ByteArray) (hs:s.size≤140737488351232):∀ (d i:Nat) (q:Int),i+d=s.size→lets ((bytesOf s).drop i)=true→0≤q→q<(acc.length:Int)→Ev (fun k=>impl_after.l0 k q s i acc nxt) (runD nxt q ((bytesOf s).drop i)):=by
 have hl:=(valid_facts hv).2.2.1
 intro d
 induction d with
 | zero =>
  intro i q h hw h0 h1
  refine next ?_
  simp only [impl_after.l0,if_neg (show ¬ (i:Int)<(s.size:Int) by omega),drop_end s i (by omega)]
  exact Ev.now _
 | succ d ih =>
  intro i q h hw h0 h1
  rw [drop_cons s i (by omega)] at hw ⊢
  have hb:=lets_cons.mp hw
  have hlr:=letIdx_range (bt s i)
  have hn:=next_range hv q h0 h1 (letIdx (bt s i)) hb.1 (by omega)
  refine next ?_
  simp only [impl_after.l0,if_pos (show (i:Int)<(s.size:Int) by omega),if_pos h0,if_pos (show q<(nxt.length:Int) by omega),if_pos (show (0:Int)≤i by omega),impl_letter (bt_range s i).1 (bt_range s i).2,Option.bind_some,if_pos hb.1,hn.1,if_pos (show letIdx (bt s i)<((3:Nat):Int) by omega),up1 (show i<9223372036854775807 by omega)]
  exact ih (i+1) _ (by omega) hb.2 hn.2.1 hn.2.2
def runOf (acc:List Bool) (nxt:List (List Int)) (q:Int) (s:ByteArray):Int × Bool:=
 if validD acc nxt=true∧0≤q∧q≤(acc.length:Int) - 1∧word s=true then (runD nxt q (bytesOf s),true) else (0,false)
theorem impl_run (acc:List Bool) (nxt:List (List Int)) (q:Int) (ha:acc.length≤1048576) (s:ByteArray) (hs:s.size≤140737488351232):Ev (fun k=>impl_RunDfa.f k acc nxt q s) (runOf acc nxt q s):=by
 have hw:wrap64 ((acc.length:Int) - 1)=(acc.length:Int) - 1:=w64 (by omega) (by omega)
 simp only [impl_RunDfa.f,impl_IsValidDfa.f,hw,impl_in,Option.bind_some,runOf]
 by_cases hv:validD acc nxt=true
 ·simp only [hv,if_true,true_and]
  by_cases hq:0≤q∧q≤(acc.length:Int) - 1
  ·simp only [decide_eq_true hq.1,decide_eq_true hq.2,Bool.true_and,if_true,hq.1,hq.2,true_and]
   refine Ev.bind (impl_word s hs) ?_
   by_cases hwd:word s=true
   ·simp only [hwd,if_true]
    refine Ev.bind (impl_run_l0 acc nxt hv s hs s.size 0 q (by omega) ?_ hq.1 (by omega)) (Ev.now _)
    simp only [word,Bool.and_eq_true] at hwd
    exact hwd.1
   ·simp only [eq_false_of_ne_true hwd,Bool.false_ne_true,if_false]
    exact Ev.now _
  ·have e:(decide (0≤q) && decide (q≤(acc.length:Int) - 1))=false:=by
    by_cases h1:0≤q
    ·rw [decide_eq_false (show ¬ q≤(acc.length:Int) - 1 by omega),Bool.and_false]
    ·rw [decide_eq_false h1,Bool.false_and]
   simp only [e,Bool.false_ne_true,if_false]
   rw [if_neg (by rintro ⟨h1,h2,_⟩;exact hq ⟨h1,h2⟩)]
   exact Ev.now _
 ·simp only [hv,if_false,false_and]
  exact Ev.now _
theorem runD_range {acc:List Bool} {nxt:List (List Int)} (hv:validD acc nxt=true):∀ (l:List Int) (q:Int),lets l=true→0≤q→q<(acc.length:Int)→0≤runD nxt q l∧runD nxt q l<(acc.length:Int):=by
 intro l
 induction l with
 | nil=>intro q _ h0 h1;exact ⟨h0,h1⟩
 | cons b l ih =>
  intro q hw h0 h1
  have hb:=lets_cons.mp hw
  have hlr:=letIdx_range b
  have hn:=next_range hv q h0 h1 (letIdx b) hb.1 (by omega)
  exact ih _ hb.2 hn.2.1 hn.2.2
def accOf (acc:List Bool) (nxt:List (List Int)) (s:ByteArray):Bool:=validD acc nxt && word s && rdOf false acc (runD nxt 0 (bytesOf s))
theorem runOf_zero (acc:List Bool) (nxt:List (List Int)) (s:ByteArray):(runOf acc nxt 0 s).2=(validD acc nxt && word s)∧((runOf acc nxt 0 s).2=true→(runOf acc nxt 0 s).1=runD nxt 0 (bytesOf s)∧0≤runD nxt 0 (bytesOf s)∧runD nxt 0 (bytesOf s)<(acc.length:Int)):=by
 unfold runOf
 by_cases hv:validD acc nxt=true
 ·have hf:=valid_facts hv
  by_cases hwd:word s=true
  ·rw [if_pos ⟨hv,by omega,by omega,hwd⟩]
   simp only [word,Bool.and_eq_true] at hwd
   exact ⟨by simp [hv,word,hwd.1,hwd.2],fun _=>⟨rfl,runD_range hv _ 0 hwd.1 (by omega) (by omega)⟩⟩
  ·rw [if_neg (by rintro ⟨_,_,_,h⟩;exact hwd h)]
   exact ⟨by simp [hwd],fun h=>by cases h⟩
 ·rw [if_neg (by rintro ⟨h,_⟩;exact hv h)]
  exact ⟨by simp [hv],fun h=>by cases h⟩
theorem impl_acc (acc:List Bool) (nxt:List (List Int)) (ha:acc.length≤1048576) (s:ByteArray) (hs:s.size≤140737488351232):Ev (fun k=>impl_AcceptsWord.f k acc nxt s) (accOf acc nxt s):=by
 simp only [impl_AcceptsWord.f]
 refine Ev.bind (impl_run acc nxt 0 ha s hs) ?_
 obtain ⟨h1,h2⟩:=runOf_zero acc nxt s
 by_cases h:(runOf acc nxt 0 s).2=true
 ·obtain ⟨e,r0,r1⟩:=h2 h
  rw [h] at h1
  simp only [h,if_true,e,if_pos r0,if_pos r1]
  exact ev_some (by unfold accOf;rw [← h1,Bool.true_and])
 ·simp only [eq_false_of_ne_true h,Bool.false_ne_true,if_false]
  rw [eq_false_of_ne_true h] at h1
  exact ev_some (by unfold accOf;rw [← h1,Bool.false_and])
end Go.Proofs.Ytogamkblkoobkaa.Pl
end
section
namespace Go.Proofs.Ytogamkblkoobkaa.Wk
open Go.RowKit Go.Shelf Go.Proofs.Ytogamkblkoobkaa.P Go.Proofs.Ytogamkblkoobkaa.Pl Go.Proofs.Ytogamkblkoobkaa.Mp Go.Proofs.Ytogamkblkoobkaa.Bf Go.Proofs.YtogamkblkoobkaaW.PrintWords Go.Proofs.YtogamkblkoobkaaW.PrintLast Go.Proofs.YtogamkblkoobkaaW.PrintMore
abbrev Pr:=Int × Int
theorem laidOutP:laidOutB Try.prog=true:=by kernel_rfl
theorem cell_grown {w w':World} {row:Option Nat} (hg:w.grownBy w' row) {a:Addr} (hlt:a.block<w.heap.size) (hne:some a.block ≠ row) {v:Value} (h:w.cell? a=some v):w'.cell? a=some v:=(World.cell?_of_block (hg.block _ hlt hne)).trans h
section
variable {P:Program} {md:Region.Mode} {ops:Array Oper} {Q:Exit→Act→World→Prop}
theorem goesFn_ {oi:Oper} {N:Option Tmp} {a:Act} {w:World} {K:Act→World→Prop} (g:FuncId) (lb:Array Value) (t:Operand) {ar:Array Operand} {ts:Array TypeId} (args:Array Value) (eg:∀ args w,(callFunc g args).run P w = .ok (.enter g args) w)
  (hw:Region.wanted oi (yielded ops a.tmps)=true) (hN:oi.dst=N) (hop:oi.op = .call { callee:=.value t,args:=ar,argTypes:=ts }) (ht:a.eval t = .func (.func g) #[] lb) (hargs:ar.map a.eval=args)
  (h:Calls P g (args ++ lb) w fun e w'=>∃ v,e = .returned v∧K (a.put N v) w'):if Region.wanted oi (yielded ops a.tmps)=true then Oper.wp P oi a w K Q else K (a.put N undef) w:=by
 refine call_ g (args ++ lb) hw hN ?_ h
 unfold execOp
 simp [hop,resolve,Deferred.ofValue,invoke,ht,hargs,eg]
end
end Go.Proofs.Ytogamkblkoobkaa.Wk
end
section
namespace Go.Proofs.Ytogamkblkoobkaa.Bf
open Go.RowKit Go.Proofs.Ytogamkblkoobkaa.Pl Go.Proofs.Ytogamkblkoobkaa.Mp Go.Proofs.YtogamkblkoobkaaW.PrintWords Go.Proofs.YtogamkblkoobkaaW.PrintLast Go.Proofs.YtogamkblkoobkaaW.PrintMore
section
variable {α:Type} [DecidableEq α] {nx:α→Nat→α} {x0:α} {dom:α→Prop} {N:Nat} {good:α→Bool}
end
end Go.Proofs.Ytogamkblkoobkaa.Bf
end
section
namespace Go.Proofs.Ytogamkblkoobkaa.Can
open Go.RowKit Go.Proofs.Ytogamkblkoobkaa Go.Proofs.Ytogamkblkoobkaa.P Go.Proofs.Ytogamkblkoobkaa.Wk Go.Proofs.Ytogamkblkoobkaa.Lg Go.Proofs.Ytogamkblkoobkaa.Pl Go.Proofs.Ytogamkblkoobkaa.Mp Go.Proofs.Ytogamkblkoobkaa.Bf Go.Proofs.Ytogamkblkoobkaa.Mn Go.Proofs.YtogamkblkoobkaaW.PrintWords Go.Proofs.YtogamkblkoobkaaW.PrintLast Go.Proofs.YtogamkblkoobkaaW.PrintMore
def Rows3 (n:Nat) (nx:List (List Int)):Prop:=nx.length=n∧∀ r ∈ nx,r.length=3∧∀ q ∈ r,0≤q∧q<(n:Int)
theorem fits_rows {acc:List Bool} {nx:List (List Int)} (h:Rows3 acc.length nx):Fits acc nx:=by
 refine ⟨h.1,fun q hq=>?_⟩
 have hlt:q.toNat<nx.length:=by have:=h.1;omega
 unfold rowOf
 rw [List.getD_eq_getElem?_getD,List.getElem?_eq_getElem hlt]
 exact h.2 _ (List.getElem_mem hlt)
theorem outL_rows {L:Lan} {R:List Lan} (hR:Runs lsucc [L] 0 R):Rows3 (outL R).1.length (outL R).2:=by
 have hcl:=hR.closed (fun j _ hj=>by omega)
 have hlen:(outL R).1.length=R.length:=by simp [outL]
 refine ⟨by simp [outL],fun r hr=>?_⟩
 obtain ⟨X,hX,rfl⟩:=List.mem_map.mp hr
 refine ⟨by simp [lsucc],fun q hq=>?_⟩
 obtain ⟨Y,hY,rfl⟩:=List.mem_map.mp hq
 have:=List.idxOf_lt_length_of_mem (hcl X hX Y hY)
 rw [hlen]
 omega
theorem outL_run {L:Lan} {R:List Lan} (hR:Runs lsucc [L] 0 R):∀ (w:List (Fin 3)) (i:Nat) (hi:i<R.length),run (outL R).1 (outL R).2 w (i:Int)=R[i] w:=by
 have hcl:=hR.closed (fun j _ hj=>by omega)
 intro w
 induction w with
 | nil =>
  intro i hi
  show rdOf false (R.map eps) (i:Int)=_
  rw [rdOf_get false _ i (by simpa using hi),List.getElem_map]
  rfl
 | cons k w ih =>
  intro i hi
  show run _ _ w (rd (rowOf (outL R).2 (i:Int)) (k.val:Int))=_
  have hrow:rowOf (outL R).2 (i:Int)=(lsucc R[i]).map (fun Y=>(R.idxOf Y:Int)):=by
   unfold rowOf outL
   rw [Int.toNat_natCast,List.getD_eq_getElem?_getD,List.getElem?_eq_getElem (by simpa using hi),Option.getD_some,List.getElem_map]
  have hk:rd ((lsucc R[i]).map (fun Y=>(R.idxOf Y:Int))) (k.val:Int)=(R.idxOf (der R[i] k):Int):=by
   match k with
   | 0=>rfl
   | 1=>rfl
   | 2=>rfl
  have hm:der R[i] k ∈ R:=by
   refine hcl _ (List.getElem_mem hi) _ ?_
   match k with
   | 0=>simp [lsucc]
   | 1=>simp [lsucc]
   | 2=>simp [lsucc]
  rw [hrow,hk,ih _ (List.idxOf_lt_length_of_mem hm),List.getElem_idxOf (List.idxOf_lt_length_of_mem hm)]
  rfl
theorem IsCan.facts {L:Lan} {out:List Bool × List (List Int)} (h:IsCan L out):1≤out.1.length∧Rows3 out.1.length out.2∧lang out.1 out.2 0=L:=by
 obtain ⟨R,hR,rfl⟩:=h
 obtain ⟨t,rfl⟩:=hR.pre
 refine ⟨by simp [outL],outL_rows hR,funext fun w=>?_⟩
 exact outL_run hR w 0 (by simp)
theorem valid_of {acc:List Bool} {nx:List (List Int)} (h1:1≤acc.length) (h2:acc.length≤40) (h3:Rows3 acc.length nx):validD acc nx=true:=by
 unfold validD
 rw [decide_eq_true h1,decide_eq_true h2,decide_eq_true h3.1,Bool.and_self,Bool.and_self,Bool.true_and,Bool.not_eq_true',List.any_eq_false]
 intro r hr
 obtain ⟨h4,h5⟩:=h3.2 r hr
 unfold badRow
 rw [Bool.not_eq_true,Bool.or_eq_false_iff]
 refine ⟨decide_eq_false (by omega),?_⟩
 rw [List.any_eq_false]
 intro q hq
 obtain ⟨h6,h7⟩:=h5 q hq
 unfold badState
 rw [decide_eq_true h6,decide_eq_true (show q≤(acc.length:Int) - 1 by omega)]
 decide
section
variable {a b:List Bool} {n m:List (List Int)}
end
section
variable {α:Type} [DecidableEq α] {nx:α→Nat→α} {acc:α→Bool} {most:Nat}
def tl (nx:α→Nat→α) (x:α):Nat→Nat→List α
 | 0,_=>[]
 | d+1,j=>nx x j :: tl nx x d (j+1)
def sc (nx:α→Nat→α) (x:α):List α:=tl nx x 3 0
def num (L:List α) (y:α):Int:=(idx L y).getD 0
theorem num_eq {L:List α} {y:α} (h:y ∈ L):num L y=(L.idxOf y:Int):=by
 unfold num idx
 rw [if_pos h]
 rfl
theorem num_pre {L R:List α} {y:α} (h:y ∈ L) (hp:L <+: R):num R y=num L y:=by
 obtain ⟨t,rfl⟩:=hp
 rw [num_eq h,num_eq (List.mem_append_left _ h),List.idxOf_append,if_pos h]
theorem num_last {L:List α} {y:α} (h:y ∉ L):num (L ++ [y]) y=(L.length:Int):=by
 rw [num_eq (by simp),List.idxOf_append,if_neg h]
 simp
theorem exRow_some {x:α}:∀ (d j:Nat) (L:List α) (row:List Int) (L':List α) (row':List Int),exRow nx most x d j L row=some (L',row')→L' = adds L (tl nx x d j)∧row' = row ++ (tl nx x d j).map (num L')∧(L.length≤most→L'.length≤most)
 | 0,j,L,row,L',row',h=>by
  rw [exRow] at h
  obtain ⟨rfl,rfl⟩:=Prod.mk.inj (Option.some.inj h)
  exact ⟨rfl,by simp [tl],id⟩
 | d+1,j,L,row,L',row',h=>by
  rw [exRow] at h
  by_cases hm:nx x j ∈ L
  ·rw [if_pos hm] at h
   obtain ⟨h1,h2,h3⟩:=exRow_some d (j+1) L _ L' row' h
   refine ⟨by rw [tl,adds_cons,add_in hm];exact h1,?_,h3⟩
   rw [h2,tl,List.map_cons,List.append_assoc,List.singleton_append]
   have:num L' (nx x j)=num L (nx x j):=num_pre hm (by rw [h1];exact adds_pre _ _)
   rw [this]
   rfl
  ·rw [if_neg hm] at h
   by_cases ho:most<L.length+1
   ·rw [if_pos ho] at h
    cases h
   ·rw [if_neg ho] at h
    obtain ⟨h1,h2,h3⟩:=exRow_some d (j+1) _ _ L' row' h
    refine ⟨by rw [tl,adds_cons,add_out hm];exact h1,?_,fun _=>h3 (by simp;omega)⟩
    rw [h2,tl,List.map_cons,List.append_assoc,List.singleton_append]
    have:num L' (nx x j)=num (L ++ [nx x j]) (nx x j):=num_pre (by simp) (by rw [h1];exact adds_pre _ _)
    rw [this,num_last hm]
theorem exRow_none {x:α}:∀ (d j:Nat) (L:List α) (row:List Int),exRow nx most x d j L row=none→most<(adds L (tl nx x d j)).length
 | 0,j,L,row,h=>by rw [exRow] at h;cases h
 | d+1,j,L,row,h=>by
  rw [exRow] at h
  rw [tl,adds_cons]
  by_cases hm:nx x j ∈ L
  ·rw [if_pos hm] at h
   rw [add_in hm]
   exact exRow_none d (j+1) L _ h
  ·rw [if_neg hm] at h
   rw [add_out hm]
   by_cases ho:most<L.length+1
   ·have:=(adds_pre (tl nx x d (j+1)) (L ++ [nx x j])).length_le
    simp only [List.length_append,List.length_cons,List.length_nil] at this
    omega
   ·rw [if_neg ho] at h
    exact exRow_none d (j+1) _ _ h
def rowX (nx:α→Nat→α) (R:List α) (x:α):List Int:=(sc nx x).map (num R)
structure ExInv (acc:α→Bool) (nx:α→Nat→α) (p:Ex α) (i:Nat):Prop where
 a:p.2.1=(p.1.take i).map acc
 m:p.2.2=(p.1.take i).map (rowX nx p.1)
 c:∀ x ∈ p.1.take i,∀ y ∈ sc nx x,y ∈ p.1
theorem inv_step {p:Ex α} {i:Nat} (h:ExInv acc nx p i) (hi:i<p.1.length) {L':List α} {row':List Int} (h1:L' = adds p.1 (sc nx p.1[i])) (h2:row' = (sc nx p.1[i]).map (num L')):ExInv acc nx (L',p.2.1 ++ [acc p.1[i]],p.2.2 ++ [row']) (i+1):=by
 have hpre:p.1 <+: L':=by rw [h1];exact adds_pre _ _
 have ht:L'.take (i+1)=p.1.take i ++ [p.1[i]]:=by
  rw [← List.take_succ_eq_append_getElem hi]
  obtain ⟨t,rfl⟩:=hpre
  rw [List.take_append_of_le_length (by omega)]
 refine ⟨?_,?_,?_⟩
 ·show p.2.1 ++ [acc p.1[i]]=(L'.take (i+1)).map acc
  rw [ht,List.map_append,← h.a,List.map_singleton]
 ·show p.2.2 ++ [row']=(L'.take (i+1)).map (rowX nx L')
  rw [ht,List.map_append,List.map_singleton,h.m,h2]
  congr 1
  refine List.map_congr_left fun x hx=>?_
  unfold rowX
  refine List.map_congr_left fun y hy=>?_
  exact (num_pre (h.c x hx y hy) hpre).symm
 ·show ∀ x ∈ L'.take (i+1),∀ y ∈ sc nx x,y ∈ L'
  rw [ht]
  intro x hx y hy
  rcases List.mem_append.mp hx with hx | hx
  ·exact hpre.subset (h.c x hx y hy)
  ·rw [List.mem_singleton] at hx
   subst hx
   rw [h1]
   exact mem_adds.mpr (Or.inr hy)
theorem expl_some:∀ (d:Nat) (p:Ex α) (i:Nat) (q:Ex α),most+2≤d+i→p.1.length≤most→i≤p.1.length→ExInv acc nx p i→expl acc nx most d p i=some q→Runs (sc nx) p.1 i q.1∧q.1.length≤most∧q.2.1=q.1.map acc∧q.2.2=q.1.map (rowX nx q.1)
 | 0,p,i,q,hd,hp,hi,_,_=>by omega
 | d+1,p,i,q,hd,hp,hi,hv,h=>by
  rw [expl] at h
  by_cases hlt:i<p.1.length
  ·rw [dif_pos hlt] at h
   obtain ⟨⟨L',row'⟩,he,h⟩:=Option.bind_eq_some_iff.mp h
   obtain ⟨h1,h2,h3⟩:=exRow_some 3 0 p.1 [] L' row' he
   obtain ⟨g1,g2⟩:=expl_some d _ (i+1) q (by omega) (h3 hp) (by
    have:p.1.length≤L'.length:=by rw [h1];exact (adds_pre _ _).length_le
    show i+1≤L'.length
    omega) (inv_step hv hlt h1 (by rw [h2,List.nil_append];rfl)) h
   refine ⟨.step hlt ?_,g2⟩
   have:L' = adds p.1 (sc nx p.1[i]):=h1
   rw [← this]
   exact g1
  ·rw [dif_neg hlt] at h
   have h:=Option.some.inj h
   subst h
   have ht:p.1.take i=p.1:=List.take_of_length_le (by omega)
   exact ⟨.stop (by omega),hp,by rw [hv.a,ht],by rw [hv.m,ht]⟩
def Auto (acc:α→Bool) (nx:α→Nat→α) (x0:α) (A:List Bool) (M:List (List Int)):Prop:=∃ R,Runs (sc nx) [x0] 0 R∧A=R.map acc∧M=R.map (rowX nx R)
theorem expl_auto {x0:α} {q:Ex α} (h1:1≤most) (h:expl acc nx most (most+2) ([x0],[],[]) 0=some q):Auto acc nx x0 q.2.1 q.2.2∧q.2.1.length≤most:=by
 obtain ⟨g1,g2,g3,g4⟩:=expl_some (most+2) ([x0],[],[]) 0 q (by omega) h1 (by simp) ⟨rfl,rfl,fun x hx=>by simp at hx⟩ h
 exact ⟨⟨q.1,g1,g3,g4⟩,by rw [g3,List.length_map];exact g2⟩
theorem Auto.rows {x0:α} {A:List Bool} {M:List (List Int)} (h:Auto acc nx x0 A M):1≤A.length∧Rows3 A.length M:=by
 obtain ⟨R,hR,rfl,rfl⟩:=h
 have hcl:=hR.closed (fun j _ hj=>by omega)
 have hp:=hR.pre.length_le
 refine ⟨by rw [List.length_map];exact hp,by simp,fun r hr=>?_⟩
 obtain ⟨x,hx,rfl⟩:=List.mem_map.mp hr
 refine ⟨by simp [rowX,sc,tl],fun q hq=>?_⟩
 obtain ⟨y,hy,rfl⟩:=List.mem_map.mp hq
 have hm:=hcl x hx y hy
 have:=List.idxOf_lt_length_of_mem hm
 rw [num_eq hm,List.length_map]
 omega
theorem Auto.lang {x0:α} {A:List Bool} {M:List (List Int)} (h:Auto acc nx x0 A M) (lam:α→Lan) {dom:α→Prop} (hd0:dom x0) (hdn:∀ x,dom x→∀ y ∈ sc nx x,dom y) (he:∀ x,dom x→lam x []=acc x) (hs:∀ x,dom x→∀ (k:Fin 3) w,lam x (k :: w)=lam (nx x k.val) w):lang A M 0=lam x0:=by
 obtain ⟨R,hR,rfl,rfl⟩:=h
 have hcl:=hR.closed (fun j _ hj=>by omega)
 have hall:=hR.all (p:=dom) hdn (fun x hx=>by rw [List.mem_singleton] at hx;subst hx;exact hd0)
 have H:∀ (w:List (Fin 3)) (i:Nat) (hi:i<R.length),run (R.map acc) (R.map (rowX nx R)) w (i:Int)=lam R[i] w:=by
  intro w
  induction w with
  | nil =>
   intro i hi
   show rdOf false (R.map acc) (i:Int)=_
   rw [rdOf_get false _ i (by simpa using hi),List.getElem_map,he _ (hall _ (List.getElem_mem hi))]
  | cons k w ih =>
   intro i hi
   show run _ _ w (rd (rowOf (R.map (rowX nx R)) (i:Int)) (k.val:Int))=_
   have hrow:rowOf (R.map (rowX nx R)) (i:Int)=rowX nx R R[i]:=by
    unfold rowOf
    rw [Int.toNat_natCast,List.getD_eq_getElem?_getD,List.getElem?_eq_getElem (by simpa using hi),Option.getD_some,List.getElem_map]
   have hk:rd (rowX nx R R[i]) (k.val:Int)=num R (nx R[i] k.val):=by
    match k with
    | 0=>rfl
    | 1=>rfl
    | 2=>rfl
   have hm:nx R[i] k.val ∈ R:=by
    refine hcl _ (List.getElem_mem hi) _ ?_
    match k with
    | 0=>simp [sc,tl]
    | 1=>simp [sc,tl]
    | 2=>simp [sc,tl]
   have hlt:=List.idxOf_lt_length_of_mem hm
   rw [hrow,hk,num_eq hm,ih _ hlt,List.getElem_idxOf hlt,hs _ (hall _ (List.getElem_mem hi))]
 obtain ⟨t,rfl⟩:=hR.pre
 exact funext fun w=>H w 0 (by simp)
end
def fitD (A:List Bool) (M:List (List Int)):List Bool × List (List Int) × Bool:=if (minD A M 0).1.length≤40 then ((minD A M 0).1,(minD A M 0).2,true) else ([],[],false)
theorem fitD_len {A:List Bool} {M:List (List Int)} (hA:1≤A.length) (hM:Rows3 A.length M):(fitD A M).1.length≤40∧(fitD A M).2.1.length≤40∧∀ r ∈ (fitD A M).2.1,r.length=3:=by
 unfold fitD
 obtain ⟨l1,l2,l3⟩:=minD_len (fits_rows hM) (st:=0) (by omega)
 by_cases h:(minD A M 0).1.length≤40
 ·rw [if_pos h]
  exact ⟨h,by show (minD A M 0).2.length≤40;omega,l3⟩
 ·rw [if_neg h]
  simp
def U64 (s:Int):Prop:=0≤s∧s<18446744073709551616
def bit (s:Int) (q:Nat):Bool:=s.toNat.testBit q
theorem and_nat {m n:Nat} (hm:m<18446744073709551616) (hn:n<18446744073709551616):Go.bits .and .u64 (m:Int) (n:Int)=((m &&& n:Nat):Int):=by
 show IntKind.u64.wrap ((BitVec.ofInt 64 (m:Int) &&& BitVec.ofInt 64 (n:Int)).toNat:Int)=_
 have h:(BitVec.ofInt 64 (m:Int) &&& BitVec.ofInt 64 (n:Int)).toNat=m &&& n:=by
  rw [BitVec.toNat_and,BitVec.ofInt_natCast,BitVec.ofInt_natCast,BitVec.toNat_ofNat,BitVec.toNat_ofNat,Nat.mod_eq_of_lt (by omega),Nat.mod_eq_of_lt (by omega)]
 have hl:m &&& n≤n:=Nat.and_le_right
 rw [h,IntKind.wrap_u64]
 omega
theorem or_nat {m n:Nat} (hm:m<18446744073709551616) (hn:n<18446744073709551616):Go.bits .or .u64 (m:Int) (n:Int)=((m ||| n:Nat):Int):=by
 show IntKind.u64.wrap ((BitVec.ofInt 64 (m:Int) ||| BitVec.ofInt 64 (n:Int)).toNat:Int)=_
 have h:(BitVec.ofInt 64 (m:Int) ||| BitVec.ofInt 64 (n:Int)).toNat=m ||| n:=by
  rw [BitVec.toNat_or,BitVec.ofInt_natCast,BitVec.ofInt_natCast,BitVec.toNat_ofNat,BitVec.toNat_ofNat,Nat.mod_eq_of_lt (by omega),Nat.mod_eq_of_lt (by omega)]
 have hl:m ||| n<2 ^ 64:=Nat.or_lt_two_pow (by omega) (by omega)
 rw [h,IntKind.wrap_u64]
 omega
theorem bit_test {s:Int} (h:U64 s) {q:Nat} (hq:q<64):(Go.bits .and .u64 (shr .u64 s (q:Int)) 1=1)↔bit s q=true:=by
 obtain ⟨m,rfl⟩:∃ m:Nat,s=(m:Int):=⟨s.toNat,by have:=h.1;omega⟩
 have hm:m<18446744073709551616:=by have:=h.2;omega
 have e:shr .u64 (m:Int) (q:Int)=((m / 2 ^ q:Nat):Int):=by
  unfold shr
  rw [Int.toNat_natCast,Nat.min_eq_left (show q≤IntKind.u64.bits by show q≤64;omega)]
  norm_cast
 have hd:m / 2 ^ q≤m:=Nat.div_le_self _ _
 rw [e,show (1:Int)=((1:Nat):Int) from rfl,and_nat (by omega) (by omega),Nat.and_one_is_mod]
 unfold bit
 rw [Int.toNat_natCast,Nat.testBit_eq_decide_div_mod_eq,decide_eq_true_iff]
 constructor
 ·intro h;omega
 ·intro h;omega
theorem bit_or {s:Int} (h:U64 s) {q:Nat} (hq:q<64):U64 (Go.bits .or .u64 s (shl .u64 1 (q:Int)))∧∀ p,bit (Go.bits .or .u64 s (shl .u64 1 (q:Int))) p=(bit s p || decide (p=q)):=by
 obtain ⟨m,rfl⟩:∃ m:Nat,s=(m:Int):=⟨s.toNat,by have:=h.1;omega⟩
 have hm:m<18446744073709551616:=by have:=h.2;omega
 have hp:2 ^ q<2 ^ 64:=Nat.pow_lt_pow_right (by omega) hq
 have e:shl .u64 1 (q:Int)=((2 ^ q:Nat):Int):=by
  unfold shl
  rw [Int.toNat_natCast,Nat.min_eq_left (show q≤IntKind.u64.bits by show q≤64;omega),IntKind.wrap_u64]
  have:((2:Int) ^ q)=((2 ^ q:Nat):Int):=by norm_cast
  rw [Int.one_mul,this]
  generalize 2 ^ q=c at hp ⊢
  omega
 rw [e,or_nat hm (by omega)]
 have hl:m ||| 2 ^ q<2 ^ 64:=Nat.or_lt_two_pow (by omega) hp
 refine ⟨⟨by omega,by omega⟩,fun p=>?_⟩
 unfold bit
 rw [Int.toNat_natCast,Int.toNat_natCast,Nat.testBit_or,Nat.testBit_two_pow]
 congr 1
 exact decide_eq_decide.mpr ⟨fun h=>h.symm,fun h=>h.symm⟩
theorem bit_one {s:Int} (h:U64 s):U64 (Go.bits .or .u64 s 1)∧∀ p,bit (Go.bits .or .u64 s 1) p=(bit s p || decide (p=0)):=by
 have:=bit_or h (q:=0) (by omega)
 have e:shl .u64 1 ((0:Nat):Int)=1:=by
  unfold shl
  rw [IntKind.wrap_u64]
  rfl
 rw [e] at this
 exact this
theorem bit_ext {s t:Int} (hs:U64 s) (ht:U64 t) (h:∀ p,bit s p=bit t p):s=t:=by
 have:s.toNat=t.toNat:=Nat.eq_of_testBit_eq h
 have:=hs.1
 have:=ht.1
 omega
def mvI (nx:List (List Int)) (s:Int) (j:Int):Nat→Nat→Int→Int
 | 0,_,r=>r
 | d+1,q,r=>mvI nx s j d (q+1) (if bit s q=true then Go.bits .or .u64 r (shl .u64 1 (rd (rowOf nx (q:Int)) j)) else r)
def mvS (nx:List (List Int)) (s:Int) (j:Int):Int:=mvI nx s j nx.length 0 0
def acI (acc:List Bool) (s:Int):Nat→Nat→Bool
 | 0,_=>false
 | d+1,q=>if rdOf false acc (q:Int)=true∧bit s q=true then true else acI acc s d (q+1)
def acS (acc:List Bool) (s:Int):Bool:=acI acc s acc.length 0
theorem acI_iff (acc:List Bool) (s:Int):∀ d q,acI acc s d q=true↔∃ p,q≤p∧p<q+d∧rdOf false acc (p:Int)=true∧bit s p=true
 | 0,q=>by
  rw [acI]
  constructor
  ·intro h;cases h
  ·rintro ⟨p,h1,h2,_⟩;omega
 | d+1,q=>by
  rw [acI]
  by_cases h:rdOf false acc (q:Int)=true∧bit s q=true
  ·rw [if_pos h]
   exact ⟨fun _=>⟨q,Nat.le_refl _,by omega,h.1,h.2⟩,fun _=>rfl⟩
  ·rw [if_neg h,acI_iff acc s d (q+1)]
   constructor
   ·rintro ⟨p,h1,h2,h3⟩;exact ⟨p,by omega,by omega,h3⟩
   ·rintro ⟨p,h1,h2,h3⟩
    by_cases e:p=q
    ·subst e;exact absurd h3 h
    ·exact ⟨p,by omega,by omega,h3⟩
theorem acS_iff (acc:List Bool) (s:Int):acS acc s=true↔∃ p,p<acc.length∧rdOf false acc (p:Int)=true∧bit s p=true:=by
 unfold acS
 rw [acI_iff]
 constructor
 ·rintro ⟨p,h1,h2,h3⟩;exact ⟨p,by omega,h3⟩
 ·rintro ⟨p,h1,h3⟩;exact ⟨p,by omega,by omega,h3⟩
section
variable {a:List Bool} {n:List (List Int)} {s:Int}
theorem mvI_bits (hf:Fits a n) (ha:a.length≤40) (j:Nat) (hj:j<3):∀ (d q:Nat) (r:Int),q+d=n.length→U64 r→U64 (mvI n s (j:Int) d q r)∧∀ p,bit (mvI n s (j:Int) d q r) p=true↔bit r p=true∨∃ z,q≤z∧z<n.length∧bit s z=true∧rd (rowOf n (z:Int)) (j:Int)=(p:Int)
 | 0,q,r,hq,hr=>by
  rw [mvI]
  refine ⟨hr,fun p=>⟨Or.inl,?_⟩⟩
  rintro (h | ⟨z,h1,h2,_⟩)
  ·exact h
  ·omega
 | d+1,q,r,hq,hr=>by
  have hl:=hf.len
  obtain ⟨g1,g2⟩:=hf.row (q:Int) (by omega)
  have hy:=g2 (rd (rowOf n (q:Int)) (j:Int)) (by rw [rd_get _ j (by omega)];exact List.getElem_mem _)
  generalize hyy:rd (rowOf n (q:Int)) (j:Int)=y at hy
  obtain ⟨t,rfl⟩:∃ t:Nat,y=(t:Int):=⟨y.toNat,by omega⟩
  rw [mvI,hyy]
  by_cases h:bit s q=true
  ·rw [if_pos h]
   obtain ⟨u1,u2⟩:=bit_or hr (q:=t) (by omega)
   obtain ⟨v1,v2⟩:=mvI_bits hf ha j hj d (q+1) _ (by omega) u1
   refine ⟨v1,fun p=>?_⟩
   rw [v2,u2,Bool.or_eq_true,decide_eq_true_iff]
   constructor
   ·rintro ((h1 | rfl) | ⟨z,h1,h2,h3⟩)
    ·exact Or.inl h1
    ·exact Or.inr ⟨q,Nat.le_refl _,by omega,h,hyy⟩
    ·exact Or.inr ⟨z,by omega,h2,h3⟩
   ·rintro (h1 | ⟨z,h1,h2,h3,h4⟩)
    ·exact Or.inl (Or.inl h1)
    ·by_cases e:z=q
     ·subst e
      rw [hyy] at h4
      exact Or.inl (Or.inr (by omega))
     ·exact Or.inr ⟨z,by omega,h2,h3,h4⟩
  ·rw [if_neg h]
   obtain ⟨v1,v2⟩:=mvI_bits hf ha j hj d (q+1) r (by omega) hr
   refine ⟨v1,fun p=>?_⟩
   rw [v2]
   constructor
   ·rintro (h1 | ⟨z,h1,h2,h3⟩)
    ·exact Or.inl h1
    ·exact Or.inr ⟨z,by omega,h2,h3⟩
   ·rintro (h1 | ⟨z,h1,h2,h3,h4⟩)
    ·exact Or.inl h1
    ·by_cases e:z=q
     ·subst e;exact absurd h3 h
     ·exact Or.inr ⟨z,by omega,h2,h3,h4⟩
theorem mvS_bits (hf:Fits a n) (ha:a.length≤40) (j:Nat) (hj:j<3):U64 (mvS n s (j:Int))∧∀ p,bit (mvS n s (j:Int)) p=true↔∃ z,z<n.length∧bit s z=true∧rd (rowOf n (z:Int)) (j:Int)=(p:Int):=by
 obtain ⟨h1,h2⟩:=mvI_bits (s:=s) hf ha j hj n.length 0 0 (by omega) ⟨by omega,by omega⟩
 refine ⟨h1,fun p=>?_⟩
 unfold mvS
 rw [h2]
 constructor
 ·rintro (h | ⟨z,_,h3⟩)
  ·unfold bit at h
   simp at h
  ·exact ⟨z,h3⟩
 ·rintro ⟨z,h3⟩
  exact Or.inr ⟨z,Nat.zero_le _,h3⟩
theorem impl_moved_l0 (hf:Fits a n) (ha:a.length≤40) (hs:U64 s) (j:Nat) (hj:j<3):∀ (d q:Nat) (r:Int),q+d=n.length→Ev (fun k=>impl_moved.l0 k s (j:Int) r n (n.length:Int) (q:Int)) (mvI n s (j:Int) d q r)
 | 0,q,r,hq=>by
  refine next ?_
  simp only [impl_moved.l0,if_neg (show ¬ (q:Int)<(n.length:Int) by omega)]
  exact Ev.now _
 | d+1,q,r,hq=>by
  have hl:=hf.len
  obtain ⟨g1,g2⟩:=hf.row (q:Int) (by omega)
  have hy:=g2 (rd (rowOf n (q:Int)) (j:Int)) (by rw [rd_get _ j (by omega)];exact List.getElem_mem _)
  have hrow:rd_L1 n (q:Int)=rowOf n (q:Int):=rfl
  have IH:=fun r=>impl_moved_l0 hf ha hs j hj d (q+1) r (by omega)
  refine next ?_
  rw [mvI]
  simp only [impl_moved.l0,if_pos (show (q:Int)<(n.length:Int) by omega),if_pos (show (0:Int)≤(q:Int) by omega),hrow,if_pos (show (0:Int)≤(j:Int) by omega),if_pos (show (j:Int)<((rowOf n (q:Int)).length:Int) by omega),if_pos hy.1]
  rw [up1 (by omega)]
  by_cases h:bit s q=true
  ·simp only [if_pos ((bit_test hs (by omega)).mpr h),if_pos h]
   exact IH _
  ·simp only [if_neg (fun h2=>h ((bit_test hs (by omega)).mp h2)),if_neg h]
   exact IH _
theorem impl_moved_ev (hf:Fits a n) (ha:a.length≤40) (hs:U64 s) (j:Nat) (hj:j<3):Ev (fun k=>impl_moved.f k a n s (j:Int)) (mvS n s (j:Int)):=by
 simp only [impl_moved.f]
 exact impl_moved_l0 hf ha hs j hj n.length 0 0 (by omega)
theorem impl_accepting_l0 (ha:a.length≤40) (hs:U64 s):∀ (d q:Nat),q+d=a.length→Ev (fun k=>impl_accepting.l0 k s a (a.length:Int) (q:Int)) (acI a s d q)
 | 0,q,hq=>by
  refine next ?_
  simp only [impl_accepting.l0,if_neg (show ¬ (q:Int)<(a.length:Int) by omega)]
  exact Ev.now _
 | d+1,q,hq=>by
  have IH:=impl_accepting_l0 ha hs d (q+1) (by omega)
  refine next ?_
  rw [acI]
  simp only [impl_accepting.l0,if_pos (show (q:Int)<(a.length:Int) by omega),if_pos (show (0:Int)≤(q:Int) by omega)]
  rw [up1 (by omega)]
  by_cases h1:rdOf false a (q:Int)=true
  ·by_cases h:bit s q=true
   ·simp only [if_pos h1,if_pos ((bit_test hs (by omega)).mpr h),if_pos (And.intro h1 h)]
    exact Ev.now _
   ·simp only [if_pos h1,if_neg (fun h2=>h ((bit_test hs (by omega)).mp h2)),if_neg (fun h2:rdOf false a (q:Int)=true∧bit s q=true=>h h2.2)]
    exact IH
  ·simp only [if_neg h1,if_neg (fun h2:rdOf false a (q:Int)=true∧bit s q=true=>h1 h2.1)]
   exact IH
theorem impl_accepting_ev (ha:a.length≤40) (hs:U64 s):Ev (fun k=>impl_accepting.f k a n s) (acS a s):=by
 simp only [impl_accepting.f]
 exact impl_accepting_l0 ha hs a.length 0 (by omega)
end
end Go.Proofs.Ytogamkblkoobkaa.Can
end
section
namespace Go.Proofs.Ytogamkblkoobkaa.P
open Go.RowKit Go.Proofs.YtogamkblkoobkaaW.PrintWords Go.Proofs.YtogamkblkoobkaaW.PrintLast Go.Proofs.YtogamkblkoobkaaW.PrintMore
attribute [local go_sem] max2_int min2_int max_two min_two max_three min_three max_four min_four
def spec_l6Put.l0:Nat→List Int→Int→Int→Option (List Int)
 | 0,_,_,_=>none
 | k+1,x0,x1,x5=>if x5<(x0.length:Int) then (if 0≤x5 then (if (rd x0 x5)<x1 then (spec_l6Put.l0 k x0 x1 (wrap64 (x5+1))) else (if (rd x0 x5)=x1 then (some x0) else ((some (([]:List Int):List Int)).bind fun ap=>(if x5≤(x0.length:Int) then ((some (x0.take (x5:Int).toNat:List Int)).bind fun ag=>(if ap.length+ag.length<17592186044416 then ((some (ap ++ ag:List Int)).bind fun ak=>(if ak.length<17592186044416 then ((some (ak ++ [x1]:List Int)).bind fun ah=>((some (x0.drop (x5:Int).toNat:List Int)).bind fun ad=>(if ah.length+ad.length<17592186044416 then (some (ah ++ ad)) else (none)))) else (none))) else (none))) else (none))))) else (none)) else ((some (([]:List Int):List Int)).bind fun aq=>(if 0≤x5 then (if x5≤(x0.length:Int) then ((some (x0.take (x5:Int).toNat:List Int)).bind fun ai=>(if aq.length+ai.length<17592186044416 then ((some (aq ++ ai:List Int)).bind fun al=>(if al.length<17592186044416 then ((some (al ++ [x1]:List Int)).bind fun aj=>((some (x0.drop (x5:Int).toNat:List Int)).bind fun ae=>(if aj.length+ae.length<17592186044416 then (some (aj ++ ae)) else (none)))) else (none))) else (none))) else (none)) else (none)))
def spec_l6Put.f (k:Nat) (l0:List Int) (a1:Int):Option (List Int):=spec_l6Put.l0 k l0 a1 0
theorem spec_l6Put.mono_l:∀ k,(∀ y0 y1 y2,LeO (spec_l6Put.l0 k y0 y1 y2) (spec_l6Put.l0 (k+1) y0 y1 y2))
 | 0=>fun _ _ _ r h=>by simp [spec_l6Put.l0] at h
 | k+1=>by
  have ih0:=spec_l6Put.mono_l k
  ·intro y0 y1 y2
   unfold spec_l6Put.l0
   repeat' first
   | (with_reducible exact ih0 _ _ _)
   | (with_reducible exact LeO.refl _)
   | (with_reducible exact LeO.none _)
   | (with_reducible refine LeO.ite ?_ ?_)
   | (with_reducible refine LeO.bind ?_ (fun _=>?_))
   | exact ih0 _ _ _
   | exact LeO.none _
   | refine LeO.ite ?_ ?_
   | refine LeO.bind ?_ (fun _=>?_)
theorem spec_l6Put.mono:∀ a0 a1 k,LeO (spec_l6Put.f k a0 a1) (spec_l6Put.f (k+1) a0 a1):=by
 intro a0 a1 k
 have ih0:=spec_l6Put.mono_l k
 unfold spec_l6Put.f
 repeat' first
  | (with_reducible exact ih0 _ _ _)
  | (with_reducible exact LeO.refl _)
  | (with_reducible exact LeO.none _)
  | (with_reducible refine LeO.ite ?_ ?_)
  | (with_reducible refine LeO.bind ?_ (fun _=>?_))
  | exact ih0 _ _ _
  | exact LeO.none _
  | refine LeO.ite ?_ ?_
  | refine LeO.bind ?_ (fun _=>?_)
theorem zp26_0_ {p q:Prop} (h:p) (c:p→q:=by intro h_;repeat (first | (with_reducible first | exact h_ | apply Kept.alloc | apply Kept.drewN | apply Kept.drew) | exact h_)):q:=c h
theorem zp26_1_ {p q:Prop} (h:p) (c:p→q:=by intro h_;repeat (first | (with_reducible first | exact h_ | apply below_alloc | apply pw_below_drewN | apply below_drew1) | exact h_)):q:=c h
set_option maxHeartbeats 8000000 in
set_option maxRecDepth 100000 in
theorem spec_l6Put.calls (k:Nat) (P0_:Nat→Prop) (u9000_:Value) (l0:List Int) (a1:Int) (r:List Int) (w0 w:World) (hB:Below w0.heap.size w0 w) (ho0:Kd.R (Kd.int .i64) 3 w w0.heap.size P0_ u9000_ l0) (h:spec_l6Put.f k l0 a1=some r) :
  Calls Try.prog 74 #[u9000_,.int .i64 a1] w fun e w'=>∃ v0_:Value,e = .returned (v0_)∧Kd.R (Kd.int .i64) 3 w' w0.heap.size (fun k_=>(P0_ k_∨w.heap.size≤k_)) v0_ r∧Below w0.heap.size w0 w'∧Kept w w' (fun k_=>P0_ k_):=by
 have HO0:=am_ (show Kd.R (Kd.int .i64) 3 w w0.heap.size (fun k_=>(P0_ k_∨w.heap.size≤k_)) u9000_ l0 from Kd.R_mono ho0 (fun k_ hk=>(.inl hk)))
 have HK:=am_ (Kept.refl w (fun k_=>P0_ k_))
 have HW0:=am_ hB.size
 have HB:=am_ hB
 clear hB
 have H:(spec_l6Put.l0 k l0 a1 0)=some r:=h
 clear h
 have H':=am_ H
 clear H
 go_enter Try.func74,Try.ntmps74
 go_wp2
 go_loopg [5] k (fun kq v5 w'=>∃ (aa:Int),v5 = .int .i64 aa∧Aside0 (spec_l6Put.l0 kq l0 a1 aa=some r)∧Aside0 (kq≤k)∧Aside0 (Kd.R (Kd.int .i64) 3 w' w0.heap.size (fun k_=>(P0_ k_∨w.heap.size≤k_)) u9000_ l0)∧Aside0 (Kept w w' (fun k_=>P0_ k_))∧Aside0 (Below w0.heap.size w0 w'))
 case atStart=>exact ⟨(0),(by first | rfl | (simp;done) | (simp [*];done)),H',⟨Nat.le_refl _⟩,⟨by refine rr_ ?_;exact HO0.out⟩,⟨by exact zp26_0_ HK.out⟩,⟨by exact zp26_1_ HB.out⟩⟩
 case round =>
  clear H'
  try clear p2
  obtain ⟨aa,rfl,HA,HK1,ab,HK,HB⟩:=hrel
  cases gk with
  | zero=>exact absurd HA.out (by simp [spec_l6Put.l0])
  | succ k1 =>
   have H:=HA.out
   clear HA
   simp only [spec_l6Put.l0] at H
   by_cases c3:aa<(l0.length:Int)
   ·rw [if_pos c3] at H
    have c3b0:decide (aa<(l0.length:Int))=true:=decide_eq_true c3
    clear c3
    by_cases c4:0≤aa
    ·rw [if_pos c4] at H
     have c4b0:decide (0≤aa)=true:=decide_eq_true c4
     clear c4
     by_cases c5:(rd l0 aa)<a1
     ·rw [if_pos c5] at H
      have c5b0:decide ((rd l0 aa)<a1)=true:=decide_eq_true c5
      clear c5
      have H':=am_ H
      clear H
      obtain ⟨Ao6,co6,eo6⟩:=Kd.R_slice ab.out
      subst eo6
      have p361:0≤(aa:Int):=of_decide_eq_true ah_
      have q361:aa<(l0.length:Int):=of_decide_eq_true ah_
      obtain ⟨af,e361,av⟩:=Kd.at_int (Kd.R_reads' ab.out).2.2 aa p361 q361
      cases e361
      replace p361:=eq_true p361
      replace q361:=eq_true q361
      go_wp2
      go_roundg k1
      case measure=>have:=HK1.out;omega
      case rel=>exact ⟨(wrap64 (aa+1)),(by first | rfl | (simp;done) | (simp [*];done)),H',⟨by have:=HK1.out;omega⟩,⟨by refine rr_ ?_;exact ab.out⟩,⟨by exact zp26_0_ HK.out⟩,⟨by exact zp26_1_ HB.out⟩⟩
     ·rw [if_neg c5] at H
      have c5b0:decide ((rd l0 aa)<a1)=false:=decide_eq_false c5
      clear c5
      by_cases c7:(rd l0 aa)=a1
      ·rw [if_pos c7] at H
       have c7b0:((rd l0 aa) == a1)=true:=beq_iff_eq.mpr c7
       have c7b1:((rd l0 aa) != a1)=false:=bne_eq_false_iff_eq.mpr c7
       clear c7
       obtain rfl:=Option.some.inj H
       simp only [Option.some.injEq,Prod.mk.injEq] at H
       obtain ⟨rfl⟩:=H
       obtain ⟨Ao8,co8,eo8⟩:=Kd.R_slice ab.out
       subst eo8
       have p361:0≤(aa:Int):=of_decide_eq_true ah_
       have q361:aa<(l0.length:Int):=of_decide_eq_true ah_
       obtain ⟨af,e361,av⟩:=Kd.at_int (Kd.R_reads' ab.out).2.2 aa p361 q361
       cases e361
       replace p361:=eq_true p361
       replace q361:=eq_true q361
       have p362:0≤(aa:Int):=of_decide_eq_true ah_
       have q362:aa<(l0.length:Int):=of_decide_eq_true ah_
       obtain ⟨aw,e362,aJ⟩:=Kd.at_int (Kd.R_reads' ab.out).2.2 aa p362 q362
       obtain rfl:af=aw:=(by injection e362)
       replace p362:=eq_true p362
       replace q362:=eq_true q362
       go_wp2
       go_ret
       exact ⟨_,by first | rfl | (simp [errW_none,errW_some] <;> rfl) | (simp [*,errW_none,errW_some] <;> rfl),by refine rr_ ?_;exact ab.out,by exact zp26_1_ HB.out,by exact zp26_0_ HK.out⟩
      ·rw [if_neg c7] at H
       have c7b0:((rd l0 aa) == a1)=false:=beq_eq_false_iff_ne.mpr c7
       have c7b1:((rd l0 aa) != a1)=true:=bne_iff_ne.mpr c7
       obtain ⟨ap,hy363⟩:∃ y_:List Int,y_=(([]:List Int)):=⟨_,rfl⟩
       replace H:(if aa≤(l0.length:Int) then ((some (l0.take (aa:Int).toNat:List Int)).bind fun ag=>(if ap.length+ag.length<17592186044416 then ((some (ap ++ ag:List Int)).bind fun ak=>(if ak.length<17592186044416 then ((some (ak ++ [a1]:List Int)).bind fun ah=>((some (l0.drop (aa:Int).toNat:List Int)).bind fun ad=>(if ah.length+ad.length<17592186044416 then (some (ah ++ ad)) else (none)))) else (none))) else (none))) else (none))=some r:=by first | (rw [hy363];with_reducible exact H) | (have H2_:=(Option.bind_some _ _).symm.trans H;rw [hy363];with_reducible exact H2_) | (have H2_:=(Option.bind_some _ _).symm.trans H;with_reducible exact H2_) | with_reducible exact H | (rw [hy363];exact H) | exact H
       have aH:=am_ hy363
       clear hy363
       have c9b0:=eq_true (of_decide_eq_true ah_:0≤aa)
       by_cases c10:aa≤(l0.length:Int)
       ·rw [if_pos c10] at H
        have c10b0:=eq_true c10
        have c10b1:decide (aa≤(l0.length:Int))=true:=decide_eq_true c10
        clear c10
        obtain ⟨ag,hy366⟩:∃ y_:List Int,y_=(l0.take (aa:Int).toNat):=⟨_,rfl⟩
        replace H:(if ap.length+ag.length<17592186044416 then ((some (ap ++ ag:List Int)).bind fun ak=>(if ak.length<17592186044416 then ((some (ak ++ [a1]:List Int)).bind fun ah=>((some (l0.drop (aa:Int).toNat:List Int)).bind fun ad=>(if ah.length+ad.length<17592186044416 then (some (ah ++ ad)) else (none)))) else (none))) else (none))=some r:=by first | (rw [hy366];with_reducible exact H) | (have H2_:=(Option.bind_some _ _).symm.trans H;rw [hy366];with_reducible exact H2_) | (have H2_:=(Option.bind_some _ _).symm.trans H;with_reducible exact H2_) | with_reducible exact H | (rw [hy366];exact H) | exact H
        have ar:=am_ hy366
        clear hy366
        by_cases c11:ap.length+ag.length<17592186044416
        ·rw [if_pos c11] at H
         have LMc11:=am_ c11
         clear c11
         obtain ⟨ak,hy370⟩:∃ y_:List Int,y_=(ap ++ ag):=⟨_,rfl⟩
         replace H:(if ak.length<17592186044416 then ((some (ak ++ [a1]:List Int)).bind fun ah=>((some (l0.drop (aa:Int).toNat:List Int)).bind fun ad=>(if ah.length+ad.length<17592186044416 then (some (ah ++ ad)) else (none)))) else (none))=some r:=by first | (rw [hy370];with_reducible exact H) | (have H2_:=(Option.bind_some _ _).symm.trans H;rw [hy370];with_reducible exact H2_) | (have H2_:=(Option.bind_some _ _).symm.trans H;with_reducible exact H2_) | with_reducible exact H | (rw [hy370];exact H) | exact H
         have aK:=am_ hy370
         clear hy370
         by_cases c12:ak.length<17592186044416
         ·rw [if_pos c12] at H
          have LMc12:=am_ c12
          clear c12
          obtain ⟨ah,hy373⟩:∃ y_:List Int,y_=(ak ++ [a1]):=⟨_,rfl⟩
          replace H:((some (l0.drop (aa:Int).toNat:List Int)).bind fun ad=>(if ah.length+ad.length<17592186044416 then (some (ah ++ ad)) else (none)))=some r:=by first | (rw [hy373];with_reducible exact H) | (have H2_:=(Option.bind_some _ _).symm.trans H;rw [hy373];with_reducible exact H2_) | (have H2_:=(Option.bind_some _ _).symm.trans H;with_reducible exact H2_) | with_reducible exact H | (rw [hy373];exact H) | exact H
          have aM:=am_ hy373
          clear hy373
          have c13b0:=eq_true (of_decide_eq_true ah_:0≤aa)
          have c14b0:=eq_true (of_decide_eq_true ah_:aa≤(l0.length:Int))
          obtain ⟨ad,hy376⟩:∃ y_:List Int,y_=(l0.drop (aa:Int).toNat):=⟨_,rfl⟩
          replace H:(if ah.length+ad.length<17592186044416 then (some (ah ++ ad)) else (none))=some r:=by first | (rw [hy376];with_reducible exact H) | (have H2_:=(Option.bind_some _ _).symm.trans H;rw [hy376];with_reducible exact H2_) | (have H2_:=(Option.bind_some _ _).symm.trans H;with_reducible exact H2_) | with_reducible exact H | (rw [hy376];exact H) | exact H
          have ax:=am_ hy376
          clear hy376
          by_cases c15:ah.length+ad.length<17592186044416
          ·rw [if_pos c15] at H
           have LMc15:=am_ c15
           clear c15
           obtain ⟨aX,hy380⟩:∃ y_:List Int,y_=(ah ++ ad):=⟨_,rfl⟩
           replace H:(some aX)=some r:=by first | (rw [hy380];with_reducible exact H) | (have H2_:=(Option.bind_some _ _).symm.trans H;rw [hy380];with_reducible exact H2_) | (have H2_:=(Option.bind_some _ _).symm.trans H;with_reducible exact H2_) | with_reducible exact H | (rw [hy380];exact H) | exact H
           have aN:=am_ hy380
           clear hy380
           obtain rfl:=Option.some.inj H
           simp only [Option.some.injEq,Prod.mk.injEq] at H
           obtain ⟨rfl⟩:=H
           obtain ⟨bh,am,aY⟩:=Kd.R_slice ab.out
           subst aY
           have p361:0≤(aa:Int):=of_decide_eq_true ah_
           have q361:aa<(l0.length:Int):=of_decide_eq_true ah_
           obtain ⟨af,e361,av⟩:=Kd.at_int (Kd.R_reads' ab.out).2.2 aa p361 q361
           cases e361
           replace p361:=eq_true p361
           replace q361:=eq_true q361
           have p362:0≤(aa:Int):=of_decide_eq_true ah_
           have q362:aa<(l0.length:Int):=of_decide_eq_true ah_
           obtain ⟨aw,e362,aJ⟩:=Kd.at_int (Kd.R_reads' ab.out).2.2 aa p362 q362
           obtain rfl:af=aw:=(by injection e362)
           replace p362:=eq_true p362
           replace q362:=eq_true q362
           go_wp2_with (first | ((with_reducible refine gate_dst (N:=34) rfl ?_);refine Kd.R_lit (Kd.int .i64) _ 3 ?hg (N:=34) ?hd (xs:=([]:List Int)) (inner:=[]) (ok:=fun _=>True) (okp:=fun _=>True) ?hr ?hp (fun _ hk=>hk) trivial (Below.refl _ _) (Nat.le_refl _) (by simp) ?_;(case hd=>rfl);(case hg=>rfl);(case hr=>first | (go_simp;done) | (go_simp;rfl));(case hp=>exact (Reps.none _ _));intro aZ w17 ho18 hb hg_ hnew_;clear hg_ hnew_;(first | rw [← aH.out] at ho18 | (simp only [Int.reduceToNat] at ho18;rw [← aH.out] at ho18));have n0_:=am_ (Kd.R_elder' (rr_ ab.out) (Kd.R_base ho18) hb);have n1_:=am_ (Kd.R_lower (Kd.R_new' (Kd.R_newM (M:=fun k_=>(P0_ k_∨w.heap.size≤k_)) ho18 (by first | exact HK.out.1 | exact (show Kept w _ (fun k_=>P0_ k_) from by exact zp26_0_ HK.out).1) (fun k_ h_=>.inr h_)) (Kd.R_lt (rr_ ab.out))) (below_size (b0_ HB.out)));have n2_:=am_ (Kept.below (S:=(fun k_=>P0_ k_)) (zp26_0_ HK.out) hb);have n3_:=am_ (below_step (b0_ HB.out) hb);clear ab;clear HK;clear HB;have ab:=n0_;have ay:=n1_;have HK:=n2_;have HB:=n3_;clear n0_ n1_ n2_ n3_;clear hb ho18;have q19:(aa:Int)≤((l0.length:Int):Int):=of_decide_eq_true ah_;obtain ⟨i019,hi019,_,hsz19,_⟩:=info_parts info3;have hroom19:l0.length≤am:=(Kd.R_reads' ab.out).2.1;have hC19:Kd.C (Kd.int .i64) _ (some af) l0.length l0:=(Kd.R_reads' ab.out).2.2;have hcut19:=cut_to (P:=Try.prog) 67 3 .i64 Try.underlying67 hi019 (some af) l0.length am aa (of_decide_eq_true ah_) q19 hroom19;have hr19:=Kd.C_take (m:=(aa:Int).toNat) hC19 (by omega);have hy19:ag.length=(aa:Int).toNat:=(by rw [ar.out,List.length_take];omega);rw [← ar.out] at hr19;rw [← hy19] at hcut19;have HR369:=am_ hr19;have HC369:=am_ (show ag.length≤am from by omega);clear hr19 hC19 hroom19 hi019 hsz19;have KY19:=am_ hy19;clear hy19;have KL19:=am_ (show (aa:Int).toNat≤l0.length from by omega);replace q19:=eq_true q19) | ((with_reducible refine gate_builtin (b:=.append) (xs:=#[.tmp 34,.tmp 37]) rfl ?_);at_builtin;refine Kd.R_append_rows (Kd.int .i64) (w0:=w0) w0.heap.size rfl (.tmp 34) (.tmp 37) 67 3 (.int .i64 0) 8 rfl Try.underlying67 info3 rfl (by decide) (by omega) aZ ap ag _ _ _ (fun k_=>(P0_ k_∨w.heap.size≤k_)∧some k_ ≠ (.slice (some af) l0.length am:Value).ownBlock) (fun _=>False) rfl rfl ?aO ?aR (fun _ _ h=>h) (fun _ h=>h.elim) ?aF ?aB ?aS ?aL ?_;(case aR=>exact rc_ (by repeat (first | (with_reducible exact HR369.out) | (with_reducible refine Kd.C_alloc ?_ _) | (with_reducible refine Kd.C_drewN ?_ _) | (with_reducible refine Kd.C_drew ?_) | exact HR369.out)));(case aB=>exact (b0_ HB.out));(case aF=>exact (fun k_ hk=>⟨(.inr (Nat.le_trans (by first | exact HK.out.1 | exact (show Kept w _ (fun k_=>P0_ k_) from by exact zp26_0_ HK.out).1) hk)),Kd.fresh' (Kd.R_lt (rr_ ab.out)) k_ hk⟩));(case aO=>exact (by refine rr_ ?_;exact Kd.R_mono ay.out (fun _ hk=>⟨hk.1.1,hk.2⟩)));(case aS=>exact (below_size (b0_ HB.out)));(case aL=>have:=LMc11.out;omega);intro ba w20 ho hb hg hat;rw [← aK.out] at ho;have n0_:=am_ (Kd.R_after (ok:=(fun k_=>(P0_ k_∨w.heap.size≤k_))) (rr_ ab.out) hg hat);have n1_:=am_ (hb);have n2_:=am_ (Kept.of_grown (S:=(fun k_=>P0_ k_)) hg (zp26_0_ HK.out) (fun k_ e_=>(ay.out.1 k_ e_).1.1));have n3_:=am_ ((show Kd.C (Kd.int .i64) w20 (some af) ag.length ag from by rw [ar.out];exact Kd.C_take (m:=(aa:Int).toNat) ((Kd.R_reads' (Kd.R_after (ok:=(fun k_=>(P0_ k_∨w.heap.size≤k_))) (rr_ ab.out) hg hat)).2.2) KL19.out));have n4_:=am_ (ho);clear ab;clear HB;clear HK;clear HR369;clear ay;have ab:=n0_;have HB:=n1_;have HK:=n2_;have HR369:=n3_;have az:=n4_;clear n0_ n1_ n2_ n3_ n4_;clear ho hb hg hat) | ((with_reducible refine gate_builtin (b:=.append) (xs:=#[.tmp 39,.tmp 41]) rfl ?_);at_builtin;refine Kd.R_append (Kd.int .i64) (w0:=w0) w0.heap.size rfl (.tmp 39) (.tmp 41) 67 3 (.int .i64 0) 8 rfl Try.underlying67 info3 rfl (by decide) (by omega) ba ak a1 [.int .i64 a1] (fun k_=>(P0_ k_∨w.heap.size≤k_)∧some k_ ≠ (.slice (some af) l0.length am:Value).ownBlock) (fun _=>False) rfl rfl ?aP (fun _ hk=>hk.elim) ?aF ?aO ?aB ?aS ?aL ?_;(case aP=>exact rfl);(case aB=>exact (b0_ HB.out));(case aF=>exact (fun k_ hk=>⟨(.inr (Nat.le_trans (by first | exact HK.out.1 | exact (show Kept w _ (fun k_=>P0_ k_) from by exact zp26_0_ HK.out).1) hk)),Kd.fresh' (Kd.R_lt (rr_ ab.out)) k_ hk⟩));(case aO=>exact (rr_ az.out));(case aS=>exact (below_size (b0_ HB.out)));(case aL=>have:=LMc12.out;omega);intro bb w21 ho hb hg hat;rw [← aM.out] at ho;have n0_:=am_ (Kd.R_after (ok:=(fun k_=>(P0_ k_∨w.heap.size≤k_))) (rr_ ab.out) hg hat);have n1_:=am_ (hb);have n2_:=am_ (Kept.of_grown (S:=(fun k_=>P0_ k_)) hg (zp26_0_ HK.out) (fun k_ e_=>(az.out.1 k_ e_).1));have n3_:=am_ ((show Kd.C (Kd.int .i64) w21 (some af) ag.length ag from by rw [ar.out];exact Kd.C_take (m:=(aa:Int).toNat) ((Kd.R_reads' (Kd.R_after (ok:=(fun k_=>(P0_ k_∨w.heap.size≤k_))) (rr_ ab.out) hg hat)).2.2) KL19.out));have n4_:=am_ (ho);clear ab;clear HB;clear HK;clear HR369;clear az;have ab:=n0_;have HB:=n1_;have HK:=n2_;have HR369:=n3_;have aA:=n4_;clear n0_ n1_ n2_ n3_ n4_;clear ho hb hg hat;have q22:(aa:Int)≤((l0.length:Int):Int):=of_decide_eq_true ah_;obtain ⟨i022,hi022,_,hsz22,_⟩:=info_parts info3;have hroom22:l0.length≤am:=(Kd.R_reads' ab.out).2.1;have hC22:Kd.C (Kd.int .i64) _ (some af) l0.length l0:=(Kd.R_reads' ab.out).2.2;have q022:(0:Int)≤(aa:Int):=of_decide_eq_true ah_;have hcut22:=cut_from (P:=Try.prog) 67 3 .i64 Try.underlying67 hi022 1 hsz22 (some af) l0.length am aa q022 q22;have hr22:=Kd.C_drop (m:=(aa:Int).toNat) (c:=am) hC22 (by omega) hroom22;obtain ⟨A22,hA22⟩:∃ A1,A1=(if am=(aa:Int).toNat then (some af) else ((some af):Option Addr).map (·.add ((aa:Int).toNat * 1))):=⟨_,rfl⟩;obtain ⟨c22,hc22⟩:∃ c1,c1=am - (aa:Int).toNat:=⟨_,rfl⟩;have hy22:ad.length=l0.length - (aa:Int).toNat:=(by rw [ax.out,List.length_drop] <;> omega);rw [show (l0).drop (aa:Int).toNat=ad from ax.out.symm] at hr22;replace hr22:Kd.C (Kd.int .i64) _ A22 ad.length ad:=(by rw [hA22];exact hr22);rw [← hy22,← hA22,← hc22] at hcut22;have HR379:=am_ hr22;have HC379:=am_ (show ad.length≤c22 from by rw [hy22,hc22];exact Nat.sub_le_sub_right hroom22 _);clear hr22 hC22 hroom22 hi022 hsz22 hc22;have KY22:=am_ hy22;have KA22:=am_ hA22;clear hy22 hA22;have KL22:=am_ (show (aa:Int).toNat≤l0.length from by omega);replace q22:=eq_true q22) | ((with_reducible refine gate_builtin (b:=.append) (xs:=#[.tmp 43,.tmp 46]) rfl ?_);at_builtin;refine Kd.R_append_rows (Kd.int .i64) (w0:=w0) w0.heap.size rfl (.tmp 43) (.tmp 46) 67 3 (.int .i64 0) 8 rfl Try.underlying67 info3 rfl (by decide) (by omega) bb ah ad _ _ _ (fun k_=>(P0_ k_∨w.heap.size≤k_)∧some k_ ≠ (.slice (some af) l0.length am:Value).ownBlock) (fun _=>False) rfl rfl ?aO ?aR (fun _ _ h=>h) (fun _ h=>h.elim) ?aF ?aB ?aS ?aL ?_;(case aR=>exact rc_ (by repeat (first | (with_reducible exact HR379.out) | (with_reducible refine Kd.C_alloc ?_ _) | (with_reducible refine Kd.C_drewN ?_ _) | (with_reducible refine Kd.C_drew ?_) | exact HR379.out)));(case aB=>exact (b0_ HB.out));(case aF=>exact (fun k_ hk=>⟨(.inr (Nat.le_trans (by first | exact HK.out.1 | exact (show Kept w _ (fun k_=>P0_ k_) from by exact zp26_0_ HK.out).1) hk)),Kd.fresh' (Kd.R_lt (rr_ ab.out)) k_ hk⟩));(case aO=>exact (rr_ aA.out));(case aS=>exact (below_size (b0_ HB.out)));(case aL=>have:=LMc15.out;omega);intro bi w23 ho hb hg hat;rw [← aN.out] at ho;have n0_:=am_ (Kd.R_after (ok:=(fun k_=>(P0_ k_∨w.heap.size≤k_))) (rr_ ab.out) hg hat);have n1_:=am_ (hb);have n2_:=am_ (Kept.of_grown (S:=(fun k_=>P0_ k_)) hg (zp26_0_ HK.out) (fun k_ e_=>(aA.out.1 k_ e_).1));have n3_:=am_ ((show Kd.C (Kd.int .i64) w23 (some af) ag.length ag from by rw [ar.out];exact Kd.C_take (m:=(aa:Int).toNat) ((Kd.R_reads' (Kd.R_after (ok:=(fun k_=>(P0_ k_∨w.heap.size≤k_))) (rr_ ab.out) hg hat)).2.2) KL19.out));have n4_:=am_ ((show Kd.C (Kd.int .i64) w23 A22 ad.length ad from by rw [ax.out,KA22.out];exact Kd.C_drop (m:=(aa:Int).toNat) (c:=am) ((Kd.R_reads' (Kd.R_after (ok:=(fun k_=>(P0_ k_∨w.heap.size≤k_))) (rr_ ab.out) hg hat)).2.2) KL22.out ((Kd.R_reads' (Kd.R_after (ok:=(fun k_=>(P0_ k_∨w.heap.size≤k_))) (rr_ ab.out) hg hat)).2.1)));have n5_:=am_ (ho);clear ab;clear HB;clear HK;clear HR369;clear HR379;clear aA;have ab:=n0_;have HB:=n1_;have HK:=n2_;have HR369:=n3_;have HR379:=n4_;have aQ:=n5_;clear n0_ n1_ n2_ n3_ n4_ n5_;clear ho hb hg hat))
           go_ret
           exact ⟨_,by first | rfl | (simp [errW_none,errW_some] <;> rfl) | (simp [*,errW_none,errW_some] <;> rfl),by refine rr_ ?_;exact Kd.R_mono aQ.out (fun _ hk=>hk.1),by exact zp26_1_ HB.out,by exact zp26_0_ HK.out⟩
          ·rw [if_neg c15] at H
           exact absurd H (by simp)
         ·rw [if_neg c12] at H
          exact absurd H (by simp)
        ·rw [if_neg c11] at H
         exact absurd H (by simp)
       ·rw [if_neg c10] at H
        exact absurd H (by simp)
    ·rw [if_neg c4] at H
     exact absurd H (by simp)
   ·rw [if_neg c3] at H
    have c3b0:decide (aa<(l0.length:Int))=false:=decide_eq_false c3
    clear c3
    obtain ⟨aq,hy383⟩:∃ y_:List Int,y_=(([]:List Int)):=⟨_,rfl⟩
    replace H:(if 0≤aa then (if aa≤(l0.length:Int) then ((some (l0.take (aa:Int).toNat:List Int)).bind fun ai=>(if aq.length+ai.length<17592186044416 then ((some (aq ++ ai:List Int)).bind fun al=>(if al.length<17592186044416 then ((some (al ++ [a1]:List Int)).bind fun aj=>((some (l0.drop (aa:Int).toNat:List Int)).bind fun ae=>(if aj.length+ae.length<17592186044416 then (some (aj ++ ae)) else (none)))) else (none))) else (none))) else (none)) else (none))=some r:=by first | (rw [hy383];with_reducible exact H) | (have H2_:=(Option.bind_some _ _).symm.trans H;rw [hy383];with_reducible exact H2_) | (have H2_:=(Option.bind_some _ _).symm.trans H;with_reducible exact H2_) | with_reducible exact H | (rw [hy383];exact H) | exact H
    have aI:=am_ hy383
    clear hy383
    by_cases c24:0≤aa
    ·rw [if_pos c24] at H
     have c24b0:=eq_true c24
     have c24b1:decide (0≤aa)=true:=decide_eq_true c24
     clear c24
     by_cases c25:aa≤(l0.length:Int)
     ·rw [if_pos c25] at H
      have c25b0:=eq_true c25
      have c25b1:decide (aa≤(l0.length:Int))=true:=decide_eq_true c25
      clear c25
      obtain ⟨ai,hy386⟩:∃ y_:List Int,y_=(l0.take (aa:Int).toNat):=⟨_,rfl⟩
      replace H:(if aq.length+ai.length<17592186044416 then ((some (aq ++ ai:List Int)).bind fun al=>(if al.length<17592186044416 then ((some (al ++ [a1]:List Int)).bind fun aj=>((some (l0.drop (aa:Int).toNat:List Int)).bind fun ae=>(if aj.length+ae.length<17592186044416 then (some (aj ++ ae)) else (none)))) else (none))) else (none))=some r:=by first | (rw [hy386];with_reducible exact H) | (have H2_:=(Option.bind_some _ _).symm.trans H;rw [hy386];with_reducible exact H2_) | (have H2_:=(Option.bind_some _ _).symm.trans H;with_reducible exact H2_) | with_reducible exact H | (rw [hy386];exact H) | exact H
      have au:=am_ hy386
      clear hy386
      by_cases c26:aq.length+ai.length<17592186044416
      ·rw [if_pos c26] at H
       have LMc26:=am_ c26
       clear c26
       obtain ⟨al,hy390⟩:∃ y_:List Int,y_=(aq ++ ai):=⟨_,rfl⟩
       replace H:(if al.length<17592186044416 then ((some (al ++ [a1]:List Int)).bind fun aj=>((some (l0.drop (aa:Int).toNat:List Int)).bind fun ae=>(if aj.length+ae.length<17592186044416 then (some (aj ++ ae)) else (none)))) else (none))=some r:=by first | (rw [hy390];with_reducible exact H) | (have H2_:=(Option.bind_some _ _).symm.trans H;rw [hy390];with_reducible exact H2_) | (have H2_:=(Option.bind_some _ _).symm.trans H;with_reducible exact H2_) | with_reducible exact H | (rw [hy390];exact H) | exact H
       have aT:=am_ hy390
       clear hy390
       by_cases c27:al.length<17592186044416
       ·rw [if_pos c27] at H
        have LMc27:=am_ c27
        clear c27
        obtain ⟨aj,hy393⟩:∃ y_:List Int,y_=(al ++ [a1]):=⟨_,rfl⟩
        replace H:((some (l0.drop (aa:Int).toNat:List Int)).bind fun ae=>(if aj.length+ae.length<17592186044416 then (some (aj ++ ae)) else (none)))=some r:=by first | (rw [hy393];with_reducible exact H) | (have H2_:=(Option.bind_some _ _).symm.trans H;rw [hy393];with_reducible exact H2_) | (have H2_:=(Option.bind_some _ _).symm.trans H;with_reducible exact H2_) | with_reducible exact H | (rw [hy393];exact H) | exact H
        have aU:=am_ hy393
        clear hy393
        have c28b0:=eq_true (of_decide_eq_true ah_:0≤aa)
        have c29b0:=eq_true (of_decide_eq_true ah_:aa≤(l0.length:Int))
        obtain ⟨ae,hy396⟩:∃ y_:List Int,y_=(l0.drop (aa:Int).toNat):=⟨_,rfl⟩
        replace H:(if aj.length+ae.length<17592186044416 then (some (aj ++ ae)) else (none))=some r:=by first | (rw [hy396];with_reducible exact H) | (have H2_:=(Option.bind_some _ _).symm.trans H;rw [hy396];with_reducible exact H2_) | (have H2_:=(Option.bind_some _ _).symm.trans H;with_reducible exact H2_) | with_reducible exact H | (rw [hy396];exact H) | exact H
        have aC:=am_ hy396
        clear hy396
        by_cases c30:aj.length+ae.length<17592186044416
        ·rw [if_pos c30] at H
         have LMc30:=am_ c30
         clear c30
         obtain ⟨bc,hy400⟩:∃ y_:List Int,y_=(aj ++ ae):=⟨_,rfl⟩
         replace H:(some bc)=some r:=by first | (rw [hy400];with_reducible exact H) | (have H2_:=(Option.bind_some _ _).symm.trans H;rw [hy400];with_reducible exact H2_) | (have H2_:=(Option.bind_some _ _).symm.trans H;with_reducible exact H2_) | with_reducible exact H | (rw [hy400];exact H) | exact H
         have aV:=am_ hy400
         clear hy400
         obtain rfl:=Option.some.inj H
         simp only [Option.some.injEq,Prod.mk.injEq] at H
         obtain ⟨rfl⟩:=H
         obtain ⟨an,ao,bd⟩:=Kd.R_slice ab.out
         subst bd
         go_wp2_with (first | ((with_reducible refine gate_dst (N:=34) rfl ?_);refine Kd.R_lit (Kd.int .i64) _ 3 ?hg (N:=34) ?hd (xs:=([]:List Int)) (inner:=[]) (ok:=fun _=>True) (okp:=fun _=>True) ?hr ?hp (fun _ hk=>hk) trivial (Below.refl _ _) (Nat.le_refl _) (by simp) ?_;(case hd=>rfl);(case hg=>rfl);(case hr=>first | (go_simp;done) | (go_simp;rfl));(case hp=>exact (Reps.none _ _));intro be w32 ho33 hb hg_ hnew_;clear hg_ hnew_;(first | rw [← aI.out] at ho33 | (simp only [Int.reduceToNat] at ho33;rw [← aI.out] at ho33));have n0_:=am_ (Kd.R_elder' (rr_ ab.out) (Kd.R_base ho33) hb);have n1_:=am_ (Kd.R_lower (Kd.R_new' (Kd.R_newM (M:=fun k_=>(P0_ k_∨w.heap.size≤k_)) ho33 (by first | exact HK.out.1 | exact (show Kept w _ (fun k_=>P0_ k_) from by exact zp26_0_ HK.out).1) (fun k_ h_=>.inr h_)) (Kd.R_lt (rr_ ab.out))) (below_size (b0_ HB.out)));have n2_:=am_ (Kept.below (S:=(fun k_=>P0_ k_)) (zp26_0_ HK.out) hb);have n3_:=am_ (below_step (b0_ HB.out) hb);clear ab;clear HK;clear HB;have ab:=n0_;have aD:=n1_;have HK:=n2_;have HB:=n3_;clear n0_ n1_ n2_ n3_;clear hb ho33;have q34:(aa:Int)≤((l0.length:Int):Int):=of_decide_eq_true ah_;obtain ⟨i034,hi034,_,hsz34,_⟩:=info_parts info3;have hroom34:l0.length≤ao:=(Kd.R_reads' ab.out).2.1;have hC34:Kd.C (Kd.int .i64) _ an l0.length l0:=(Kd.R_reads' ab.out).2.2;have hcut34:=cut_to (P:=Try.prog) 67 3 .i64 Try.underlying67 hi034 an l0.length ao aa (of_decide_eq_true ah_) q34 hroom34;have hr34:=Kd.C_take (m:=(aa:Int).toNat) hC34 (by omega);have hy34:ai.length=(aa:Int).toNat:=(by rw [au.out,List.length_take];omega);rw [← au.out] at hr34;rw [← hy34] at hcut34;have HR389:=am_ hr34;have HC389:=am_ (show ai.length≤ao from by omega);clear hr34 hC34 hroom34 hi034 hsz34;have KY34:=am_ hy34;clear hy34;have KL34:=am_ (show (aa:Int).toNat≤l0.length from by omega);replace q34:=eq_true q34) | ((with_reducible refine gate_builtin (b:=.append) (xs:=#[.tmp 34,.tmp 37]) rfl ?_);at_builtin;refine Kd.R_append_rows (Kd.int .i64) (w0:=w0) w0.heap.size rfl (.tmp 34) (.tmp 37) 67 3 (.int .i64 0) 8 rfl Try.underlying67 info3 rfl (by decide) (by omega) be aq ai _ _ _ (fun k_=>(P0_ k_∨w.heap.size≤k_)∧some k_ ≠ (.slice an l0.length ao:Value).ownBlock) (fun _=>False) rfl rfl ?aO ?aR (fun _ _ h=>h) (fun _ h=>h.elim) ?aF ?aB ?aS ?aL ?_;(case aR=>exact rc_ (by repeat (first | (with_reducible exact HR389.out) | (with_reducible refine Kd.C_alloc ?_ _) | (with_reducible refine Kd.C_drewN ?_ _) | (with_reducible refine Kd.C_drew ?_) | exact HR389.out)));(case aB=>exact (b0_ HB.out));(case aF=>exact (fun k_ hk=>⟨(.inr (Nat.le_trans (by first | exact HK.out.1 | exact (show Kept w _ (fun k_=>P0_ k_) from by exact zp26_0_ HK.out).1) hk)),Kd.fresh' (Kd.R_lt (rr_ ab.out)) k_ hk⟩));(case aO=>exact (by refine rr_ ?_;exact Kd.R_mono aD.out (fun _ hk=>⟨hk.1.1,hk.2⟩)));(case aS=>exact (below_size (b0_ HB.out)));(case aL=>have:=LMc26.out;omega);intro bf w35 ho hb hg hat;rw [← aT.out] at ho;have n0_:=am_ (Kd.R_after (ok:=(fun k_=>(P0_ k_∨w.heap.size≤k_))) (rr_ ab.out) hg hat);have n1_:=am_ (hb);have n2_:=am_ (Kept.of_grown (S:=(fun k_=>P0_ k_)) hg (zp26_0_ HK.out) (fun k_ e_=>(aD.out.1 k_ e_).1.1));have n3_:=am_ ((show Kd.C (Kd.int .i64) w35 an ai.length ai from by rw [au.out];exact Kd.C_take (m:=(aa:Int).toNat) ((Kd.R_reads' (Kd.R_after (ok:=(fun k_=>(P0_ k_∨w.heap.size≤k_))) (rr_ ab.out) hg hat)).2.2) KL34.out));have n4_:=am_ (ho);clear ab;clear HB;clear HK;clear HR389;clear aD;have ab:=n0_;have HB:=n1_;have HK:=n2_;have HR389:=n3_;have aE:=n4_;clear n0_ n1_ n2_ n3_ n4_;clear ho hb hg hat) | ((with_reducible refine gate_builtin (b:=.append) (xs:=#[.tmp 39,.tmp 41]) rfl ?_);at_builtin;refine Kd.R_append (Kd.int .i64) (w0:=w0) w0.heap.size rfl (.tmp 39) (.tmp 41) 67 3 (.int .i64 0) 8 rfl Try.underlying67 info3 rfl (by decide) (by omega) bf al a1 [.int .i64 a1] (fun k_=>(P0_ k_∨w.heap.size≤k_)∧some k_ ≠ (.slice an l0.length ao:Value).ownBlock) (fun _=>False) rfl rfl ?aP (fun _ hk=>hk.elim) ?aF ?aO ?aB ?aS ?aL ?_;(case aP=>exact rfl);(case aB=>exact (b0_ HB.out));(case aF=>exact (fun k_ hk=>⟨(.inr (Nat.le_trans (by first | exact HK.out.1 | exact (show Kept w _ (fun k_=>P0_ k_) from by exact zp26_0_ HK.out).1) hk)),Kd.fresh' (Kd.R_lt (rr_ ab.out)) k_ hk⟩));(case aO=>exact (rr_ aE.out));(case aS=>exact (below_size (b0_ HB.out)));(case aL=>have:=LMc27.out;omega);intro bg w36 ho hb hg hat;rw [← aU.out] at ho;have n0_:=am_ (Kd.R_after (ok:=(fun k_=>(P0_ k_∨w.heap.size≤k_))) (rr_ ab.out) hg hat);have n1_:=am_ (hb);have n2_:=am_ (Kept.of_grown (S:=(fun k_=>P0_ k_)) hg (zp26_0_ HK.out) (fun k_ e_=>(aE.out.1 k_ e_).1));have n3_:=am_ ((show Kd.C (Kd.int .i64) w36 an ai.length ai from by rw [au.out];exact Kd.C_take (m:=(aa:Int).toNat) ((Kd.R_reads' (Kd.R_after (ok:=(fun k_=>(P0_ k_∨w.heap.size≤k_))) (rr_ ab.out) hg hat)).2.2) KL34.out));have n4_:=am_ (ho);clear ab;clear HB;clear HK;clear HR389;clear aE;have ab:=n0_;have HB:=n1_;have HK:=n2_;have HR389:=n3_;have aG:=n4_;clear n0_ n1_ n2_ n3_ n4_;clear ho hb hg hat;have q37:(aa:Int)≤((l0.length:Int):Int):=of_decide_eq_true ah_;obtain ⟨i037,hi037,_,hsz37,_⟩:=info_parts info3;have hroom37:l0.length≤ao:=(Kd.R_reads' ab.out).2.1;have hC37:Kd.C (Kd.int .i64) _ an l0.length l0:=(Kd.R_reads' ab.out).2.2;have q037:(0:Int)≤(aa:Int):=of_decide_eq_true ah_;have hcut37:=cut_from (P:=Try.prog) 67 3 .i64 Try.underlying67 hi037 1 hsz37 an l0.length ao aa q037 q37;have hr37:=Kd.C_drop (m:=(aa:Int).toNat) (c:=ao) hC37 (by omega) hroom37;obtain ⟨A37,hA37⟩:∃ A1,A1=(if ao=(aa:Int).toNat then an else (an:Option Addr).map (·.add ((aa:Int).toNat * 1))):=⟨_,rfl⟩;obtain ⟨c37,hc37⟩:∃ c1,c1=ao - (aa:Int).toNat:=⟨_,rfl⟩;have hy37:ae.length=l0.length - (aa:Int).toNat:=(by rw [aC.out,List.length_drop] <;> omega);rw [show (l0).drop (aa:Int).toNat=ae from aC.out.symm] at hr37;replace hr37:Kd.C (Kd.int .i64) _ A37 ae.length ae:=(by rw [hA37];exact hr37);rw [← hy37,← hA37,← hc37] at hcut37;have HR399:=am_ hr37;have HC399:=am_ (show ae.length≤c37 from by rw [hy37,hc37];exact Nat.sub_le_sub_right hroom37 _);clear hr37 hC37 hroom37 hi037 hsz37 hc37;have KY37:=am_ hy37;have KA37:=am_ hA37;clear hy37 hA37;have KL37:=am_ (show (aa:Int).toNat≤l0.length from by omega);replace q37:=eq_true q37) | ((with_reducible refine gate_builtin (b:=.append) (xs:=#[.tmp 43,.tmp 46]) rfl ?_);at_builtin;refine Kd.R_append_rows (Kd.int .i64) (w0:=w0) w0.heap.size rfl (.tmp 43) (.tmp 46) 67 3 (.int .i64 0) 8 rfl Try.underlying67 info3 rfl (by decide) (by omega) bg aj ae _ _ _ (fun k_=>(P0_ k_∨w.heap.size≤k_)∧some k_ ≠ (.slice an l0.length ao:Value).ownBlock) (fun _=>False) rfl rfl ?aO ?aR (fun _ _ h=>h) (fun _ h=>h.elim) ?aF ?aB ?aS ?aL ?_;(case aR=>exact rc_ (by repeat (first | (with_reducible exact HR399.out) | (with_reducible refine Kd.C_alloc ?_ _) | (with_reducible refine Kd.C_drewN ?_ _) | (with_reducible refine Kd.C_drew ?_) | exact HR399.out)));(case aB=>exact (b0_ HB.out));(case aF=>exact (fun k_ hk=>⟨(.inr (Nat.le_trans (by first | exact HK.out.1 | exact (show Kept w _ (fun k_=>P0_ k_) from by exact zp26_0_ HK.out).1) hk)),Kd.fresh' (Kd.R_lt (rr_ ab.out)) k_ hk⟩));(case aO=>exact (rr_ aG.out));(case aS=>exact (below_size (b0_ HB.out)));(case aL=>have:=LMc30.out;omega);intro bj w38 ho hb hg hat;rw [← aV.out] at ho;have n0_:=am_ (Kd.R_after (ok:=(fun k_=>(P0_ k_∨w.heap.size≤k_))) (rr_ ab.out) hg hat);have n1_:=am_ (hb);have n2_:=am_ (Kept.of_grown (S:=(fun k_=>P0_ k_)) hg (zp26_0_ HK.out) (fun k_ e_=>(aG.out.1 k_ e_).1));have n3_:=am_ ((show Kd.C (Kd.int .i64) w38 an ai.length ai from by rw [au.out];exact Kd.C_take (m:=(aa:Int).toNat) ((Kd.R_reads' (Kd.R_after (ok:=(fun k_=>(P0_ k_∨w.heap.size≤k_))) (rr_ ab.out) hg hat)).2.2) KL34.out));have n4_:=am_ ((show Kd.C (Kd.int .i64) w38 A37 ae.length ae from by rw [aC.out,KA37.out];exact Kd.C_drop (m:=(aa:Int).toNat) (c:=ao) ((Kd.R_reads' (Kd.R_after (ok:=(fun k_=>(P0_ k_∨w.heap.size≤k_))) (rr_ ab.out) hg hat)).2.2) KL37.out ((Kd.R_reads' (Kd.R_after (ok:=(fun k_=>(P0_ k_∨w.heap.size≤k_))) (rr_ ab.out) hg hat)).2.1)));have n5_:=am_ (ho);clear ab;clear HB;clear HK;clear HR389;clear HR399;clear aG;have ab:=n0_;have HB:=n1_;have HK:=n2_;have HR389:=n3_;have HR399:=n4_;have aW:=n5_;clear n0_ n1_ n2_ n3_ n4_ n5_;clear ho hb hg hat))
         go_ret
         exact ⟨_,by first | rfl | (simp [errW_none,errW_some] <;> rfl) | (simp [*,errW_none,errW_some] <;> rfl),by refine rr_ ?_;exact Kd.R_mono aW.out (fun _ hk=>hk.1),by exact zp26_1_ HB.out,by exact zp26_0_ HK.out⟩
        ·rw [if_neg c30] at H
         exact absurd H (by simp)
       ·rw [if_neg c27] at H
        exact absurd H (by simp)
      ·rw [if_neg c26] at H
       exact absurd H (by simp)
     ·rw [if_neg c25] at H
      exact absurd H (by simp)
    ·rw [if_neg c24] at H
     exact absurd H (by simp)
end Go.Proofs.Ytogamkblkoobkaa.P
end
section
namespace Go.Proofs.Ytogamkblkoobkaa.P
open Go.RowKit Go.Proofs.YtogamkblkoobkaaW.PrintWords Go.Proofs.YtogamkblkoobkaaW.PrintLast Go.Proofs.YtogamkblkoobkaaW.PrintMore
attribute [local go_sem] max2_int min2_int max_two min_two max_three min_three max_four min_four
def spec_l6Move.l0:Nat→List Int→Int→List Int→Int→List Bool→List (List Int)→Option (List Int)
 | 0,_,_,_,_,_,_=>none
 | k+1,x1,x2,x7,x8,bj,aD=>if x8<(x1.length:Int) then (if 0≤x8 then (if 0≤(rd x1 x8) then (if (rd x1 x8)<(aD.length:Int) then (if 0≤x2 then (if x2<((rd_L1 aD (rd x1 x8)).length:Int) then ((spec_l6Put.f k x7 (rd (rd_L1 aD (rd x1 x8)) x2)).bind fun aU=>(spec_l6Move.l0 k x1 x2 aU (wrap64 (x8+1)) bj aD)) else (none)) else (none)) else (none)) else (none)) else (none)) else (some x7)
def spec_l6Move.f (k:Nat) (l0_0:List Bool) (l0_1:List (List Int)) (l1:List Int) (a2:Int):Option (List Int):=spec_l6Move.l0 k l1 a2 (([]:List Int)) 0 l0_0 l0_1
theorem spec_l6Move.mono_l:∀ k,(∀ y0 y1 y2 y3 y4 y5,LeO (spec_l6Move.l0 k y0 y1 y2 y3 y4 y5) (spec_l6Move.l0 (k+1) y0 y1 y2 y3 y4 y5))
 | 0=>fun _ _ _ _ _ _ r h=>by simp [spec_l6Move.l0] at h
 | k+1=>by
  have ih0:=spec_l6Move.mono_l k
  ·intro y0 y1 y2 y3 y4 y5
   unfold spec_l6Move.l0
   repeat' first
   | (with_reducible exact ih0 _ _ _ _ _ _)
   | (with_reducible exact spec_l6Put.mono _ _ _)
   | (with_reducible exact LeO.refl _)
   | (with_reducible exact LeO.none _)
   | (with_reducible refine LeO.ite ?_ ?_)
   | (with_reducible refine LeO.bind ?_ (fun _=>?_))
   | exact ih0 _ _ _ _ _ _
   | exact spec_l6Put.mono _ _ _
   | exact LeO.none _
   | refine LeO.ite ?_ ?_
   | refine LeO.bind ?_ (fun _=>?_)
theorem spec_l6Move.mono:∀ a0 a1 a2 a3 k,LeO (spec_l6Move.f k a0 a1 a2 a3) (spec_l6Move.f (k+1) a0 a1 a2 a3):=by
 intro a0 a1 a2 a3 k
 have ih0:=spec_l6Move.mono_l k
 unfold spec_l6Move.f
 repeat' first
  | (with_reducible exact ih0 _ _ _ _ _ _)
  | (with_reducible exact spec_l6Put.mono _ _ _)
  | (with_reducible exact LeO.refl _)
  | (with_reducible exact LeO.none _)
  | (with_reducible refine LeO.ite ?_ ?_)
  | (with_reducible refine LeO.bind ?_ (fun _=>?_))
  | exact ih0 _ _ _ _ _ _
  | exact spec_l6Put.mono _ _ _
  | exact LeO.none _
  | refine LeO.ite ?_ ?_
  | refine LeO.bind ?_ (fun _=>?_)
def spec_l6Move.T5:Bool × List (List Nat × List Nat):=(true,[([],[]),([],[]),([1],[1]),([],[]),([],[]),([3,4],[3,4]),([5],[5]),([2,6],[2,6]),([7],[7]),([],[]),([8,9],[8,9]),([10],[10]),([0,11],[0,11]),([12,12,0,1,2,3,4,5,6,7,8,9,10,11,12],[0,12])])
def spec_l6Move.B5:List Nat:=[0,0,2,0,0,24,56,126,254,0,1022,2046,4095,8191]
theorem spec_l6Move.tab5:rtab .any (opsOf Try.f73 5)=spec_l6Move.T5:=by kernel_rfl
theorem spec_l6Move.bits5:waitsOk spec_l6Move.T5.2 spec_l6Move.B5=true:=by kernel_rfl
theorem zp27_0_ {p q g1:Prop} (h:p) (h1:g1) (c:p→g1→q:=by intro h_ h1_;repeat (first | (with_reducible first | exact h_ | apply below_alloc | apply pw_below_drewN | apply below_drew1 | refine below_set ?_ h1_) | exact h_)):q:=c h h1
set_option maxHeartbeats 8000000 in
set_option maxRecDepth 100000 in
theorem spec_l6Move.calls (k:Nat) (A0_0:Option Addr) (c0_0:Nat) (l0_0:List Bool) (A0_1:Option Addr) (c0_1:Nat) (l0_1:List (List Int)) (A1:Option Addr) (c1:Nat) (l1:List Int) (a2:Int) (r:List Int) (w:World) (hr0_0:Kd.C Kd.bool w A0_0 l0_0.length l0_0) (hc0_0:l0_0.length≤c0_0) (hr0_1:Kd.C (Kd.slice 3 (Kd.int .i64)) w A0_1 l0_1.length l0_1) (hc0_1:l0_1.length≤c0_1) (hr1:Kd.C (Kd.int .i64) w A1 l1.length l1) (hc1:l1.length≤c1) (h:spec_l6Move.f k l0_0 l0_1 l1 a2=some r) :
  Calls Try.prog 73 #[.agg #[.slice A0_0 l0_0.length c0_0,.slice A0_1 l0_1.length c0_1],.slice A1 l1.length c1,.int .i64 a2] w fun e w'=>∃ v0_:Value,e = .returned (v0_)∧Kd.R (Kd.int .i64) 3 w' w.heap.size (fun _=>True) v0_ r∧Below w.heap.size w w':=by
 have hu27:=Try.underlying27
 have aY:=am_ hr0_0
 have bA:=am_ hc0_0
 clear hr0_0 hc0_0
 have bd:=am_ hr0_1
 have bB:=am_ hc0_1
 clear hr0_1 hc0_1
 have HR1:=am_ hr1
 have HC1:=am_ hc1
 clear hr1 hc1
 have HB:=am_ (Below.refl w.heap.size w)
 have H:(spec_l6Move.l0 k l1 a2 (([]:List Int)) 0 l0_0 l0_1)=some r:=h
 clear h
 obtain ⟨bw,hy404⟩:∃ y_:List Int,y_=(([]:List Int)):=⟨_,rfl⟩
 replace H:(spec_l6Move.l0 k l1 a2 bw 0 l0_0 l0_1)=some r:=by first | (rw [hy404];with_reducible exact H) | (have H2_:=(Option.bind_some _ _).symm.trans H;rw [hy404];with_reducible exact H2_) | (have H2_:=(Option.bind_some _ _).symm.trans H;with_reducible exact H2_) | with_reducible exact H | (rw [hy404];exact H) | exact H
 have be:=am_ hy404
 clear hy404
 have H':=am_ H
 clear H
 go_enter Try.func73,Try.ntmps73
 go_wp2_with (first | ((with_reducible refine gate_dst (N:=3) rfl ?_);refine box_event ?hg (N:=3) ?hd (cs:=#[.slice A0_0 l0_0.length c0_0,.slice A0_1 l0_1.length c0_1]) (t:=27) ?hr ?_;(case hd=>rfl);(case hg=>rfl);(case hr=>first | (go_simp;done) | (go_simp;rfl));intro aP hg w4 hbox hb;replace ai:=am_ (hbox);replace ca:=am_ ((by rw [hg];exact (below_size (b0_ HB.out)):w.heap.size≤aP));replace aE:=am_ ((by rw [hg];exact (below_size (b0_ HB.out)):w.heap.size≤aP));replace HB:=am_ (below_step (b0_ HB.out) hb);clear hb hbox hg) | ((with_reducible refine gate_dst (N:=9) rfl ?_);refine Kd.R_lit (Kd.int .i64) _ 3 ?hg (N:=9) ?hd (xs:=([]:List Int)) (inner:=[]) (ok:=fun _=>True) (okp:=fun _=>True) ?hr ?hp (fun _ hk=>hk) trivial (Below.refl _ _) (Nat.le_refl _) (by simp) ?_;(case hd=>rfl);(case hg=>rfl);(case hr=>first | (go_simp;done) | (go_simp;rfl));(case hp=>exact (Reps.none _ _));intro cb w5 ho6 hb hg_ hnew_;clear hg_ hnew_;(first | rw [← be.out] at ho6 | (simp only [Int.reduceToNat] at ho6;rw [← be.out] at ho6));have n0_:=am_ (Kd.R_lower ho6 (below_size (b1_ HB.out aE.out)));have n1_:=am_ (blk_below (rb_ ai.out) hb);have n2_:=am_ (below_step (b1_ HB.out aE.out) hb);clear ai;clear HB;have bC:=n0_;have ai:=n1_;have HB:=n2_;clear n0_ n1_ n2_;clear hb ho6))
 go_loopg [7,8] k (fun kq v7 v8 w'=>∃ (aO:List Int) (ae:Int),v8 = .int .i64 ae∧Aside0 (spec_l6Move.l0 kq l1 a2 aO ae l0_0 l0_1=some r)∧Aside0 (kq≤k)∧Aside0 (Kd.R (Kd.int .i64) 3 w' w.heap.size (fun _=>True) v7 aO)∧Aside0 (w'.heap[aP]? = some (.cells #[(.slice A0_0 l0_0.length c0_0),(.slice A0_1 l0_1.length c0_1)] 27 (0,0)))∧Aside0 (Below w.heap.size w w'))
 case atStart=>exact ⟨(bw),(0),(by first | rfl | (simp;done) | (simp [*];done)),H',⟨Nat.le_refl _⟩,⟨by refine rr_ ?_;exact bC.out⟩,⟨by refine rb_ ?_;exact ai.out⟩,⟨by exact zp27_0_ HB.out aE.out⟩⟩
 case round =>
  clear H'
  try clear c1
  try clear p2
  obtain ⟨aO,ae,rfl,HA,HK1,aC,ai,HB⟩:=hrel
  cases gk with
  | zero=>exact absurd HA.out (by simp [spec_l6Move.l0])
  | succ k1 =>
   have H:=HA.out
   clear HA
   simp only [spec_l6Move.l0] at H
   by_cases c7:ae<(l1.length:Int)
   ·rw [if_pos c7] at H
    have c7b0:decide (ae<(l1.length:Int))=true:=decide_eq_true c7
    clear c7
    by_cases c8:0≤ae
    ·rw [if_pos c8] at H
     have c8b0:decide (0≤ae)=true:=decide_eq_true c8
     clear c8
     by_cases c9:0≤(rd l1 ae)
     ·rw [if_pos c9] at H
      have c9b0:decide (0≤(rd l1 ae))=true:=decide_eq_true c9
      clear c9
      by_cases c10:(rd l1 ae)<(l0_1.length:Int)
      ·rw [if_pos c10] at H
       have c10b0:decide ((rd l1 ae)<(l0_1.length:Int))=true:=decide_eq_true c10
       clear c10
       by_cases c11:0≤a2
       ·rw [if_pos c11] at H
        have c11b0:decide (0≤a2)=true:=decide_eq_true c11
        clear c11
        by_cases c12:a2<((rd_L1 l0_1 (rd l1 ae)).length:Int)
        ·rw [if_pos c12] at H
         have c12b0:decide (a2<((rd_L1 l0_1 (rd l1 ae)).length:Int))=true:=decide_eq_true c12
         clear c12
         replace H:=Option.bind_eq_some_iff.mp H
         obtain ⟨aU,bx,H⟩:=H
         replace H:(spec_l6Move.l0 k1 l1 a2 aU (wrap64 (ae+1)) l0_0 l0_1)=some r:=H
         have A13:=am_ bx
         clear bx
         have H':=am_ H
         clear H
         try go_wp2
         replace aC:=am_ (Kd.R_drew aC.out)
         replace ai:=am_ (blk_drew ai.out)
         replace HB:=am_ (below_drew1 HB.out)
         have p407:0≤(ae:Int):=of_decide_eq_true ah_
         have q407:ae<(l1.length:Int):=of_decide_eq_true ah_
         obtain ⟨bD,e407,az⟩:=Kd.at_int HR1.out ae p407 q407
         have aF:=az
         cases e407
         replace az:=(HB.out.cell (World.block_lt_of_cell? w _ az)).trans az
         replace p407:=eq_true p407
         replace q407:=eq_true q407
         have p408:0≤((rd l1 ae):Int):=of_decide_eq_true ah_
         have q408:(rd l1 ae)<(l0_1.length:Int):=of_decide_eq_true ah_
         obtain ⟨bf,A408_0,c408_0,e408,aA,hl408_0,hi408_0⟩:=at_L1 bd.out (rd l1 ae) p408 q408
         have aG:=aA
         cases e408
         replace aA:=(HB.out.cell (World.block_lt_of_cell? w _ aA)).trans aA
         have aV:=am_ hi408_0
         have bJ:=am_ hl408_0
         clear hi408_0 hl408_0
         replace p408:=eq_true p408
         replace q408:=eq_true q408
         have p409:0≤(a2:Int):=of_decide_eq_true ah_
         have q409:a2<((rd_L1 l0_1 (rd l1 ae)).length:Int):=of_decide_eq_true ah_
         obtain ⟨bg,e409,aB⟩:=Kd.at_int aV.out a2 p409 q409
         have aH:=aB
         cases e409
         replace aB:=(HB.out.cell (World.block_lt_of_cell? w _ aB)).trans aB
         replace p409:=eq_true p409
         replace q409:=eq_true q409
         obtain ⟨ba,bb,bz⟩:=Kd.R_slice aC.out
         (first | subst bz | (injection bz with f1_ f2_ f3_;have f4_:=f1_.symm;have f5_:=f3_.symm;clear f1_ f2_ f3_;subst f4_;subst f5_))
         refine start_ (n:=14) (S:=fun w'=>w'.cell? ⟨aP,0,none⟩=some (.slice A0_0 l0_0.length c0_0)∧w'.cell? ⟨aP,1,none⟩=some (.slice (some bf) l0_1.length c0_1)∧w'.cell? (bD.add (ae).toNat)=some (.int .i64 (rd l1 ae))∧w'.cell? (bf.add ((rd l1 ae)).toNat)=some (.slice (some bg) (rd_L1 l0_1 (rd l1 ae)).length c408_0)∧w'.cell? (bg.add (a2).toNat)=some (.int .i64 (rd (rd_L1 l0_1 (rd l1 ae)) a2))) (ds:=[]) (bl 14 0) (by kernel_rfl) rfl rfl ⟨(blk_cell ai.out 0).trans rfl,(blk_cell ai.out 1).trans rfl,((HB.out.cell (World.block_lt_of_cell? w _ aF)).trans aF),((HB.out.cell (World.block_lt_of_cell? w _ aG)).trans aG),((HB.out.cell (World.block_lt_of_cell? w _ aH)).trans aH)⟩ (fun hHeld=>?_);refine with_tabW spec_l6Move.tab5 spec_l6Move.bits5 (fun HT_ HW_=>?_)
         generalize wr.drew=w14 at aC ai HB aV az aA aB hHeld ⊢
         refine pu_ 0 16 (bl 14 1) HT_ ?_
         refine pu_ 1 17 (bl 14 3) HT_ ?_
         refine pu_ 3 19 (bl 14 11) HT_ ?_
         refine pu_ 4 20 (bl 14 27) HT_ ?_
         refine pu_ 5 21 (bl 14 59) HT_ ?_
         refine pu_ 9 25 (bl 14 571) HT_ ?_
         refine tk_ 2 18 (bl 14 575) HT_ HW_ hHeld ?_
         refine tk_ 6 22 (bl 14 639) HT_ HW_ hHeld ?_
         refine pu_ 7 23 (bl 14 767) HT_ ?_
         refine tk_ 8 24 (bl 14 1023) HT_ HW_ hHeld ?_
         refine pu_ 10 26 (bl 14 2047) HT_ ?_
         refine tk_ 11 27 (bl 14 4095) HT_ HW_ hHeld ?_
         refine on_ 12 (some 28) (bl 14 8191) HT_ (fun K hK=>?_)
         refine gO_ Try.func74 #[.slice ba aO.length bb,.int .i64 (rd (rd_L1 l0_1 (rd l1 ae)) a2)] ?_
         with_reducible refine (spec_l6Put.calls k1 (fun k_=>some k_=(.slice ba aO.length bb:Value).ownBlock) (.slice ba aO.length bb) aO (rd (rd_L1 l0_1 (rd l1 ae)) a2) aU w _ ?side1 ?side2 A13.out).mono ?_
         (case side1=>exact zp27_0_ HB.out aE.out)
         (case side2=>exact Kd.R_tight rfl aC.out)
         rintro e w16 ⟨cc,rfl,ho0,hb,hkp⟩
         refine ⟨_,rfl,?_⟩
         replace ai:=am_ (blk_kept (rb_ ai.out) hkp (fun hs_=>(fun e_=>(Kd.R_ne aC.out ai.out (by decide)) e_) hs_))
         replace bE:=am_ (Kd.R_mono (ok':=fun k_=>True) ho0 (fun k_ hk_=>trivial))
         replace HB:=am_ (hb)
         clear aC
         (try clear hb)
         (try clear hkp)
         (try clear ho0)
         refine hK.out _ _ ⟨(blk_cell ai.out 0).trans rfl,(blk_cell ai.out 1).trans rfl,((HB.out.cell (World.block_lt_of_cell? w _ aF)).trans aF),((HB.out.cell (World.block_lt_of_cell? w _ aG)).trans aG),((HB.out.cell (World.block_lt_of_cell? w _ aH)).trans aH)⟩ (fun hHeld=>?_)
         clear hK K
         refine norm_ (a':=?_) ?_ ?_
         rotate_left
         ·show Act.put _ (some 28) _=_
          simp only [pn_,sz_,ss_,i64_w,i32_w]
          rfl
         refine pu_ 13 7 (bl 14 16383) HT_ ?_
         refine done_ (done_of HT_.out (by kernel_rfl)) ?_
         try go_wp2
         go_roundg k1
         case measure=>have:=HK1.out;omega
         case rel=>exact ⟨(aU),(wrap64 (ae+1)),(by first | rfl | (simp;done) | (simp [*];done)),H',⟨by have:=HK1.out;omega⟩,⟨by refine rr_ ?_;exact bE.out⟩,⟨by refine rb_ ?_;exact ai.out⟩,⟨by exact zp27_0_ HB.out aE.out⟩⟩
        ·rw [if_neg c12] at H
         exact absurd H (by simp)
       ·rw [if_neg c11] at H
        exact absurd H (by simp)
      ·rw [if_neg c10] at H
       exact absurd H (by simp)
     ·rw [if_neg c9] at H
      exact absurd H (by simp)
    ·rw [if_neg c8] at H
     exact absurd H (by simp)
   ·rw [if_neg c7] at H
    have c7b0:decide (ae<(l1.length:Int))=false:=decide_eq_false c7
    clear c7
    obtain rfl:=Option.some.inj H
    simp only [Option.some.injEq,Prod.mk.injEq] at H
    obtain ⟨rfl⟩:=H
    go_wp2
    go_ret
    exact ⟨_,by first | rfl | (simp [errW_none,errW_some] <;> rfl) | (simp [*,errW_none,errW_some] <;> rfl),by refine rr_ ?_;exact aC.out,by exact zp27_0_ HB.out aE.out⟩
def spec_l5Ints.l0:Nat→List Int→List Int→Int→Option (Bool)
 | 0,_,_,_=>none
 | k+1,x0,x1,x5=>if x5<(x0.length:Int) then (if 0≤x5 then (if x5<(x1.length:Int) then (if (rd x0 x5)=(rd x1 x5) then (spec_l5Ints.l0 k x0 x1 (wrap64 (x5+1))) else (some false)) else (none)) else (none)) else (some true)
def spec_l5Ints.f (k:Nat) (l0:List Int) (l1:List Int):Option (Bool):=if (l0.length:Int)=(l1.length:Int) then (spec_l5Ints.l0 k l0 l1 0) else (some false)
theorem spec_l5Ints.mono_l:∀ k,(∀ y0 y1 y2,LeO (spec_l5Ints.l0 k y0 y1 y2) (spec_l5Ints.l0 (k+1) y0 y1 y2))
 | 0=>fun _ _ _ r h=>by simp [spec_l5Ints.l0] at h
 | k+1=>by
  have ih0:=spec_l5Ints.mono_l k
  ·intro y0 y1 y2
   unfold spec_l5Ints.l0
   repeat' first
   | (with_reducible exact ih0 _ _ _)
   | (with_reducible exact LeO.refl _)
   | (with_reducible exact LeO.none _)
   | (with_reducible refine LeO.ite ?_ ?_)
   | (with_reducible refine LeO.bind ?_ (fun _=>?_))
   | exact ih0 _ _ _
   | exact LeO.none _
   | refine LeO.ite ?_ ?_
   | refine LeO.bind ?_ (fun _=>?_)
theorem spec_l5Ints.mono:∀ a0 a1 k,LeO (spec_l5Ints.f k a0 a1) (spec_l5Ints.f (k+1) a0 a1):=by
 intro a0 a1 k
 have ih0:=spec_l5Ints.mono_l k
 unfold spec_l5Ints.f
 repeat' first
  | (with_reducible exact ih0 _ _ _)
  | (with_reducible exact LeO.refl _)
  | (with_reducible exact LeO.none _)
  | (with_reducible refine LeO.ite ?_ ?_)
  | (with_reducible refine LeO.bind ?_ (fun _=>?_))
  | exact ih0 _ _ _
  | exact LeO.none _
  | refine LeO.ite ?_ ?_
  | refine LeO.bind ?_ (fun _=>?_)
set_option maxHeartbeats 8000000 in
set_option maxRecDepth 100000 in
theorem spec_l5Ints.calls (k:Nat) (A0:Option Addr) (c0:Nat) (l0:List Int) (A1:Option Addr) (c1:Nat) (l1:List Int) (r:Bool) (w:World) (hr0:Kd.C (Kd.int .i64) w A0 l0.length l0) (hc0:l0.length≤c0) (hr1:Kd.C (Kd.int .i64) w A1 l1.length l1) (hc1:l1.length≤c1) (h:spec_l5Ints.f k l0 l1=some r) :
  Calls Try.prog 93 #[.slice A0 l0.length c0,.slice A1 l1.length c1] w fun e w'=>e = .returned (.bool r)∧Drawn0 w w':=by
 have HR0:=am_ hr0
 have HC0:=am_ hc0
 clear hr0 hc0
 have HR1:=am_ hr1
 have HC1:=am_ hc1
 clear hr1 hc1
 have H:(if (l0.length:Int)=(l1.length:Int) then (spec_l5Ints.l0 k l0 l1 0) else (some false))=some r:=h
 clear h
 by_cases c3:(l0.length:Int)=(l1.length:Int)
 ·rw [if_pos c3] at H
  have c3b0:((l0.length:Int) == (l1.length:Int))=true:=beq_iff_eq.mpr c3
  have c3b1:((l0.length:Int) != (l1.length:Int))=false:=bne_eq_false_iff_eq.mpr c3
  have c3b2:(l0.length == l1.length)=true:=by first | simpa using c3 | (simp at c3 ⊢;omega)
  clear c3
  have H':=am_ H
  clear H
  go_enter Try.func93,Try.ntmps93
  go_wp2
  repeat (go_quiet (fail);try go_wp2)
  go_loopg [5] k (fun kq v5 w'=>∃ (aa:Int),v5 = .int .i64 aa∧Aside0 (spec_l5Ints.l0 kq l0 l1 aa=some r)∧Aside0 (kq≤k)∧Drawn0 w w')
  case atStart=>exact ⟨(0),(by first | rfl | (simp;done) | (simp [*];done)),H',⟨Nat.le_refl _⟩,by repeat (first | exact Drawn0.refl _ | apply Drawn0.step)⟩
  case round =>
   clear H'
   try clear c1
   try clear p2
   try clear c3
   try clear c3b0
   try clear c3b1
   try clear c3b2
   obtain ⟨aa,rfl,HA,HK1,⟨m1,rfl⟩⟩:=hrel
   cases gk with
   | zero=>exact absurd HA.out (by simp [spec_l5Ints.l0])
   | succ k1 =>
    have H:=HA.out
    clear HA
    simp only [spec_l5Ints.l0] at H
    by_cases c4:aa<(l0.length:Int)
    ·rw [if_pos c4] at H
     have c4b0:decide (aa<(l0.length:Int))=true:=decide_eq_true c4
     clear c4
     by_cases c5:0≤aa
     ·rw [if_pos c5] at H
      have c5b0:decide (0≤aa)=true:=decide_eq_true c5
      clear c5
      by_cases c6:aa<(l1.length:Int)
      ·rw [if_pos c6] at H
       have c6b0:decide (aa<(l1.length:Int))=true:=decide_eq_true c6
       clear c6
       by_cases c7:(rd l0 aa)=(rd l1 aa)
       ·rw [if_pos c7] at H
        have c7b0:((rd l0 aa) == (rd l1 aa))=true:=beq_iff_eq.mpr c7
        have c7b1:((rd l0 aa) != (rd l1 aa))=false:=bne_eq_false_iff_eq.mpr c7
        clear c7
        have H':=am_ H
        clear H
        have p413:0≤(aa:Int):=of_decide_eq_true ah_
        have q413:aa<(l0.length:Int):=of_decide_eq_true ah_
        obtain ⟨bF,e413,bk⟩:=Kd.at_int HR0.out aa p413 q413
        cases e413
        replace p413:=eq_true p413
        replace q413:=eq_true q413
        have p414:0≤(aa:Int):=of_decide_eq_true ah_
        have q414:aa<(l1.length:Int):=of_decide_eq_true ah_
        obtain ⟨bG,e414,bm⟩:=Kd.at_int HR1.out aa p414 q414
        cases e414
        replace p414:=eq_true p414
        replace q414:=eq_true q414
        go_wp2
        repeat (go_quiet (fail);try go_wp2)
        go_roundg k1
        case measure=>have:=HK1.out;omega
        case rel=>exact ⟨(wrap64 (aa+1)),(by first | rfl | (simp;done) | (simp [*];done)),H',⟨by have:=HK1.out;omega⟩,by repeat (first | exact Drawn0.refl _ | apply Drawn0.step)⟩
       ·rw [if_neg c7] at H
        have c7b0:((rd l0 aa) == (rd l1 aa))=false:=beq_eq_false_iff_ne.mpr c7
        have c7b1:((rd l0 aa) != (rd l1 aa))=true:=bne_iff_ne.mpr c7
        obtain rfl:=Option.some.inj H
        simp only [Option.some.injEq,Prod.mk.injEq] at H
        obtain ⟨rfl⟩:=H
        have p413:0≤(aa:Int):=of_decide_eq_true ah_
        have q413:aa<(l0.length:Int):=of_decide_eq_true ah_
        obtain ⟨bF,e413,bk⟩:=Kd.at_int HR0.out aa p413 q413
        cases e413
        replace p413:=eq_true p413
        replace q413:=eq_true q413
        have p414:0≤(aa:Int):=of_decide_eq_true ah_
        have q414:aa<(l1.length:Int):=of_decide_eq_true ah_
        obtain ⟨bG,e414,bm⟩:=Kd.at_int HR1.out aa p414 q414
        cases e414
        replace p414:=eq_true p414
        replace q414:=eq_true q414
        go_wp2
        repeat (go_quiet (fail);try go_wp2)
        go_ret
        exact ⟨by first | rfl | (simp;done) | (simp [*];done),by repeat (first | exact Drawn0.refl _ | apply Drawn0.step)⟩
      ·rw [if_neg c6] at H
       exact absurd H (by simp)
     ·rw [if_neg c5] at H
      exact absurd H (by simp)
    ·rw [if_neg c4] at H
     have c4b0:decide (aa<(l0.length:Int))=false:=decide_eq_false c4
     clear c4
     obtain rfl:=Option.some.inj H
     simp only [Option.some.injEq,Prod.mk.injEq] at H
     obtain ⟨rfl⟩:=H
     go_wp2
     repeat (go_quiet (fail);try go_wp2)
     go_ret
     exact ⟨by first | rfl | (simp;done) | (simp [*];done),by repeat (first | exact Drawn0.refl _ | apply Drawn0.step)⟩
 ·rw [if_neg c3] at H
  have c3b0:((l0.length:Int) == (l1.length:Int))=false:=beq_eq_false_iff_ne.mpr c3
  have c3b1:((l0.length:Int) != (l1.length:Int))=true:=bne_iff_ne.mpr c3
  have c3b2:(l0.length == l1.length)=false:=by first | simpa using c3 | (simp at c3 ⊢;omega)
  obtain rfl:=Option.some.inj H
  simp only [Option.some.injEq,Prod.mk.injEq] at H
  obtain ⟨rfl⟩:=H
  go_enter Try.func93,Try.ntmps93
  go_wp2
  repeat (go_quiet (fail);try go_wp2)
  go_ret
  exact ⟨by first | rfl | (simp;done) | (simp [*];done),by repeat (first | exact Drawn0.refl _ | apply Drawn0.step)⟩
def spec_l6Find.l0:Nat→List (S78)→Int→Int→List Int→Bool→Option (Int)
 | 0,_,_,_,_,_=>none
 | k+1,x0,x5,aI,aJ,aK=>if x5<(x0.length:Int) then (if 0≤x5 then (if ((rd_T78 x0 x5).f0)=aI then (if (((rd_T78 x0 x5).f2) == aK)=true then ((spec_l5Ints.f k ((rd_T78 x0 x5).f1) aJ).bind fun bc=>(if bc=true then (some x5) else (spec_l6Find.l0 k x0 (wrap64 (x5+1)) aI aJ aK))) else (spec_l6Find.l0 k x0 (wrap64 (x5+1)) aI aJ aK)) else (spec_l6Find.l0 k x0 (wrap64 (x5+1)) aI aJ aK)) else (none)) else (some (-1))
def spec_l6Find.f (k:Nat) (l0:List (S78)) (a1_0:Int) (l1_1:List Int) (a1_2:Bool):Option (Int):=spec_l6Find.l0 k l0 0 a1_0 l1_1 a1_2
theorem spec_l6Find.mono_l:∀ k,(∀ y0 y1 y2 y3 y4,LeO (spec_l6Find.l0 k y0 y1 y2 y3 y4) (spec_l6Find.l0 (k+1) y0 y1 y2 y3 y4))
 | 0=>fun _ _ _ _ _ r h=>by simp [spec_l6Find.l0] at h
 | k+1=>by
  have ih0:=spec_l6Find.mono_l k
  ·intro y0 y1 y2 y3 y4
   unfold spec_l6Find.l0
   repeat' first
   | (with_reducible exact ih0 _ _ _ _ _)
   | (with_reducible exact spec_l5Ints.mono _ _ _)
   | (with_reducible exact LeO.refl _)
   | (with_reducible exact LeO.none _)
   | (with_reducible refine LeO.ite ?_ ?_)
   | (with_reducible refine LeO.bind ?_ (fun _=>?_))
   | exact ih0 _ _ _ _ _
   | exact spec_l5Ints.mono _ _ _
   | exact LeO.none _
   | refine LeO.ite ?_ ?_
   | refine LeO.bind ?_ (fun _=>?_)
theorem spec_l6Find.mono:∀ a0 a1 a2 a3 k,LeO (spec_l6Find.f k a0 a1 a2 a3) (spec_l6Find.f (k+1) a0 a1 a2 a3):=by
 intro a0 a1 a2 a3 k
 have ih0:=spec_l6Find.mono_l k
 unfold spec_l6Find.f
 repeat' first
  | (with_reducible exact ih0 _ _ _ _ _)
  | (with_reducible exact spec_l5Ints.mono _ _ _)
  | (with_reducible exact LeO.refl _)
  | (with_reducible exact LeO.none _)
  | (with_reducible refine LeO.ite ?_ ?_)
  | (with_reducible refine LeO.bind ?_ (fun _=>?_))
  | exact ih0 _ _ _ _ _
  | exact spec_l5Ints.mono _ _ _
  | exact LeO.none _
  | refine LeO.ite ?_ ?_
  | refine LeO.bind ?_ (fun _=>?_)
set_option maxHeartbeats 8000000 in
set_option maxRecDepth 100000 in
theorem spec_l6Find.calls (k:Nat) (A0:Option Addr) (c0:Nat) (l0:List (S78)) (a1_0:Int) (A1_1:Option Addr) (c1_1:Nat) (l1_1:List Int) (a1_2:Bool) (r:Int) (w:World) (hr0:Kd.C k78 w A0 l0.length l0) (hc0:l0.length≤c0) (hr1_1:Kd.C (Kd.int .i64) w A1_1 l1_1.length l1_1) (hc1_1:l1_1.length≤c1_1) (h:spec_l6Find.f k l0 a1_0 l1_1 a1_2=some r) :
  Calls Try.prog 75 #[.slice A0 l0.length c0,.agg #[.int .i64 a1_0,.slice A1_1 l1_1.length c1_1,.bool a1_2]] w fun e w'=>e = .returned (.int .i64 r)∧Below w.heap.size w w':=by
 have hu78:=Try.underlying78
 have HR0:=am_ hr0
 have HC0:=am_ hc0
 clear hr0 hc0
 have aL:=am_ hr1_1
 have aM:=am_ hc1_1
 clear hr1_1 hc1_1
 have HB:=am_ (Below.refl w.heap.size w)
 have H:(spec_l6Find.l0 k l0 0 a1_0 l1_1 a1_2)=some r:=h
 clear h
 have H':=am_ H
 clear H
 go_enter Try.func75,Try.ntmps75
 go_wp2_with (first | ((with_reducible refine gate_dst (N:=3) rfl ?_);refine box_event ?hg (N:=3) ?hd (cs:=#[.int .i64 a1_0,.slice A1_1 l1_1.length c1_1,.bool a1_2]) (t:=78) ?hr ?_;(case hd=>rfl);(case hg=>rfl);(case hr=>first | (go_simp;done) | (go_simp;rfl));intro av hg w3 hbox hb;replace ab:=am_ (hbox);replace bh:=am_ ((by rw [hg];exact (below_size (b0_ HB.out)):w.heap.size≤av));replace ax:=am_ ((by rw [hg];exact (below_size (b0_ HB.out)):w.heap.size≤av));replace HB:=am_ (below_step (b0_ HB.out) hb);clear hb hbox hg))
 repeat (go_quiet (first | ((with_reducible refine gate_dst (N:=3) rfl ?_);refine box_event ?hg (N:=3) ?hd (cs:=#[.int .i64 a1_0,.slice A1_1 l1_1.length c1_1,.bool a1_2]) (t:=78) ?hr ?_;(case hd=>rfl);(case hg=>rfl);(case hr=>first | (go_simp;done) | (go_simp;rfl));intro av hg w3 hbox hb;replace ab:=am_ (hbox);replace bh:=am_ ((by rw [hg];exact (below_size (b0_ HB.out)):w.heap.size≤av));replace ax:=am_ ((by rw [hg];exact (below_size (b0_ HB.out)):w.heap.size≤av));replace HB:=am_ (below_step (b0_ HB.out) hb);clear hb hbox hg));try go_wp2_with (first | ((with_reducible refine gate_dst (N:=3) rfl ?_);refine box_event ?hg (N:=3) ?hd (cs:=#[.int .i64 a1_0,.slice A1_1 l1_1.length c1_1,.bool a1_2]) (t:=78) ?hr ?_;(case hd=>rfl);(case hg=>rfl);(case hr=>first | (go_simp;done) | (go_simp;rfl));intro av hg w3 hbox hb;replace ab:=am_ (hbox);replace bh:=am_ ((by rw [hg];exact (below_size (b0_ HB.out)):w.heap.size≤av));replace ax:=am_ ((by rw [hg];exact (below_size (b0_ HB.out)):w.heap.size≤av));replace HB:=am_ (below_step (b0_ HB.out) hb);clear hb hbox hg)))
 go_loopg [5] k (fun kq v5 w'=>∃ (aa:Int),v5 = .int .i64 aa∧Aside0 (spec_l6Find.l0 kq l0 aa a1_0 l1_1 a1_2=some r)∧Aside0 (kq≤k)∧Aside0 (w'.heap[av]? = some (.cells #[.int .i64 a1_0,(.slice A1_1 l1_1.length c1_1),.bool a1_2] 78 (0,0)))∧Aside0 (Below w.heap.size w w'))
 case atStart=>exact ⟨(0),(by first | rfl | (simp;done) | (simp [*];done)),H',⟨Nat.le_refl _⟩,⟨by refine rb_ ?_;exact ab.out⟩,⟨by exact zp27_0_ HB.out ax.out⟩⟩
 case round =>
  clear H'
  try clear c1
  try clear p2
  obtain ⟨aa,rfl,HA,HK1,ab,HB⟩:=hrel
  cases gk with
  | zero=>exact absurd HA.out (by simp [spec_l6Find.l0])
  | succ k1 =>
   have H:=HA.out
   clear HA
   simp only [spec_l6Find.l0] at H
   by_cases c4:aa<(l0.length:Int)
   ·rw [if_pos c4] at H
    have c4b0:decide (aa<(l0.length:Int))=true:=decide_eq_true c4
    clear c4
    by_cases c5:0≤aa
    ·rw [if_pos c5] at H
     have c5b0:decide (0≤aa)=true:=decide_eq_true c5
     clear c5
     by_cases c6:((rd_T78 l0 aa).f0)=a1_0
     ·rw [if_pos c6] at H
      have c6b0:(((rd_T78 l0 aa).f0) == a1_0)=true:=beq_iff_eq.mpr c6
      have c6b1:(((rd_T78 l0 aa).f0) != a1_0)=false:=bne_eq_false_iff_eq.mpr c6
      clear c6
      by_cases c7:(((rd_T78 l0 aa).f2) == a1_2)=true
      ·rw [if_pos c7] at H
       have c7b0:(((rd_T78 l0 aa).f2) == a1_2)=true:=c7
       (try (have c7b1:decide (((rd_T78 l0 aa).f2)=a1_2)=true:=by simpa using c7))
       (try (have c7b2:(((rd_T78 l0 aa).f2) == a1_2)=true:=by simpa using c7))
       clear c7
       replace H:=Option.bind_eq_some_iff.mp H
       obtain ⟨bc,A80,H⟩:=H
       have A8:=am_ A80
       clear A80
       by_cases c9:bc=true
       ·subst c9
        have H1:(some aa)=some r:=by rw [if_pos rfl] at H;exact H
        clear H
        have H:=H1
        clear H1
        obtain rfl:=Option.some.inj H
        simp only [Option.some.injEq,Prod.mk.injEq] at H
        obtain ⟨rfl⟩:=H
        have p416:0≤(aa:Int):=of_decide_eq_true ah_
        have q416:aa<(l0.length:Int):=of_decide_eq_true ah_
        obtain ⟨ay,A416_1,c416_1,e416,af,ad,ag,hl416_1,hi416_1⟩:=at_T78 HR0.out aa p416 q416
        cases e416
        replace af:=(HB.out.cell (World.block_lt_of_cell? w _ af)).trans af
        replace ad:=(HB.out.cell (World.block_lt_of_cell? w _ ad)).trans ad
        replace ag:=(HB.out.cell (World.block_lt_of_cell? w _ ag)).trans ag
        have aR:=am_ hi416_1
        have aS:=am_ hl416_1
        clear hi416_1 hl416_1
        replace p416:=eq_true p416
        replace q416:=eq_true q416
        have bn:=ck_ (v:=(.int .i64 a1_0)) ab 0 rfl
        have bo:=ck_ (v:=(.slice A1_1 l1_1.length c1_1)) ab 1 rfl
        have bK:=ck_ (v:=(.bool a1_2)) ab 2 rfl
        have bp:=blk_frozen ab.out 0
        have bq:=blk_frozen ab.out 1
        have bL:=blk_frozen ab.out 2
        have p417:0≤(aa:Int):=of_decide_eq_true ah_
        have q417:aa<(l0.length:Int):=of_decide_eq_true ah_
        obtain ⟨aQ,A417_1,c417_1,e417,aj,ah,ak,hl417_1,hi417_1⟩:=at_T78 HR0.out aa p417 q417
        obtain rfl:ay=aQ:=(by injection e417)
        replace aj:=(HB.out.cell (World.block_lt_of_cell? w _ aj)).trans aj
        replace ah:=(HB.out.cell (World.block_lt_of_cell? w _ ah)).trans ah
        replace ak:=(HB.out.cell (World.block_lt_of_cell? w _ ak)).trans ak
        have aW:=am_ hi417_1
        have aX:=am_ hl417_1
        clear hi417_1 hl417_1
        replace p417:=eq_true p417
        replace q417:=eq_true q417
        have ea_:=Option.some.inj (ad.symm.trans ah)
        injection ea_ with ea_ en_ ec_
        subst ea_
        subst ec_
        clear en_
        have p418:0≤(aa:Int):=of_decide_eq_true ah_
        have q418:aa<(l0.length:Int):=of_decide_eq_true ah_
        obtain ⟨aZ,A418_1,c418_1,e418,ao,al,ap,hl418_1,hi418_1⟩:=at_T78 HR0.out aa p418 q418
        obtain rfl:ay=aZ:=(by injection e418)
        replace ao:=(HB.out.cell (World.block_lt_of_cell? w _ ao)).trans ao
        replace al:=(HB.out.cell (World.block_lt_of_cell? w _ al)).trans al
        replace ap:=(HB.out.cell (World.block_lt_of_cell? w _ ap)).trans ap
        have aq:=am_ hi418_1
        have ar:=am_ hl418_1
        clear hi418_1 hl418_1
        replace p418:=eq_true p418
        replace q418:=eq_true q418
        have ea_:=Option.some.inj (ad.symm.trans al)
        injection ea_ with ea_ en_ ec_
        subst ea_
        subst ec_
        clear en_
        go_wp2_with (first | (go_at_call 93;(with_reducible refine (spec_l5Ints.calls k1 _ _ ((rd_T78 l0 aa).f1) _ _ l1_1 true _ ?side1 ?side2 ?side3 ?side4 A8.out).mono ?_);(case side1=>exact rc_ (Kd.C_below aq.out HB.out));(case side2=>exact ar.out);(case side3=>exact rc_ (Kd.C_below aL.out HB.out));(case side4=>exact aM.out);rintro e w' ⟨rfl,⟨nd,rfl⟩⟩;(try first | exact ⟨rfl,_,World.drewN_drewN _ _ _⟩ | exact ⟨rfl,_,Eq.trans (World.drewN_drewN _ _ _) (congrArg (World.drewN _) (Nat.add_assoc _ _ _))⟩)))
        repeat (go_quiet (first | (go_at_call 93;(with_reducible refine (spec_l5Ints.calls k1 _ _ ((rd_T78 l0 aa).f1) _ _ l1_1 true _ ?side1 ?side2 ?side3 ?side4 A8.out).mono ?_);(case side1=>exact rc_ (Kd.C_below aq.out HB.out));(case side2=>exact ar.out);(case side3=>exact rc_ (Kd.C_below aL.out HB.out));(case side4=>exact aM.out);rintro e w' ⟨rfl,⟨nd,rfl⟩⟩;(try first | exact ⟨rfl,_,World.drewN_drewN _ _ _⟩ | exact ⟨rfl,_,Eq.trans (World.drewN_drewN _ _ _) (congrArg (World.drewN _) (Nat.add_assoc _ _ _))⟩)));try go_wp2_with (first | (go_at_call 93;(with_reducible refine (spec_l5Ints.calls k1 _ _ ((rd_T78 l0 aa).f1) _ _ l1_1 true _ ?side1 ?side2 ?side3 ?side4 A8.out).mono ?_);(case side1=>exact rc_ (Kd.C_below aq.out HB.out));(case side2=>exact ar.out);(case side3=>exact rc_ (Kd.C_below aL.out HB.out));(case side4=>exact aM.out);rintro e w' ⟨rfl,⟨nd,rfl⟩⟩;(try first | exact ⟨rfl,_,World.drewN_drewN _ _ _⟩ | exact ⟨rfl,_,Eq.trans (World.drewN_drewN _ _ _) (congrArg (World.drewN _) (Nat.add_assoc _ _ _))⟩))))
        go_ret
        exact ⟨by first | rfl | (simp [errW_none,errW_some] <;> rfl) | (simp [*,errW_none,errW_some] <;> rfl),by exact zp27_0_ HB.out ax.out⟩
       ·replace c9:=Bool.eq_false_iff.mpr c9
        subst c9
        have H1:(spec_l6Find.l0 k1 l0 (wrap64 (aa+1)) a1_0 l1_1 a1_2)=some r:=by rw [if_neg (show ¬ (false=true) by decide)] at H;exact H
        clear H
        have H:=H1
        clear H1
        have H':=am_ H
        clear H
        have p416:0≤(aa:Int):=of_decide_eq_true ah_
        have q416:aa<(l0.length:Int):=of_decide_eq_true ah_
        obtain ⟨ay,A416_1,c416_1,e416,af,ad,ag,hl416_1,hi416_1⟩:=at_T78 HR0.out aa p416 q416
        cases e416
        replace af:=(HB.out.cell (World.block_lt_of_cell? w _ af)).trans af
        replace ad:=(HB.out.cell (World.block_lt_of_cell? w _ ad)).trans ad
        replace ag:=(HB.out.cell (World.block_lt_of_cell? w _ ag)).trans ag
        have aR:=am_ hi416_1
        have aS:=am_ hl416_1
        clear hi416_1 hl416_1
        replace p416:=eq_true p416
        replace q416:=eq_true q416
        have br:=ck_ (v:=(.int .i64 a1_0)) ab 0 rfl
        have bs:=ck_ (v:=(.slice A1_1 l1_1.length c1_1)) ab 1 rfl
        have bM:=ck_ (v:=(.bool a1_2)) ab 2 rfl
        have bt:=blk_frozen ab.out 0
        have bu:=blk_frozen ab.out 1
        have bN:=blk_frozen ab.out 2
        have p417:0≤(aa:Int):=of_decide_eq_true ah_
        have q417:aa<(l0.length:Int):=of_decide_eq_true ah_
        obtain ⟨aQ,A417_1,c417_1,e417,aj,ah,ak,hl417_1,hi417_1⟩:=at_T78 HR0.out aa p417 q417
        obtain rfl:ay=aQ:=(by injection e417)
        replace aj:=(HB.out.cell (World.block_lt_of_cell? w _ aj)).trans aj
        replace ah:=(HB.out.cell (World.block_lt_of_cell? w _ ah)).trans ah
        replace ak:=(HB.out.cell (World.block_lt_of_cell? w _ ak)).trans ak
        have aW:=am_ hi417_1
        have aX:=am_ hl417_1
        clear hi417_1 hl417_1
        replace p417:=eq_true p417
        replace q417:=eq_true q417
        have ea_:=Option.some.inj (ad.symm.trans ah)
        injection ea_ with ea_ en_ ec_
        subst ea_
        subst ec_
        clear en_
        have p418:0≤(aa:Int):=of_decide_eq_true ah_
        have q418:aa<(l0.length:Int):=of_decide_eq_true ah_
        obtain ⟨aZ,A418_1,c418_1,e418,ao,al,ap,hl418_1,hi418_1⟩:=at_T78 HR0.out aa p418 q418
        obtain rfl:ay=aZ:=(by injection e418)
        replace ao:=(HB.out.cell (World.block_lt_of_cell? w _ ao)).trans ao
        replace al:=(HB.out.cell (World.block_lt_of_cell? w _ al)).trans al
        replace ap:=(HB.out.cell (World.block_lt_of_cell? w _ ap)).trans ap
        have aq:=am_ hi418_1
        have ar:=am_ hl418_1
        clear hi418_1 hl418_1
        replace p418:=eq_true p418
        replace q418:=eq_true q418
        have ea_:=Option.some.inj (ad.symm.trans al)
        injection ea_ with ea_ en_ ec_
        subst ea_
        subst ec_
        clear en_
        go_wp2_with (first | (go_at_call 93;(with_reducible refine (spec_l5Ints.calls k1 _ _ ((rd_T78 l0 aa).f1) _ _ l1_1 false _ ?side1 ?side2 ?side3 ?side4 A8.out).mono ?_);(case side1=>exact rc_ (Kd.C_below aq.out HB.out));(case side2=>exact ar.out);(case side3=>exact rc_ (Kd.C_below aL.out HB.out));(case side4=>exact aM.out);rintro e w' ⟨rfl,⟨nd,rfl⟩⟩;(try first | exact ⟨rfl,_,World.drewN_drewN _ _ _⟩ | exact ⟨rfl,_,Eq.trans (World.drewN_drewN _ _ _) (congrArg (World.drewN _) (Nat.add_assoc _ _ _))⟩)))
        repeat (go_quiet (first | (go_at_call 93;(with_reducible refine (spec_l5Ints.calls k1 _ _ ((rd_T78 l0 aa).f1) _ _ l1_1 false _ ?side1 ?side2 ?side3 ?side4 A8.out).mono ?_);(case side1=>exact rc_ (Kd.C_below aq.out HB.out));(case side2=>exact ar.out);(case side3=>exact rc_ (Kd.C_below aL.out HB.out));(case side4=>exact aM.out);rintro e w' ⟨rfl,⟨nd,rfl⟩⟩;(try first | exact ⟨rfl,_,World.drewN_drewN _ _ _⟩ | exact ⟨rfl,_,Eq.trans (World.drewN_drewN _ _ _) (congrArg (World.drewN _) (Nat.add_assoc _ _ _))⟩)));try go_wp2_with (first | (go_at_call 93;(with_reducible refine (spec_l5Ints.calls k1 _ _ ((rd_T78 l0 aa).f1) _ _ l1_1 false _ ?side1 ?side2 ?side3 ?side4 A8.out).mono ?_);(case side1=>exact rc_ (Kd.C_below aq.out HB.out));(case side2=>exact ar.out);(case side3=>exact rc_ (Kd.C_below aL.out HB.out));(case side4=>exact aM.out);rintro e w' ⟨rfl,⟨nd,rfl⟩⟩;(try first | exact ⟨rfl,_,World.drewN_drewN _ _ _⟩ | exact ⟨rfl,_,Eq.trans (World.drewN_drewN _ _ _) (congrArg (World.drewN _) (Nat.add_assoc _ _ _))⟩))))
        go_roundg k1
        case measure=>have:=HK1.out;omega
        case rel=>exact ⟨(wrap64 (aa+1)),(by first | rfl | (simp;done) | (simp [*];done)),H',⟨by have:=HK1.out;omega⟩,⟨by refine rb_ ?_;exact ab.out⟩,⟨by exact zp27_0_ HB.out ax.out⟩⟩
      ·rw [if_neg c7] at H
       have c7b0:(((rd_T78 l0 aa).f2) == a1_2)=false:=by simpa using c7
       (try (have c7b1:decide (((rd_T78 l0 aa).f2)=a1_2)=false:=by simpa using c7))
       (try (have c7b2:(((rd_T78 l0 aa).f2) == a1_2)=false:=by simpa using c7))
       (try (have c7b3:¬ (((rd_T78 l0 aa).f2)=a1_2):=by simpa using c7))
       clear c7
       have H':=am_ H
       clear H
       have p416:0≤(aa:Int):=of_decide_eq_true ah_
       have q416:aa<(l0.length:Int):=of_decide_eq_true ah_
       obtain ⟨ay,A416_1,c416_1,e416,af,ad,ag,hl416_1,hi416_1⟩:=at_T78 HR0.out aa p416 q416
       cases e416
       replace af:=(HB.out.cell (World.block_lt_of_cell? w _ af)).trans af
       replace ad:=(HB.out.cell (World.block_lt_of_cell? w _ ad)).trans ad
       replace ag:=(HB.out.cell (World.block_lt_of_cell? w _ ag)).trans ag
       have aR:=am_ hi416_1
       have aS:=am_ hl416_1
       clear hi416_1 hl416_1
       replace p416:=eq_true p416
       replace q416:=eq_true q416
       have bO:=ck_ (v:=(.int .i64 a1_0)) ab 0 rfl
       have bP:=ck_ (v:=(.slice A1_1 l1_1.length c1_1)) ab 1 rfl
       have bQ:=ck_ (v:=(.bool a1_2)) ab 2 rfl
       have bR:=blk_frozen ab.out 0
       have bS:=blk_frozen ab.out 1
       have bT:=blk_frozen ab.out 2
       have p417:0≤(aa:Int):=of_decide_eq_true ah_
       have q417:aa<(l0.length:Int):=of_decide_eq_true ah_
       obtain ⟨aQ,A417_1,c417_1,e417,aj,ah,ak,hl417_1,hi417_1⟩:=at_T78 HR0.out aa p417 q417
       obtain rfl:ay=aQ:=(by injection e417)
       replace aj:=(HB.out.cell (World.block_lt_of_cell? w _ aj)).trans aj
       replace ah:=(HB.out.cell (World.block_lt_of_cell? w _ ah)).trans ah
       replace ak:=(HB.out.cell (World.block_lt_of_cell? w _ ak)).trans ak
       have aW:=am_ hi417_1
       have aX:=am_ hl417_1
       clear hi417_1 hl417_1
       replace p417:=eq_true p417
       replace q417:=eq_true q417
       have ea_:=Option.some.inj (ad.symm.trans ah)
       injection ea_ with ea_ en_ ec_
       subst ea_
       subst ec_
       clear en_
       go_wp2
       repeat (go_quiet (fail);try go_wp2)
       go_roundg k1
       case measure=>have:=HK1.out;omega
       case rel=>exact ⟨(wrap64 (aa+1)),(by first | rfl | (simp;done) | (simp [*];done)),H',⟨by have:=HK1.out;omega⟩,⟨by refine rb_ ?_;exact ab.out⟩,⟨by exact zp27_0_ HB.out ax.out⟩⟩
     ·rw [if_neg c6] at H
      have c6b0:(((rd_T78 l0 aa).f0) == a1_0)=false:=beq_eq_false_iff_ne.mpr c6
      have c6b1:(((rd_T78 l0 aa).f0) != a1_0)=true:=bne_iff_ne.mpr c6
      have H':=am_ H
      clear H
      have p416:0≤(aa:Int):=of_decide_eq_true ah_
      have q416:aa<(l0.length:Int):=of_decide_eq_true ah_
      obtain ⟨ay,A416_1,c416_1,e416,af,ad,ag,hl416_1,hi416_1⟩:=at_T78 HR0.out aa p416 q416
      cases e416
      replace af:=(HB.out.cell (World.block_lt_of_cell? w _ af)).trans af
      replace ad:=(HB.out.cell (World.block_lt_of_cell? w _ ad)).trans ad
      replace ag:=(HB.out.cell (World.block_lt_of_cell? w _ ag)).trans ag
      have aR:=am_ hi416_1
      have aS:=am_ hl416_1
      clear hi416_1 hl416_1
      replace p416:=eq_true p416
      replace q416:=eq_true q416
      have bU:=ck_ (v:=(.int .i64 a1_0)) ab 0 rfl
      have bV:=ck_ (v:=(.slice A1_1 l1_1.length c1_1)) ab 1 rfl
      have bW:=ck_ (v:=(.bool a1_2)) ab 2 rfl
      have bX:=blk_frozen ab.out 0
      have bY:=blk_frozen ab.out 1
      have bZ:=blk_frozen ab.out 2
      go_wp2
      repeat (go_quiet (fail);try go_wp2)
      go_roundg k1
      case measure=>have:=HK1.out;omega
      case rel=>exact ⟨(wrap64 (aa+1)),(by first | rfl | (simp;done) | (simp [*];done)),H',⟨by have:=HK1.out;omega⟩,⟨by refine rb_ ?_;exact ab.out⟩,⟨by exact zp27_0_ HB.out ax.out⟩⟩
    ·rw [if_neg c5] at H
     exact absurd H (by simp)
   ·rw [if_neg c4] at H
    have c4b0:decide (aa<(l0.length:Int))=false:=decide_eq_false c4
    clear c4
    obtain rfl:=Option.some.inj H
    simp only [Option.some.injEq,Prod.mk.injEq] at H
    obtain ⟨rfl⟩:=H
    go_wp2
    repeat (go_quiet (fail);try go_wp2)
    go_ret
    exact ⟨by first | rfl | (simp [errW_none,errW_some] <;> rfl) | (simp [*,errW_none,errW_some] <;> rfl),by exact zp27_0_ HB.out ax.out⟩
def spec_l6Any.l0:Nat→List Int→Int→List Bool→List (List Int)→Option (Bool)
 | 0,_,_,_,_=>none
 | k+1,x1,x5,aT,bv=>if x5<(x1.length:Int) then (if 0≤x5 then (if 0≤(rd x1 x5) then (if (rd x1 x5)<(aT.length:Int) then (if rdOf false aT (rd x1 x5)=true then (some true) else (spec_l6Any.l0 k x1 (wrap64 (x5+1)) aT bv)) else (none)) else (none)) else (none)) else (some false)
def spec_l6Any.f (k:Nat) (l0_0:List Bool) (l0_1:List (List Int)) (l1:List Int):Option (Bool):=spec_l6Any.l0 k l1 0 l0_0 l0_1
theorem spec_l6Any.mono_l:∀ k,(∀ y0 y1 y2 y3,LeO (spec_l6Any.l0 k y0 y1 y2 y3) (spec_l6Any.l0 (k+1) y0 y1 y2 y3))
 | 0=>fun _ _ _ _ r h=>by simp [spec_l6Any.l0] at h
 | k+1=>by
  have ih0:=spec_l6Any.mono_l k
  ·intro y0 y1 y2 y3
   unfold spec_l6Any.l0
   repeat' first
   | (with_reducible exact ih0 _ _ _ _)
   | (with_reducible exact LeO.refl _)
   | (with_reducible exact LeO.none _)
   | (with_reducible refine LeO.ite ?_ ?_)
   | (with_reducible refine LeO.bind ?_ (fun _=>?_))
   | exact ih0 _ _ _ _
   | exact LeO.none _
   | refine LeO.ite ?_ ?_
   | refine LeO.bind ?_ (fun _=>?_)
theorem spec_l6Any.mono:∀ a0 a1 a2 k,LeO (spec_l6Any.f k a0 a1 a2) (spec_l6Any.f (k+1) a0 a1 a2):=by
 intro a0 a1 a2 k
 have ih0:=spec_l6Any.mono_l k
 unfold spec_l6Any.f
 repeat' first
  | (with_reducible exact ih0 _ _ _ _)
  | (with_reducible exact LeO.refl _)
  | (with_reducible exact LeO.none _)
  | (with_reducible refine LeO.ite ?_ ?_)
  | (with_reducible refine LeO.bind ?_ (fun _=>?_))
  | exact ih0 _ _ _ _
  | exact LeO.none _
  | refine LeO.ite ?_ ?_
  | refine LeO.bind ?_ (fun _=>?_)
set_option maxHeartbeats 8000000 in
set_option maxRecDepth 100000 in
theorem spec_l6Any.calls (k:Nat) (A0_0:Option Addr) (c0_0:Nat) (l0_0:List Bool) (A0_1:Option Addr) (c0_1:Nat) (l0_1:List (List Int)) (A1:Option Addr) (c1:Nat) (l1:List Int) (r:Bool) (w:World) (hr0_0:Kd.C Kd.bool w A0_0 l0_0.length l0_0) (hc0_0:l0_0.length≤c0_0) (hr0_1:Kd.C (Kd.slice 3 (Kd.int .i64)) w A0_1 l0_1.length l0_1) (hc0_1:l0_1.length≤c0_1) (hr1:Kd.C (Kd.int .i64) w A1 l1.length l1) (hc1:l1.length≤c1) (h:spec_l6Any.f k l0_0 l0_1 l1=some r) :
  Calls Try.prog 76 #[.agg #[.slice A0_0 l0_0.length c0_0,.slice A0_1 l0_1.length c0_1],.slice A1 l1.length c1] w fun e w'=>e = .returned (.bool r)∧Below w.heap.size w w':=by
 have hu27:=Try.underlying27
 have aY:=am_ hr0_0
 have bA:=am_ hc0_0
 clear hr0_0 hc0_0
 have bd:=am_ hr0_1
 have bB:=am_ hc0_1
 clear hr0_1 hc0_1
 have HR1:=am_ hr1
 have HC1:=am_ hc1
 clear hr1 hc1
 have HB:=am_ (Below.refl w.heap.size w)
 have H:(spec_l6Any.l0 k l1 0 l0_0 l0_1)=some r:=h
 clear h
 have H':=am_ H
 clear H
 go_enter Try.func76,Try.ntmps76
 go_wp2_with (first | ((with_reducible refine gate_dst (N:=2) rfl ?_);refine box_event ?hg (N:=2) ?hd (cs:=#[.slice A0_0 l0_0.length c0_0,.slice A0_1 l0_1.length c0_1]) (t:=27) ?hr ?_;(case hd=>rfl);(case hg=>rfl);(case hr=>first | (go_simp;done) | (go_simp;rfl));intro aw hg w3 hbox hb;replace am:=am_ (hbox);replace bi:=am_ ((by rw [hg];exact (below_size (b0_ HB.out)):w.heap.size≤aw));replace aN:=am_ ((by rw [hg];exact (below_size (b0_ HB.out)):w.heap.size≤aw));replace HB:=am_ (below_step (b0_ HB.out) hb);clear hb hbox hg))
 repeat (go_quiet (first | ((with_reducible refine gate_dst (N:=2) rfl ?_);refine box_event ?hg (N:=2) ?hd (cs:=#[.slice A0_0 l0_0.length c0_0,.slice A0_1 l0_1.length c0_1]) (t:=27) ?hr ?_;(case hd=>rfl);(case hg=>rfl);(case hr=>first | (go_simp;done) | (go_simp;rfl));intro aw hg w3 hbox hb;replace am:=am_ (hbox);replace bi:=am_ ((by rw [hg];exact (below_size (b0_ HB.out)):w.heap.size≤aw));replace aN:=am_ ((by rw [hg];exact (below_size (b0_ HB.out)):w.heap.size≤aw));replace HB:=am_ (below_step (b0_ HB.out) hb);clear hb hbox hg));try go_wp2_with (first | ((with_reducible refine gate_dst (N:=2) rfl ?_);refine box_event ?hg (N:=2) ?hd (cs:=#[.slice A0_0 l0_0.length c0_0,.slice A0_1 l0_1.length c0_1]) (t:=27) ?hr ?_;(case hd=>rfl);(case hg=>rfl);(case hr=>first | (go_simp;done) | (go_simp;rfl));intro aw hg w3 hbox hb;replace am:=am_ (hbox);replace bi:=am_ ((by rw [hg];exact (below_size (b0_ HB.out)):w.heap.size≤aw));replace aN:=am_ ((by rw [hg];exact (below_size (b0_ HB.out)):w.heap.size≤aw));replace HB:=am_ (below_step (b0_ HB.out) hb);clear hb hbox hg)))
 go_loopg [5] k (fun kq v5 w'=>∃ (aa:Int),v5 = .int .i64 aa∧Aside0 (spec_l6Any.l0 kq l1 aa l0_0 l0_1=some r)∧Aside0 (kq≤k)∧Aside0 (w'.heap[aw]? = some (.cells #[(.slice A0_0 l0_0.length c0_0),(.slice A0_1 l0_1.length c0_1)] 27 (0,0)))∧Aside0 (Below w.heap.size w w'))
 case atStart=>exact ⟨(0),(by first | rfl | (simp;done) | (simp [*];done)),H',⟨Nat.le_refl _⟩,⟨by refine rb_ ?_;exact am.out⟩,⟨by exact zp27_0_ HB.out aN.out⟩⟩
 case round =>
  clear H'
  try clear c1
  try clear p2
  obtain ⟨aa,rfl,HA,HK1,am,HB⟩:=hrel
  cases gk with
  | zero=>exact absurd HA.out (by simp [spec_l6Any.l0])
  | succ k1 =>
   have H:=HA.out
   clear HA
   simp only [spec_l6Any.l0] at H
   by_cases c4:aa<(l1.length:Int)
   ·rw [if_pos c4] at H
    have c4b0:decide (aa<(l1.length:Int))=true:=decide_eq_true c4
    clear c4
    by_cases c5:0≤aa
    ·rw [if_pos c5] at H
     have c5b0:decide (0≤aa)=true:=decide_eq_true c5
     clear c5
     by_cases c6:0≤(rd l1 aa)
     ·rw [if_pos c6] at H
      have c6b0:decide (0≤(rd l1 aa))=true:=decide_eq_true c6
      clear c6
      by_cases c7:(rd l1 aa)<(l0_0.length:Int)
      ·rw [if_pos c7] at H
       have c7b0:decide ((rd l1 aa)<(l0_0.length:Int))=true:=decide_eq_true c7
       clear c7
       obtain ⟨bq8,hbq8⟩:∃ b_:Bool,b_=(rdOf false l0_0 (rd l1 aa)):=⟨_,rfl⟩
       replace H:(if bq8=true then (some true) else (spec_l6Any.l0 k1 l1 (wrap64 (aa+1)) l0_0 l0_1))=some r:=by rw [← hbq8] at H;exact H
       have Nbq8:=am_ hbq8
       clear hbq8
       by_cases c9:bq8=true
       ·subst c9
        have H1:(some true)=some r:=by rw [if_pos rfl] at H;exact H
        clear H
        have H:=H1
        clear H1
        obtain rfl:=Option.some.inj H
        simp only [Option.some.injEq,Prod.mk.injEq] at H
        obtain ⟨rfl⟩:=H
        have bn:=ck_ (v:=(.slice A0_0 l0_0.length c0_0)) am 0 rfl
        have bo:=ck_ (v:=(.slice A0_1 l0_1.length c0_1)) am 1 rfl
        have bp:=blk_frozen am.out 0
        have bq:=blk_frozen am.out 1
        have p421:0≤(aa:Int):=of_decide_eq_true ah_
        have q421:aa<(l1.length:Int):=of_decide_eq_true ah_
        obtain ⟨bH,e421,au⟩:=Kd.at_int HR1.out aa p421 q421
        cases e421
        replace au:=(HB.out.cell (World.block_lt_of_cell? w _ au)).trans au
        replace p421:=eq_true p421
        replace q421:=eq_true q421
        have p422:0≤((rd l1 aa):Int):=of_decide_eq_true ah_
        have q422:(rd l1 aa)<(l0_0.length:Int):=of_decide_eq_true ah_
        obtain ⟨bI,e422,an⟩:=Kd.at_bool aY.out (rd l1 aa) p422 q422
        (try rw [← Nbq8.out] at an)
        cases e422
        replace an:=(HB.out.cell (World.block_lt_of_cell? w _ an)).trans an
        replace p422:=eq_true p422
        replace q422:=eq_true q422
        go_wp2
        repeat (go_quiet (fail);try go_wp2)
        go_ret
        exact ⟨by first | rfl | (simp [errW_none,errW_some] <;> rfl) | (simp [*,errW_none,errW_some] <;> rfl),by exact zp27_0_ HB.out aN.out⟩
       ·replace c9:=Bool.eq_false_iff.mpr c9
        subst c9
        have H1:(spec_l6Any.l0 k1 l1 (wrap64 (aa+1)) l0_0 l0_1)=some r:=by rw [if_neg (show ¬ (false=true) by decide)] at H;exact H
        clear H
        have H:=H1
        clear H1
        have H':=am_ H
        clear H
        have br:=ck_ (v:=(.slice A0_0 l0_0.length c0_0)) am 0 rfl
        have bs:=ck_ (v:=(.slice A0_1 l0_1.length c0_1)) am 1 rfl
        have bt:=blk_frozen am.out 0
        have bu:=blk_frozen am.out 1
        have p421:0≤(aa:Int):=of_decide_eq_true ah_
        have q421:aa<(l1.length:Int):=of_decide_eq_true ah_
        obtain ⟨bH,e421,au⟩:=Kd.at_int HR1.out aa p421 q421
        cases e421
        replace au:=(HB.out.cell (World.block_lt_of_cell? w _ au)).trans au
        replace p421:=eq_true p421
        replace q421:=eq_true q421
        have p422:0≤((rd l1 aa):Int):=of_decide_eq_true ah_
        have q422:(rd l1 aa)<(l0_0.length:Int):=of_decide_eq_true ah_
        obtain ⟨bI,e422,an⟩:=Kd.at_bool aY.out (rd l1 aa) p422 q422
        (try rw [← Nbq8.out] at an)
        cases e422
        replace an:=(HB.out.cell (World.block_lt_of_cell? w _ an)).trans an
        replace p422:=eq_true p422
        replace q422:=eq_true q422
        go_wp2
        repeat (go_quiet (fail);try go_wp2)
        go_roundg k1
        case measure=>have:=HK1.out;omega
        case rel=>exact ⟨(wrap64 (aa+1)),(by first | rfl | (simp;done) | (simp [*];done)),H',⟨by have:=HK1.out;omega⟩,⟨by refine rb_ ?_;exact am.out⟩,⟨by exact zp27_0_ HB.out aN.out⟩⟩
      ·rw [if_neg c7] at H
       exact absurd H (by simp)
     ·rw [if_neg c6] at H
      exact absurd H (by simp)
    ·rw [if_neg c5] at H
     exact absurd H (by simp)
   ·rw [if_neg c4] at H
    have c4b0:decide (aa<(l1.length:Int))=false:=decide_eq_false c4
    clear c4
    obtain rfl:=Option.some.inj H
    simp only [Option.some.injEq,Prod.mk.injEq] at H
    obtain ⟨rfl⟩:=H
    go_wp2
    repeat (go_quiet (fail);try go_wp2)
    go_ret
    exact ⟨by first | rfl | (simp [errW_none,errW_some] <;> rfl) | (simp [*,errW_none,errW_some] <;> rfl),by exact zp27_0_ HB.out aN.out⟩
end Go.Proofs.Ytogamkblkoobkaa.P
end
section
namespace Go.Proofs.Ytogamkblkoobkaa.Pl
open Go.RowKit Go.Proofs.Ytogamkblkoobkaa.P Go.Proofs.YtogamkblkoobkaaW.PrintWords Go.Proofs.YtogamkblkoobkaaW.PrintLast Go.Proofs.YtogamkblkoobkaaW.PrintMore Wk Rk
theorem spec_ints_l0 (a b:List Int) (hl:a.length=b.length) (hn:a.length≤1048576):∀ d i:Nat,i+d=a.length→Ev (fun k=>spec_l5Ints.l0 k a b i) (decide (a.drop i=b.drop i)):=by
 intro d
 induction d with
 | zero =>
  intro i h
  refine next ?_
  simp only [spec_l5Ints.l0,if_neg (show ¬ (i:Int)<(a.length:Int) by omega)]
  exact ev_some (by rw [List.drop_eq_nil_of_le (by omega),List.drop_eq_nil_of_le (by omega)];simp)
 | succ d ih =>
  intro i h
  refine next ?_
  have ha:i<a.length:=by omega
  have hb:i<b.length:=by omega
  have e:(a.drop i=b.drop i)↔(a[i]=b[i]∧a.drop (i+1)=b.drop (i+1)):=by
   rw [List.drop_eq_getElem_cons ha,List.drop_eq_getElem_cons hb]
   exact List.cons_eq_cons
  simp only [spec_l5Ints.l0,if_pos (show (i:Int)<(a.length:Int) by omega),if_pos (show (0:Int)≤i by omega),if_pos (show (i:Int)<(b.length:Int) by omega),rd_get a i ha,rd_get b i hb]
  by_cases he:a[i]=b[i]
  ·simp only [if_pos he,up1 (show i<9223372036854775807 by omega)]
   exact ev_eq (ih (i+1) (by omega)) (decide_eq_decide.mpr (by rw [e];exact ⟨fun x=>⟨he,x⟩,fun x=>x.2⟩))
  ·simp only [if_neg he]
   exact ev_some (by rw [eq_comm,decide_eq_false_iff_not,e];exact fun x=>he x.1)
theorem spec_ints (a b:List Int) (hn:a.length≤1048576):Ev (fun k=>spec_l5Ints.f k a b) (decide (a=b)):=by
 simp only [spec_l5Ints.f]
 by_cases h:a.length=b.length
 ·simp only [if_pos (show (a.length:Int)=(b.length:Int) by omega)]
  exact spec_ints_l0 a b h hn a.length 0 (by omega)
 ·simp only [if_neg (show ¬ (a.length:Int)=(b.length:Int) by omega)]
  exact ev_some (by simp;intro e;exact h (by rw [e]))
end Go.Proofs.Ytogamkblkoobkaa.Pl
end
