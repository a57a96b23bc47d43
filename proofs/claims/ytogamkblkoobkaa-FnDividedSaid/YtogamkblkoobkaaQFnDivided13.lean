/- Texts of the proof of FnDivided, put together. No condition. -/
import Derived.Test.YtogamkblkoobkaaQFnDivided12
import Derived.Test.YtogamkblkoobkaaQFnDivided2
import Derived.Test.YtogamkblkoobkaaQFnDivided7
import Derived.Test.YtogamkblkoobkaaQFnDivided8
import Derived.Test.YtogamkblkoobkaaQFnDivided9
import Derived.Test.YtogamkblkoobkaaQFnDivided5
set_option linter.unusedVariables false
set_option linter.unusedSimpArgs false
section
namespace Go.Proofs.Ytogamkblkoobkaa
open Go.RowKit Go.Shelf Go.Proofs.Ytogamkblkoobkaa.P Go.Proofs.YtogamkblkoobkaaW.PrintWords Go.Proofs.YtogamkblkoobkaaW.PrintLast Go.Proofs.YtogamkblkoobkaaW.PrintMore
def npP {α β:Type} (d:Kd α) (e':Nat) (v:Value) (xs:List α) (d2:Kd β) (e:Nat) (u:Value) (S:List β):Pc:=⟨fun w fp=>Kd.N d e' w 0 (fun k=>k ∈ fp) v xs∧Kd.R d2 e w 0 (fun k=>k ∈ fp) u S∧∀ k ∈ fp,k<w.heap.size,
 fun ⟨h,g,hl⟩ hm=>⟨Kd.N_step h (fun k hk _=>hm k hk),Kd.R_step g (fun k hk _=>hm k hk),fun k hk=>lt_same (hl k hk) (hm k hk)⟩,fun ⟨_,_,hl⟩=>hl⟩
section
variable {w0 w w1:World} {ps:List Pc} {α β:Type} {d:Kd α} {d2:Kd β} {e e':Nat} {v u:Value} {xs:List α} {S:List β}
theorem Sl.np_n (H:Sl w0 w ps) (i:Nat) (hi:ps[i]? = some (npP d e' v xs d2 e u S):=by rfl):Sl w0 w (ps.set i (nwP d e' v xs)):=
 H.turn i hi (fun f ⟨h,g,hl⟩=>⟨h,hl⟩)
theorem Sl.np_r {A:Option Addr} {n c:Nat} (H:Sl w0 w ps) (i:Nat) (hi:ps[i]? = some (npP d e' v xs d2 e (.slice A n c) S):=by rfl):Kd.C d2 w A S.length S:=by
 obtain ⟨f,⟨h,g,hl⟩,hn,hg⟩:=H.get i hi
 exact (Kd.R_reads' g).2.2
theorem Sl.np_l (H:Sl w0 w ps) (i:Nat) (hi:ps[i]? = some (npP d e' v xs d2 e u S):=by rfl):∃ A c,v = .slice A xs.length c∧xs.length≤c∧Kd.C d w A xs.length xs:=by
 obtain ⟨f,⟨h,g,hl⟩,hn,hg⟩:=H.get i hi
 exact Kd.N_reads h
theorem Sl.np_c {A:Option Addr} {n c:Nat} (H:Sl w0 w ps) (i:Nat) (hi:ps[i]? = some (npP d e' (.slice A n c) xs d2 e u S):=by rfl):Kd.C d w A xs.length xs:=by
 obtain ⟨f,⟨h,g,hl⟩,hn,hg⟩:=H.get i hi
 exact (Kd.N_reads' h).2.2
theorem Sl.mkP (H:Sl w0 w ps) (i j:Nat) (hi:ps[i]? = some (nwP d e' v xs):=by rfl) (hj:ps[j]? = some (rwP d2 e u S):=by rfl) (hij:i ≠ j:=by decide):Sl w0 w ((ps.set i (npP d e' v xs d2 e u S)).set j emp):=by
 have HJ:=H.join i j hi hj hij
 have hp:((ps.set i (both (nwP d e' v xs) (rwP d2 e u S))).set j emp)[i]? = some (both (nwP d e' v xs) (rwP d2 e u S)):=by rw [List.getElem?_set_ne (Ne.symm hij),List.getElem?_set_self (List.getElem?_eq_some_iff.1 hi).1]
 have hset:((ps.set i (both (nwP d e' v xs) (rwP d2 e u S))).set j emp).set i (npP d e' v xs d2 e u S)=(ps.set i (npP d e' v xs d2 e u S)).set j emp:=by rw [List.set_comm _ _ (Ne.symm hij),List.set_set]
 rw [← hset]
 refine HJ.turn i hp (fun f ⟨f1,f2,ef,⟨h1,l1⟩,⟨h2,l2⟩⟩=>⟨Kd.N_mono h1 (fun k hk=>by rw [ef];exact List.mem_append_left _ hk),Kd.R_mono h2 (fun k hk=>by rw [ef];exact List.mem_append_right _ hk),fun k hk=>?_⟩)
 rw [ef] at hk
 rcases List.mem_append.1 hk with hk | hk
 ·exact l1 k hk
 ·exact l2 k hk
theorem Sl.nilR (H:Sl w0 w ps) (d:Kd α) (e:Nat):Sl w0 w (ps ++ [rwP d e (.slice none 0 0) []]):=
 H.call ⟨Below.refl _ _,[],⟨[],[],rfl,⟨Kd.R_nil _ _ _ _ _,fun k hk=>by cases hk⟩,rfl⟩,List.nodup_nil,fun k hk=>by cases hk⟩
theorem Sl.nilN (H:Sl w0 w ps) (d:Kd α) (e:Nat):Sl w0 w (ps ++ [nwP d e (.slice none 0 0) []]):=
 H.call ⟨Below.refl _ _,[],⟨[],[],rfl,⟨Kd.N_nil _ _ _ _ _,fun k hk=>by cases hk⟩,rfl⟩,List.nodup_nil,fun k hk=>by cases hk⟩
theorem Sl.litP (H:Sl w0 w ps) (j:Nat) (p:α) (cs:List Value) (hM:∀ f:List Nat,Kd.R d2 e w 0 (fun k=>k ∈ f) u S→d.M w 0 (fun k=>k ∈ f) p cs) (hj:ps[j]? = some (rwP d2 e u S):=by rfl):Sl w0 (w.alloc (.cells cs.toArray e')) (ps.set j (nwP d e' (.slice (some ⟨w.heap.size,0,none⟩) 1 1) [p])):=by
 have hb:Below w.heap.size w (w.alloc (.cells cs.toArray e')):=below_alloc (Below.refl _ _) _
 refine H.upd j hj (below_then H.bel H.bel.size hb) (fun f ⟨h,hl⟩ hn hg=>?_)
 have hm:=hM f h
 refine ⟨w.heap.size :: f,⟨Kd.R_N ⟨fun k hk=>?_,cs,?_,?_⟩,fun k hk=>?_⟩,List.nodup_cons.2 ⟨fun hk=>by have:=hl _ hk;omega,hn⟩,fun k hk=>?_,fun k hk _=>hb.block k hk⟩
 ·have:w.heap.size=k:=by simpa [Value.ownBlock] using hk
  rw [this]
  exact List.mem_cons_self
 ·have h2:=World.ownsRow_lit (base:=0) (e:=e') (size:=d.sz) w cs.toArray 1 (Nat.zero_le _) (by simp [maxLen]) (by simpa using d.K_len (d.K_of_M hm))
  simpa using h2
 ·have hm2:d.M (w.alloc (.cells cs.toArray e')) 0 (fun k=>k ∈ w.heap.size :: f∧some k ≠ (Value.slice (some ⟨w.heap.size,0,none⟩) 1 1).ownBlock) p cs:=d.M_mono (fun k hk=>by
   refine ⟨List.mem_cons_of_mem _ hk,fun he=>?_⟩
   have h3:k=w.heap.size:=by simpa [Value.ownBlock] using he
   have:=hl k hk
   omega) (d.M_move (fun k hk=>hb.block k (hl k hk)) hm)
  refine ⟨by simpa using d.K_len (d.K_of_M hm),fun j q hq=>?_⟩
  cases j with
  | zero =>
   obtain rfl:=Option.some.inj hq
   rw [Nat.zero_mul,List.drop_zero,List.take_of_length_le (Nat.le_of_eq (d.K_len (d.K_of_M hm)))]
   exact hm2
  | succ j=>simp at hq
 ·rcases List.mem_cons.1 hk with rfl | hk
  ·exact blk_lt (blk_new _ _)
  ·exact Nat.lt_of_lt_of_le (hl k hk) hb.size
 ·rcases List.mem_cons.1 hk with rfl | hk
  ·exact Or.inr (Nat.le_refl _)
  ·exact Or.inl hk
end
section
variable {P:Program} {ops:Array Oper} {rest:List Oper} {o:Oper} {a:Act} {Q:Exit→Act→World→Prop} {w0 W:World} {ps:List Pc} {α β:Type} {d:Kd α} {d2:Kd β} {e e':TypeId} {v u:Value} {xs:List α} {S:List β}
theorem Sl.apP (H:Sl w0 W ps) (i j:Nat) (p:α) (cs:List Value) (s x:Operand) (t:TypeId) (z:Value) (bytes:Nat) (hgd:o.guard=none)
  (ho:o.op = .call { callee:=.builtin .append,args:=#[s,x],argTypes:=#[t,t] })
  (ht:P.underlying t=some (.slice e')) (hinfo:(P.info? e').map (fun i=>(i.zero,i.size,i.bytes))=some (some z,d.sz,bytes)) (hz:z.cells.size=d.sz) (hs0:0<d.sz) (hb0:0<bytes)
  (hs:a.eval s=v) (hx:a.eval x = .slice (some ⟨W.heap.size,0,none⟩) 1 1) (hF:∀ f:List Nat,Kd.R d2 e W 0 (fun k=>k ∈ f) u S→Kd.FK d W (fun k=>k ∈ f) p cs) (hl:(xs.length+1) * bytes≤140737488355328)
  (h:∀ v1 w1,Sl w0 w1 ((ps.set i (npP d e' v1 (xs ++ [p]) d2 e u S)).set j emp)→wpList P ops Q rest (a.put o.dst v1) w1) (hi:ps[i]? = some (nwP d e' v xs):=by rfl) (hj:ps[j]? = some (rwP d2 e u S):=by rfl) (hij:i ≠ j:=by decide) :
  wpList P ops Q (o :: rest) a (W.alloc (.cells cs.toArray e')):=by
 have HJ:=H.join i j hi hj hij
 have hp:((ps.set i (both (nwP d e' v xs) (rwP d2 e u S))).set j emp)[i]? = some (both (nwP d e' v xs) (rwP d2 e u S)):=by rw [List.getElem?_set_ne (Ne.symm hij),List.getElem?_set_self (List.getElem?_eq_some_iff.1 hi).1]
 obtain ⟨f,⟨f1,f2,ef,⟨h1,h1l⟩,⟨h2,h2l⟩⟩,hn,hb,hback⟩:=HJ.opn i hp
 have hd:∀ k ∈ f2,k ∉ f1:=fun k h3 h4=>by
  rw [ef] at hn
  exact (List.nodup_append.1 hn).2.2 k h4 k h3 rfl
 have hfl:∀ k ∈ f,k<W.heap.size:=fun k hk=>by
  rw [ef] at hk
  rcases List.mem_append.1 hk with hk | hk
  ·exact h1l k hk
  ·exact h2l k hk
 have hv:∀ k,v.ownBlock=some k→k ∈ f1:=h1.1
 refine Kd.N_append d (w0:=W) 0 hgd s x t e' z bytes ho ht hinfo hz hs0 hb0 v xs p cs (fun k=>k ∈ f∨W.heap.size≤k) (fun k=>k ∈ f2) hs hx (hF f2 h2) (fun k hk=>⟨Or.inl (by rw [ef];exact List.mem_append_right _ hk),fun e=>hd k hk (hv k e.symm)⟩) (fun k hk=>Or.inr hk) (Kd.N_mono h1 (fun k hk=>Or.inl (by rw [ef];exact List.mem_append_left _ hk))) (Below.refl _ _) (Nat.zero_le _) hl ?_
 intro v1 w1 hr hB hg hat
 have hset:((ps.set i (both (nwP d e' v xs) (rwP d2 e u S))).set j emp).set i (npP d e' v1 (xs ++ [p]) d2 e u S)=(ps.set i (npP d e' v1 (xs ++ [p]) d2 e u S)).set j emp:=by rw [List.set_comm _ _ (Ne.symm hij),List.set_set]
 have hR:Kd.R d2 e w1 0 (fun k=>k ∈ f ++ List.range' W.heap.size (w1.heap.size - W.heap.size)) u S:=Kd.R_mono (Kd.R_step h2 (fun k hk hlt=>hg.block k hlt (fun e=>hd k hk (hv k e.symm)))) (fun k hk=>List.mem_append_left _ (by rw [ef];exact List.mem_append_right _ hk))
 refine h v1 w1 ?_
 rw [← hset]
 exact Sl.grown hb hn hfl HJ.bel hback hg (fun k hk=>by rw [ef];exact List.mem_append_left _ (hv k hk)) ⟨Kd.N_mono (Kd.N_bound hr) (fun k hk=>in_new hk.1 hk.2),hR,new_lt hfl hg.size⟩
theorem lp_ (H:Sl w0 W ps) (N:Tmp) (j:Nat) (p:α) (cs:List Value) (d:Kd α) (e':TypeId) (hd:o.dst=some N) (hM:∀ f:List Nat,Kd.R d2 e W 0 (fun k=>k ∈ f) u S→d.M W 0 (fun k=>k ∈ f) p cs)
  (h:∀ g w1,Sl w0 w1 (ps.set j (nwP d e' (.slice (some ⟨g,0,none⟩) 1 1) [p]))→wpList P ops Q rest (a.put o.dst (.slice (some ⟨g,0,none⟩) 1 1)) w1) (hj:ps[j]? = some (rwP d2 e u S):=by rfl) (hgd:o.guard=none:=by rfl)
  (hrun:(execOp a.eval o).run P W = .ok (.value (.slice (some ⟨W.heap.size,0,none⟩) 1 1)) (W.alloc (.cells cs.toArray e')):=by first | (go_simp;done) | (go_simp;rfl)):wpList P ops Q (o :: rest) a W:=
 Kd.event_run hgd hrun (h _ _ (H.litP j p cs hM hj))
end
end Go.Proofs.Ytogamkblkoobkaa
end
section
namespace Go.Proofs.Ytogamkblkoobkaa.Can
open Go.RowKit Go.Shelf Go.Proofs.Ytogamkblkoobkaa Go.Proofs.Ytogamkblkoobkaa.P Go.Proofs.YtogamkblkoobkaaW.PrintWords Go.Proofs.YtogamkblkoobkaaW.PrintLast Go.Proofs.YtogamkblkoobkaaW.PrintMore
theorem put6 {w0 w:World} {ps:List Pc} {u:Value} {M r:List Int} {q:Int} {k:Nat} (H:Sl w0 w ps) (i:Nat) (hi:ps[i]? = some (rwP (Kd.int .i64) 3 u M)) (h:spec_l6Put.f k M q=some r) :
  Calls Try.prog 74 #[u,.int .i64 q] w fun e w'=>∃ x,e = .returned x∧Sl w0 w' (ps.set i (rwP (Kd.int .i64) 3 x r)):=by
 obtain ⟨f,⟨h1,hl⟩,hn,hg,hback⟩:=H.opn i hi
 refine (spec_l6Put.calls k (fun k=>k ∈ f) u M q r w0 w H.bel (Kd.R_raise (b:=0) (fun _ _ _ _ h=>h) h1 (fun k hk=>hg k (h1.1 k hk))) h).mono ?_
 rintro e w' ⟨x,rfl,hx,hB,hK⟩
 refine ⟨x,rfl,hback w' _ (f ++ List.range' w.heap.size (w'.heap.size - w.heap.size)) hB ⟨Kd.R_mono (Kd.R_bound (Kd.R_lower hx (Nat.zero_le _))) (fun k hk=>in_new hk.1 hk.2.2.1),new_lt hl hK.1⟩ (List.nodup_append.2 ⟨hn,List.nodup_range',fun a ha b hb' e=>?_⟩) (fun k hk=>?_) hK.2⟩
 ·rw [List.mem_range'_1] at hb'
  have:=hl a ha
  omega
 ·rcases List.mem_append.1 hk with hk | hk
  ·exact Or.inl hk
  ·rw [List.mem_range'_1] at hk
   exact Or.inr hk.1
end Go.Proofs.Ytogamkblkoobkaa.Can
end
section
namespace Go.Proofs.Ytogamkblkoobkaa.Can
open Go.RowKit Go.Shelf Go.Proofs.Ytogamkblkoobkaa Go.Proofs.Ytogamkblkoobkaa.P Go.Proofs.Ytogamkblkoobkaa.Wk Go.Proofs.Ytogamkblkoobkaa.Lg Go.Proofs.Ytogamkblkoobkaa.Pl Go.Proofs.Ytogamkblkoobkaa.Mp Go.Proofs.Ytogamkblkoobkaa.Bf Go.Proofs.Ytogamkblkoobkaa.Mn Go.Proofs.YtogamkblkoobkaaW.PrintWords Go.Proofs.YtogamkblkoobkaaW.PrintLast Go.Proofs.YtogamkblkoobkaaW.PrintMore
abbrev kSs:=k78
theorem info6:(Try.prog.info? 78).map (fun i=>(i.zero,i.size,i.bytes))=some (some (.agg #[(.int .i64 0),(.slice none 0 0),(.bool false)]),3,40):=by kernel_rfl
theorem mkF6 (W:World) (ok:Nat→Prop) (x:S78) {A1:Option Addr} {c1:Nat} (l1:x.f1.length≤c1) (g1:Kd.F (Kd.int .i64) W ok A1 x.f1.length x.f1):Kd.FK kSs W ok x [.int .i64 x.f0,.slice A1 x.f1.length c1,.bool x.f2]:=fun W2 hW=>k78_mk W2 x l1 (g1 W2 hW)
def Tcc15:Bool × List (List Nat × List Nat):=(true,[([],[]),([0],[0]),([],[]),([],[]),([2,3],[2,3]),([4],[4]),([5],[5]),([1,6],[1,6]),([7],[7]),([],[]),([8,9],[8,9]),([10],[10]),([],[]),([],[]),([],[]),([13,14],[13,14]),([15],[15]),([16],[16]),([],[]),([12,17,18],[12,17,18]),([11,19],[11,19]),([],[]),([21,20,19,0,1,2,3,4,5,6,7,8,9,10,11,12,13,14,15,16,17,18,19,20,21],[20,21])])
def Bcc15:List Nat:=[0,1,0,0,12,28,60,127,255,0,1023,2047,0,0,0,24576,57344,122880,0,520192,1048575,0,4194303]
theorem tabcc15:rtab .any (opsOf Try.f23 15)=Tcc15:=by kernel_rfl
theorem bitscc15:waitsOk Tcc15.2 Bcc15=true:=by kernel_rfl
def Tcc23:Bool × List (List Nat × List Nat):=(true,[([],[]),([0],[0]),([],[]),([],[]),([],[]),([3,4],[3,4]),([5],[5]),([6],[6]),([2,7],[2,7]),([8],[8]),([1,9,8],[1,9]),([0,1,2,3,4,5,6,7,8,9,10],[]),([11,10,10,0,1,2,3,4,5,6,7,8,9,10],[10,11])])
def Bcc23:List Nat:=[0,1,0,0,0,24,56,120,252,508,1023,2047,4095]
theorem tabcc23:rtab .any (opsOf Try.f23 23)=Tcc23:=by kernel_rfl
theorem bitscc23:waitsOk Tcc23.2 Bcc23=true:=by kernel_rfl
theorem rd_en {α:Type} (en:α→Ss) (L:List α) (i:Nat) {x:α} (h:L[i]? = some x):rd_T78 (L.map en) (i:Int)=en x:=by
 obtain ⟨hi,rfl⟩:=List.getElem?_eq_some_iff.1 h
 exact rd_map en L i hi
theorem tl_step {α:Type} {nx:α→Nat→α} {x:α} {j:Nat} (hj:j<3):tl nx x (3 - j) j=nx x j :: tl nx x (3 - (j+1)) (j+1):=by
 rw [show 3 - j=(3 - (j+1))+1 by omega]
 rfl
theorem row_step {α:Type} [DecidableEq α] {nx:α→Nat→α} {x:α} {j:Nat} (hj:j<3) {L LF:List α} {row rF:List Int} (h1:adds L (tl nx x (3 - j) j)=LF) (h2:row ++ (tl nx x (3 - j) j).map (num LF)=rF) {L':List α} (hL:L' = add L (nx x j)) :
  adds L' (tl nx x (3 - (j+1)) (j+1))=LF∧(row ++ [find6 L' (nx x j)]) ++ (tl nx x (3 - (j+1)) (j+1)).map (num LF)=rF:=by
 rw [tl_step hj,adds_cons] at h1
 rw [← hL] at h1
 refine ⟨h1,?_⟩
 have hm:nx x j ∈ L':=by rw [hL];exact mem_add.2 (Or.inr rfl)
 rw [tl_step hj,List.map_cons] at h2
 rw [find6_in hm,← num_pre (R:=LF) hm (by rw [← h1];exact adds_pre _ _),List.append_assoc]
 exact h2
theorem findCall {k nn:Nat} (L:List Wk.Pr) (A:Option Addr) (c:Nat) (q:Int) (AU:Option Addr) (cu:Nat) (S2:List Int) (r:Int) (w:World) (hn:nn=L.length) (hr:Kd.C kSs w A (L.map enC).length (L.map enC)) (hc:nn≤c) (hs:Kd.C (Kd.int .i64) w AU S2.length S2) (hcs:S2.length≤cu) (h:spec_l6Find.f k (L.map enC) q S2 false=some r) :
  Calls Try.prog 75 #[.slice A nn c,.agg #[.int .i64 q,.slice AU S2.length cu,.bool false]] w fun e w'=>e = .returned (.int .i64 r)∧Below w.heap.size w w':=by
 have hl:(L.map enC).length=nn:=by rw [List.length_map,hn]
 have hh:=spec_l6Find.calls k A c (L.map enC) q AU cu S2 false r w hr (by omega) hs hcs h
 rw [hl] at hh
 exact hh
theorem _root_.Go.Proofs.Ytogamkblkoobkaa.Sl.nl_v {α:Type} {d:Kd α} {e e':Nat} {v u:Value} {S:List α} {M:List (List α)} {w0 w:World} {ps:List Pc} (H:Sl w0 w ps) (i:Nat) (hi:ps[i]? = some (nlP d e e' v M u S):=by rfl):∃ A n c,v=Value.slice A n c:=by
 obtain ⟨f,⟨h,_,_⟩,_,_⟩:=H.get i hi
 obtain ⟨A,c,e,_,_⟩:=Kd.N_reads h
 exact ⟨A,_,c,e⟩
theorem setC_at {w0 W:World} {ps:List Pc} {ad7:Addr} {nn c8:Nat} {L:List Wk.Pr} {i:Nat} {x:Wk.Pr} {AS:Option Addr} {cS:Nat} (H:Sl w0 W ps) (k:Nat) (hx:L[i]? = some x) (hcell:W.cell? ⟨(ad7.add (i * 3)).block,(ad7.add (i * 3)).off+1,none⟩=some (.slice AS (sl x.2).length cS)) (hi:ps[k]? = some (nwP kSs 78 (.slice (some ad7) nn c8) (L.map enC)):=by rfl):Kd.C (Kd.int .i64) W AS (sl x.2).length (sl x.2)∧(sl x.2).length≤cS:=by
 have hC:=H.rdN_c k hi
 obtain ⟨ad,A2,c2,e,-,f2,-,hl,hr⟩:=at_T78 hC (i:Int) (by omega) (by rw [List.length_map];have:=(List.getElem?_eq_some_iff.1 hx).1;omega)
 obtain rfl:=Option.some.inj e
 rw [rd_en enC L i hx,Int.toNat_natCast] at f2
 rw [rd_en enC L i hx] at hl hr
 have f2:W.cell? ⟨(ad7.add (i * 3)).block,(ad7.add (i * 3)).off+1,none⟩=some (.slice A2 (sl x.2).length c2):=f2
 rw [f2] at hcell
 injection hcell with hcell
 injection hcell with q1 _ q3
 subst q1 q3
 exact ⟨hr,hl⟩
theorem findC_ev {bl:Nat} (hb:bl≤40) {al:Nat} {b:List Bool} (hbl:b.length=bl) {L:List Wk.Pr} (hL:∀ z ∈ L,DmC al b z) (hn:L.length≤1000) {y:Wk.Pr} (hy:DmC al b y) {q:Int} {S2:List Int} (he:enC y=⟨q,S2,false⟩):∃ k,spec_l6Find.f k (L.map enC) q S2 false=some (find6 L y):=by
 have h:=(find6_ev enC L y (fun x hx e=>enC_inj (by omega) (hL x hx) hy e) (fun x _=>sl_len _) (by omega)).rounds
 rw [he] at h
 exact h
set_option maxHeartbeats 400000000 in
set_option maxRecDepth 100000 in
theorem sccCalls (A0:Option Addr) (c0:Nat) (a:List Bool) (A1:Option Addr) (c1:Nat) (n:List (List Int)) (B0:Option Addr) (d0:Nat) (b:List Bool) (B1:Option Addr) (d1:Nat) (m:List (List Int)) (w:World)
  (hr0:Kd.C Kd.bool w A0 a.length a) (hc0:a.length≤c0) (hr1:Kd.C (Kd.slice 3 (Kd.int .i64)) w A1 n.length n) (hc1:n.length≤c1) (hs0:Kd.C Kd.bool w B0 b.length b) (hd0:b.length≤d0) (hs1:Kd.C (Kd.slice 3 (Kd.int .i64)) w B1 m.length m) (hd1:m.length≤d1)
  (h1:a.length≤1048576) (h2:n.length≤1048576) (h3:b.length≤1048576) (h4:m.length≤1048576) :
  Calls Try.prog 23 #[.agg #[.slice A0 a.length c0,.slice A1 n.length c1],.agg #[.slice B0 b.length d0,.slice B1 m.length d1]] w fun e w'=>∃ v0 v1,e = .returned (.tuple #[.agg #[v0,v1],.bool (ctR a n b m).2.2])∧Kd.R Kd.bool 4 w' w.heap.size (fun _=>True) v0 (ctR a n b m).1∧Kd.S (Kd.slice 3 (Kd.int .i64)) 67 w' w.heap.size (fun _=>True) v1 (ctR a n b m).2.1∧Below w.heap.size w w':=by
 have H:=Sl.start w
 have HCA:=am_ (And.intro (And.intro hr0 hc0) (And.intro hr1 hc1))
 have HCB:=am_ (And.intro (And.intro hs0 hd0) (And.intro hs1 hd1))
 have hu:=Try.underlying27
 obtain ⟨ka,hka⟩:=(spec_valid a n h1 h2).rounds
 obtain ⟨kb,hkb⟩:=(spec_valid b m h3 h4).rounds
 have HVA:=am_ hka
 have HVB:=am_ hkb
 have HX0:=am_ h1
 clear hr0 hc0 hr1 hc1 hs0 hd0 hs1 hd1 hka hkb h1 h2 h3 h4
 cases hv:validD a n with
 | false =>
  rw [hv] at HVA
  have e:ctR a n b m=([],[],false):=by unfold ctR;rw [hv];rw [if_neg];rintro ⟨h,_⟩;cases h
  rw [e]
  clear hv e HVB HX0
  go_enter Try.func23,Try.ntmps23
  go_wp2_with (first
   | ((with_reducible refine gate_dst (N:=2) rfl ?_);refine nw_ H 2 #[.slice A0 a.length c0,.slice A1 n.length c1] 27 rfl ?_;clear H;intro g2 w1 H;replace H:=H.nz)
   | ((with_reducible refine gate_dst (N:=3) rfl ?_);refine nw_ H 3 #[.slice B0 b.length d0,.slice B1 m.length d1] 27 rfl ?_;clear H;intro g3 w1 H;replace H:=H.nz)
   | ((with_reducible refine gate_dst (N:=4) rfl ?_);refine nw_ H 4 #[.slice none 0 0,.slice none 0 0] 27 rfl ?_;clear H;intro g4 w1 H;replace H:=H.nz;have F0:=H.f2 0;have F1:=H.f2 1;have F2:=H.f2 2)
   | ((with_reducible refine gate_dst (N:=16) rfl ?_);refine gL_ (some 16) Try.func35 #[.agg #[.slice A0 a.length c0,.slice A1 n.length c1]] ?_;refine (spec_IsValidDfa.calls ka A0 c0 a A1 c1 n false _ (Kd.C_below HCA.out.1.1 H.bel) HCA.out.1.2 (Kd.C_below HCA.out.2.1 H.bel) HCA.out.2.2 HVA.out).mono ?_;rintro e_ w4 ⟨rfl,hb⟩;replace H:=H.only hb;clear hb;clear F0 F1 F2;have F1:=H.f2 1;have F2:=H.f2 2;refine ⟨_,rfl,?_⟩)
   | ((with_reducible refine gate_store (p:=4) rfl ?_);refine p2_ H 4 2 rfl ?_;clear H F2;intro w1 H;replace H:=H.nz))
  refine bodyPost_ret (results_ct rfl _ _ g4 27 #[.slice none 0 0,.slice none 0 0] (0,0) _ rfl (H.blk 2 rfl) hu rfl (by kernel_rfl)) rfl ?_
  exact ⟨_,_,rfl,Kd.R_nil _ _ _ _ _,Kd.S_nil _ _ _ _ _,H.bel⟩
 | true =>
 rw [hv] at HVA
 cases hv2:validD b m with
 | false =>
  rw [hv2] at HVB
  have e:ctR a n b m=([],[],false):=by unfold ctR;rw [hv2];rw [if_neg];rintro ⟨_,h⟩;cases h
  rw [e]
  clear hv hv2 e HX0
  go_enter Try.func23,Try.ntmps23
  go_wp2_with (first
   | ((with_reducible refine gate_dst (N:=2) rfl ?_);refine nw_ H 2 #[.slice A0 a.length c0,.slice A1 n.length c1] 27 rfl ?_;clear H;intro g2 w1 H;replace H:=H.nz)
   | ((with_reducible refine gate_dst (N:=3) rfl ?_);refine nw_ H 3 #[.slice B0 b.length d0,.slice B1 m.length d1] 27 rfl ?_;clear H;intro g3 w1 H;replace H:=H.nz)
   | ((with_reducible refine gate_dst (N:=4) rfl ?_);refine nw_ H 4 #[.slice none 0 0,.slice none 0 0] 27 rfl ?_;clear H;intro g4 w1 H;replace H:=H.nz;have F0:=H.f2 0;have F1:=H.f2 1;have F2:=H.f2 2)
   | ((with_reducible refine gate_dst (N:=16) rfl ?_);refine gL_ (some 16) Try.func35 #[.agg #[.slice A0 a.length c0,.slice A1 n.length c1]] ?_;refine (spec_IsValidDfa.calls ka A0 c0 a A1 c1 n true _ (Kd.C_below HCA.out.1.1 H.bel) HCA.out.1.2 (Kd.C_below HCA.out.2.1 H.bel) HCA.out.2.2 HVA.out).mono ?_;rintro e_ w4 ⟨rfl,hb⟩;replace H:=H.only hb;clear hb;clear F0 F1 F2;have F1:=H.f2 1;have F2:=H.f2 2;refine ⟨_,rfl,?_⟩)
   | ((with_reducible refine gate_dst (N:=20) rfl ?_);refine gate_guard (by rfl) ?_;dsimp only;refine gL_ (some 20) Try.func35 #[.agg #[.slice B0 b.length d0,.slice B1 m.length d1]] ?_;refine (spec_IsValidDfa.calls kb B0 d0 b B1 d1 m false _ (Kd.C_below HCB.out.1.1 H.bel) HCB.out.1.2 (Kd.C_below HCB.out.2.1 H.bel) HCB.out.2.2 HVB.out).mono ?_;rintro e_ w4 ⟨rfl,hb⟩;replace H:=H.only hb;clear hb;clear F1 F2;have F2:=H.f2 2;refine ⟨_,rfl,?_⟩)
   | ((with_reducible refine gate_store (p:=4) rfl ?_);refine p2_ H 4 2 rfl ?_;clear H F2;intro w1 H;replace H:=H.nz))
  refine bodyPost_ret (results_ct rfl _ _ g4 27 #[.slice none 0 0,.slice none 0 0] (0,0) _ rfl (H.blk 2 rfl) hu rfl (by kernel_rfl)) rfl ?_
  exact ⟨_,_,rfl,Kd.R_nil _ _ _ _ _,Kd.S_nil _ _ _ _ _,H.bel⟩
 | true =>
 rw [hv2] at HVB
 obtain ⟨n1,n2,n3,-⟩:=validD_facts hv
 obtain ⟨k1,k2,-,-⟩:=validD_facts hv2
 have hf:=fits_valid hv
 have hg:=fits_valid hv2
 have ectR:ctR a n b m=(match ctX a n b m with | some q=>fitD q.2.1 q.2.2 | none=>([],[],false)):=by unfold ctR;rw [if_pos ⟨hv,hv2⟩];cases ctX a n b m <;> rfl
 obtain ⟨R,hR⟩:∃ R,ctX a n b m=R:=⟨_,rfl⟩
 have HFI:Aside0 (∀ q,R=some q→∃ k,spec_l5Fits.f k q.2.1 q.2.2=some (fitD q.2.1 q.2.2)):=⟨fun q hq=>by
  have hau:=expl_auto (most:=400) (by omega) (hR.trans hq)
  obtain ⟨g1,g2⟩:=hau.1.rows
  exact (spec_fit g1 (by have:=hau.2;omega) g2).rounds⟩
 rw [ectR,hR]
 obtain ⟨res,hres⟩:∃ res,res=(match R with | some q=>fitD q.2.1 q.2.2 | none=>([],[],false)):=⟨_,rfl⟩
 rw [← hres]
 have HRES:=am_ hres
 have HEX:Aside0 (expl (acCt b) (nxCt a n m) 400 402 ([bgP a ((0:Int),(0:Int))],[],[]) 0=R):=⟨hR⟩
 have HF:=am_ (And.intro hf (And.intro hg (And.intro n1 (And.intro n2 (And.intro k1 (And.intro k2 n3))))))
 obtain ⟨ada,rfl,hac⟩:=Kd.at_bool HCA.out.1.1 0 (by omega) (by omega)
 obtain ⟨adn,A9,c9,rfl,-,-,-⟩:=at_L1 HCA.out.2.1 0 (by omega) (by omega)
 obtain ⟨ac,hacv⟩:∃ ac,rdOf false a 0=ac:=⟨_,rfl⟩
 rw [hacv] at hac
 have HS0:Aside0 (sl (bgSet a ((0:Int),(0:Int)))=cond ac [0] []):=⟨by
  unfold bgSet
  cases h:ac with
  | true=>rw [if_pos (show rdOf false a ((0:Int),(0:Int)).1=true from hacv.trans h),show Go.bits .or .u64 (0:Int) 1=1 from by decide,sl_one];rfl
  | false=>rw [if_neg (show ¬ rdOf false a ((0:Int),(0:Int)).1=true from by show ¬ rdOf false a 0=true;rw [hacv,h];decide),sl_zero];rfl⟩
 have hac:w.cell? ada=some (.bool ac):=by simpa [Addr.add] using hac
 have HE0:Aside0 ((⟨0,cond ac [0] [],false⟩:Ss)=enC (bgP a ((0:Int),(0:Int)))):=⟨by show _=(⟨0,sl (bgSet a ((0:Int),(0:Int))),false⟩:Ss);rw [HS0.out]⟩
 have HAC:=am_ hac
 have hu3:=Try.underlying78
 have pz:((0:Int)<(a.length:Int))=True:=eq_true (by omega)
 have pz2:0<a.length:=by omega
 clear hv hv2 n1 n2 n3 k1 k2 hf hg ectR hR hres hac hacv HX0
 cases ac
 all_goals
  go_enter Try.func23,Try.ntmps23
  go_wp2_with (first
   | ((with_reducible refine gate_dst (N:=2) rfl ?_);refine nw_ H 2 #[.slice (some ada) a.length c0,.slice (some adn) n.length c1] 27 rfl ?_;clear H;intro g2 w1 H;replace H:=H.nz)
   | ((with_reducible refine gate_dst (N:=3) rfl ?_);refine nw_ H 3 #[.slice B0 b.length d0,.slice B1 m.length d1] 27 rfl ?_;clear H;intro g3 w1 H;replace H:=H.nz)
   | ((with_reducible refine gate_dst (N:=4) rfl ?_);refine nw_ H 4 #[.slice none 0 0,.slice none 0 0] 27 rfl ?_;clear H;intro g4 w1 H;replace H:=H.nz;have F0:=H.f2 0;have F1:=H.f2 1;have F2:=H.f2 2)
   | ((with_reducible refine gate_dst (N:=16) rfl ?_);refine gL_ (some 16) Try.func35 #[.agg #[.slice (some ada) a.length c0,.slice (some adn) n.length c1]] ?_;refine (spec_IsValidDfa.calls ka (some ada) c0 a (some adn) c1 n true _ (Kd.C_below HCA.out.1.1 H.bel) HCA.out.1.2 (Kd.C_below HCA.out.2.1 H.bel) HCA.out.2.2 HVA.out).mono ?_;rintro e_ w4 ⟨rfl,hb⟩;replace H:=H.only hb;clear hb;clear F0 F1 F2;have F1:=H.f2 1;have F2:=H.f2 2;refine ⟨_,rfl,?_⟩)
   | ((with_reducible refine gate_dst (N:=20) rfl ?_);refine gate_guard (by rfl) ?_;dsimp only;refine gL_ (some 20) Try.func35 #[.agg #[.slice B0 b.length d0,.slice B1 m.length d1]] ?_;refine (spec_IsValidDfa.calls kb B0 d0 b B1 d1 m true _ (Kd.C_below HCB.out.1.1 H.bel) HCB.out.1.2 (Kd.C_below HCB.out.2.1 H.bel) HCB.out.2.2 HVB.out).mono ?_;rintro e_ w4 ⟨rfl,hb⟩;replace H:=H.only hb;clear hb;clear F1 F2;have F2:=H.f2 2;refine ⟨_,rfl,?_⟩)
   | ((with_reducible refine gate_dst (N:=6) rfl ?_);refine nw_ H 6 #[.int .i64 0,.slice none 0 0,.bool false] 78 rfl ?_;clear H F2;intro g6 w1 H;replace H:=H.nz;have F3:=H.f3 3)
   | ((with_reducible refine gate_store (p:=6) rfl ?_);refine p3_ H 6 3 rfl ?_;clear H F3;intro w1 H;replace H:=H.nz;have F0:=H.f2 0;have F3:=H.f3 3;have FA:=pw_cell_below H.bel HAC.out)
   | ((with_reducible refine gate_dst (N:=29) rfl ?_);refine Kd.R_lit (Kd.int .i64) _ 3 ?hg (N:=29) ?hd (xs:=[0]) (inner:=[.int .i64 0]) (ok:=fun _=>True) (okp:=fun _=>True) ?hr ?hp (fun _ hk=>hk) trivial (Below.refl _ _) (Nat.le_refl _) (by simp) ?_;(case hd=>rfl);(case hg=>rfl);(case hr=>first | (go_simp;done) | (go_simp;rfl));(case hp=>exact (Reps.one (show Kd.M (Kd.int .i64) _ _ _ 0 [.int .i64 0] from rfl) (Reps.none _ _)));intro v29 w3 ho hb hg_ hnew_;clear hg_ hnew_;replace H:=(H.newR hb ho).nz;clear hb ho;(obtain ⟨AS,cS,rfl,-,-⟩:=(H.rd 4).2);clear F0 F3 FA;have F3:=H.f3 3)
   | ((with_reducible refine gate_store (p:=30) rfl ?_);refine p1_ H 30 3 1 rfl ?_;clear H F3;intro w1 H;replace H:=H.nz;simp only [List.setIfInBounds_toArray,List.set_cons_zero,List.set_cons_succ] at H;have F3:=H.f3 3)
   | ((with_reducible refine gate_dst (N:=32) rfl ?_);refine lp_ H 32 4 (⟨0,[0],false⟩:Ss) [.int .i64 0,.slice AS 1 cS,.bool false] kSs 78 rfl (fun f h=>k78_mkM _ 0 _ _ h) ?_;clear H F3;intro g7 w1 H;replace H:=H.nz;rw [show (⟨0,[0],false⟩:Ss)=enC (bgP a ((0:Int),(0:Int))) from HE0.out] at H)
   | ((with_reducible refine gate_dst (N:=32) rfl ?_);replace H:=(H.nilR (Kd.int .i64) 3).nz;refine lp_ H 32 4 (⟨0,[],false⟩:Ss) [.int .i64 0,.slice none 0 0,.bool false] kSs 78 rfl (fun f h=>k78_mkM _ 0 _ _ h) ?_;clear H F3;intro g7 w1 H;replace H:=H.nz;rw [show (⟨0,[],false⟩:Ss)=enC (bgP a ((0:Int),(0:Int))) from HE0.out] at H)
   | ((with_reducible refine gate_dst (N:=8) rfl ?_);refine nw_ H 8 #[.slice none 0 0,.slice none 0 0] 27 rfl ?_;clear H;intro g8 w1 H;replace H:=H.nz;have F5:=H.f2 5)
   | ((with_reducible refine gate_store (p:=8) rfl ?_);refine p2_ H 8 5 rfl ?_;clear H F5;intro w1 H;replace H:=H.nz))
  replace H:=((((H.drop 3 rfl).nz.nilR Kd.bool 4).nz).nilN (Kd.slice 3 (Kd.int .i64)) 67).nz
  go_loopg [7,9] 402 (fun gg v7 v9 w'=>∃ (L:List Wk.Pr) (A:List Bool) (M:List (List Int)) (i:Nat) (vA vN:Value),v9 = .int .i64 (i:Int)∧Aside0 (expl (acCt b) (nxCt a n m) 400 gg (L,A,M) i=R)∧Aside0 ((402≤gg+i∧L.length≤400∧i≤L.length)∧(A.length=i∧M.length=i)∧∀ z ∈ L,DmC a.length b z)∧Sl w w' [bx g2 #[.slice (some ada) a.length c0,.slice (some adn) n.length c1] 27,bx g3 #[.slice B0 b.length d0,.slice B1 m.length d1] 27,bx g4 #[.slice none 0 0,.slice none 0 0] 27,emp,nwP kSs 78 v7 (L.map enC),bx g8 #[vA,vN] 27,rwP Kd.bool 4 vA A,nwP (Kd.slice 3 (Kd.int .i64)) 67 vN M])
  case atStart=>exact ⟨[bgP a ((0:Int),(0:Int))],[],[],0,.slice none 0 0,.slice none 0 0,rfl,HEX,⟨⟨by omega,by simp,by simp⟩,⟨rfl,rfl⟩,fun z hz=>by
   rw [List.mem_singleton.1 hz]
   exact ⟨⟨by show (0:Int)≤0;omega,by show (0:Int)<_;have:=HF.out.2.2.1;omega⟩,low_bg HF.out.2.2.2.2.1 low_zero⟩⟩,H⟩
  case round =>
   clear H HEX HS0 HE0 HAC HVA HVB
   obtain ⟨L,A,M,i,vA,vN,rfl,HEX,HI,H⟩:=hrel
   have hlm:(L.map enC).length=L.length:=List.length_map ..
   obtain ⟨A7,c7,e7,-,-⟩:=H.rdN 4
   rw [hlm] at e7
   subst e7
   by_cases hi:i<L.length
   ·obtain ⟨g1_,rfl⟩:∃ q,gk=q+1:=⟨gk - 1,by have:=HI.out;omega⟩
    obtain ⟨x,hx⟩:∃ x,L[i]? = some x:=⟨_,List.getElem?_eq_getElem hi⟩
    obtain ⟨_,hxi⟩:=List.getElem?_eq_some_iff.1 hx
    have hdx:DmC a.length b x:=HI.out.2.2 x (List.mem_of_getElem? hx)
    have hex:=HEX.out
    rw [expl,dif_pos (show i<(L,A,M).1.length from hi)] at hex
    have hex2:(exRow (nxCt a n m) 400 x 3 0 L []).bind (fun q=>expl (acCt b) (nxCt a n m) 400 g1_ (q.1,A ++ [acCt b x],M ++ [q.2]) (i+1))=R:=by rw [← hxi];exact hex
    obtain ⟨LF,hLF⟩:∃ LF,adds L (tl (nxCt a n m) x (3 - 0) 0)=LF:=⟨_,rfl⟩
    obtain ⟨rF,hrF⟩:∃ rF,[] ++ (tl (nxCt a n m) x (3 - 0) 0).map (num LF)=rF:=⟨_,rfl⟩
    have HNX:Aside0 ((400<LF.length→R=none)∧(LF.length≤400→expl (acCt b) (nxCt a n m) 400 g1_ (LF,A ++ [acCt b x],M ++ [rF]) (i+1)=R)):=⟨by
     cases he:exRow (nxCt a n m) 400 x 3 0 L [] with
     | none =>
      rw [he] at hex2
      have hh:=exRow_none _ _ _ _ he
      rw [← hLF]
      exact ⟨fun _=>hex2.symm,fun h=>absurd hh (by show ¬ 400<(adds L (tl (nxCt a n m) x 3 0)).length;have h:(adds L (tl (nxCt a n m) x 3 0)).length≤400:=h;omega)⟩
     | some q =>
      obtain ⟨q1,q2⟩:=q
      rw [he] at hex2
      obtain ⟨e1,e2,e3⟩:=exRow_some _ _ _ _ _ _ he
      have e1':q1=LF:=e1.trans hLF
      have e4:=e3 HI.out.1.2.1
      subst e1'
      have e2':q2=rF:=e2.trans hrF
      subst e2'
      exact ⟨fun h=>absurd e4 (by omega),fun _=>hex2⟩⟩
    have HX:=am_ (And.intro hx hdx)
    have HLR:=am_ (And.intro hLF hrF)
    have p1:((i:Int)<(L.length:Int))=True:=eq_true (by omega)
    have HI2:=am_ hi
    clear hx hxi hdx hex hex2 hLF hrF hi HEX
    go_wp2_with (((with_reducible refine gate_dst (N:=40) rfl ?_);refine Kd.R_lit (Kd.int .i64) _ 3 ?hg (N:=40) ?hd (xs:=([]:List Int)) (inner:=[]) (ok:=fun _=>True) (okp:=fun _=>True) ?hr ?hp (fun _ hk=>hk) trivial (Below.refl _ _) (Nat.le_refl _) (by simp) ?_;(case hd=>rfl);(case hg=>rfl);(case hr=>first | (go_simp;done) | (go_simp;rfl));(case hp=>exact (Reps.none _ _));intro v10 w3 ho hb hg_ hnew_;clear hg_ hnew_;replace H:=(H.newR hb ho).nz;clear hb ho))
    go_loopg [7,10,11] 3 (fun gg v7 v10 v11 w'=>∃ (Lj:List Wk.Pr) (row:List Int) (j:Nat),v11 = .int .i64 (j:Int)∧Aside0 ((j≤3∧3≤gg+j)∧(row.length=j∧Lj.length≤400+j)∧(adds Lj (tl (nxCt a n m) x (3 - j) j)=LF∧row ++ (tl (nxCt a n m) x (3 - j) j).map (num LF)=rF)∧Lj[i]? = some x∧∀ z ∈ Lj,DmC a.length b z)∧Sl w w' [bx g2 #[.slice (some ada) a.length c0,.slice (some adn) n.length c1] 27,bx g3 #[.slice B0 b.length d0,.slice B1 m.length d1] 27,bx g4 #[.slice none 0 0,.slice none 0 0] 27,emp,nwP kSs 78 v7 (Lj.map enC),bx g8 #[vA,vN] 27,rwP Kd.bool 4 vA A,nwP (Kd.slice 3 (Kd.int .i64)) 67 vN M,rwP (Kd.int .i64) 3 v10 row])
    case atStart=>exact ⟨L,[],0,rfl,⟨⟨by omega,by omega⟩,⟨rfl,by have:=HI.out.1.2.1;omega⟩,HLR.out,HX.out.1,HI.out.2.2⟩,H⟩
    case round =>
     clear H p1 HLR
     obtain ⟨Lj,row,j,rfl,HJ,H⟩:=hrel
     by_cases hj:j<3
     ·obtain ⟨g2_,rfl⟩:∃ q,gk=q+1:=⟨gk - 1,by have:=HJ.out.1;omega⟩
      have hcj:=H.rdN 4
      obtain ⟨A8,c8,e8,hc8,hC8⟩:=hcj
      have hlj:(Lj.map enC).length=Lj.length:=List.length_map ..
      rw [hlj] at e8 hc8
      obtain ⟨ad7,AS,cS,e7,f1,f2,-,hls,hCs⟩:=at_T78 hC8 (i:Int) (by omega) (by rw [hlj];have:=(List.getElem?_eq_some_iff.1 HJ.out.2.2.2.1).1;omega)
      subst e7
      subst e8
      rw [rd_en enC Lj i HJ.out.2.2.2.1,Int.toNat_natCast] at f1 f2
      rw [rd_en enC Lj i HJ.out.2.2.2.1] at hls hCs
      have f1:wr.cell? (ad7.add (i * 3))=some (.int .i64 x.1):=f1
      have f2:wr.cell? ⟨(ad7.add (i * 3)).block,(ad7.add (i * 3)).off+1,none⟩=some (.slice AS (sl x.2).length cS):=f2
      have hdx:=HX.out.2
      have hnx:=nx_in HF.out.1 hdx.1 j hj
      obtain ⟨ad',Ar,cr,e',f3,-,hrow⟩:=at_L1 (Kd.C_below HCA.out.2.1 H.bel) x.1 hdx.1.1 (by have:=hdx.1.2;have:=HF.out.2.2.2.2.2.2;omega)
      obtain rfl:adn=ad':=Option.some.inj e'
      clear e'
      have hr3:(rd_L1 n x.1).length=3:=hnx.1
      obtain ⟨adr,rfl,f4⟩:=Kd.at_int hrow (j:Int) (by omega) (by omega)
      rw [Int.toNat_natCast] at f4
      have f4:wr.cell? (adr.add j)=some (.int .i64 (nxD n x.1 j)):=f4
      obtain ⟨y,hy⟩:∃ y,y=nxCt a n m x j:=⟨_,rfl⟩
      have hdy:DmC a.length b y:=by rw [hy];exact ct_step HF.out.1 HF.out.2.1 HF.out.2.2.2.2.2.1 HF.out.2.2.2.2.1 x hdx j hj
      obtain ⟨km,hkm⟩:=(move_ev HF.out.2.1 HF.out.2.2.2.2.2.1 hdx.2 j hj).rounds
      have HKM:=am_ hkm
      obtain ⟨AS_,hAS_⟩:∃ AS_:Unit,AS_=():=⟨_,rfl⟩
      have p1:((j:Int)<3)=True:=eq_true (by omega)
      have p2:((0:Int)≤(i:Int))=True:=eq_true (by omega)
      have p3:((i:Int)<(Lj.length:Int))=True:=eq_true (by have:=(List.getElem?_eq_some_iff.1 HJ.out.2.2.2.1).1;omega)
      have p4:((0:Int)≤x.1)=True:=eq_true hdx.1.1
      have p5:(x.1<(n.length:Int))=True:=eq_true (by have:=hdx.1.2;have:=HF.out.2.2.2.2.2.2;omega)
      have p6:((0:Int)≤(j:Int))=True:=eq_true (by omega)
      have p7:((j:Int)<((rd_L1 n x.1).length:Int))=True:=eq_true (by omega)
      have p8:((0:Int)≤nxD n x.1 j)=True:=eq_true hnx.2.1
      have p9:(nxD n x.1 j<(a.length:Int))=True:=eq_true hnx.2.2
      have HY:=am_ (And.intro hy hdy)
      have HC8:=am_ hc8
      have HJ3:=am_ hj
      have F0:=H.f2 0
      have F1:=H.f2 1
      clear hC8 hls hCs hrow hr3 hkm hnx hdx hy hdy hc8 hlj hj AS_ hAS_
      go_wp2
      refine start_ (n:=23) (S:=(fun w'=>w'.cell? ⟨g2,1,none⟩=some (.slice (some adn) n.length c1)∧w'.cell? (ad7.add (i * 3))=some (.int .i64 x.1)∧w'.cell? (adn.add x.1.toNat)=some (.slice (some adr) (rd_L1 n x.1).length cr)∧w'.cell? (adr.add j)=some (.int .i64 (nxD n x.1 j))∧w'.cell? ⟨g3,0,none⟩=some (.slice B0 b.length d0)∧w'.cell? ⟨g3,1,none⟩=some (.slice B1 m.length d1)∧w'.cell? ⟨(ad7.add (i * 3)).block,(ad7.add (i * 3)).off+1,none⟩=some (.slice AS (sl x.2).length cS))) (ds:=[22]) (bl 23 0) (by kernel_rfl) rfl rfl (⟨F0.2.1,f1,f3,f4,F1.1.1,F1.2.1,f2⟩) (fun hHeld=>?_);refine with_tabW tabcc15 bitscc15 (fun HT_ HW_=>?_)
      clear F0 F1 f1 f2 f3 f4
      replace H:=H.drew
      refine ph_ 0 45 (bl 23 1) HT_ ?_
      refine ph_ 2 47 (bl 23 5) HT_ ?_
      refine ph_ 3 48 (bl 23 13) HT_ ?_
      refine ph_ 4 49 (bl 23 29) HT_ ?_
      refine ph_ 5 50 (bl 23 61) HT_ ?_
      refine ph_ 9 54 (bl 23 573) HT_ ?_
      refine ph_ 13 58 (bl 23 8765) HT_ ?_
      refine ph_ 14 59 (bl 23 25149) HT_ ?_
      refine ph_ 15 60 (bl 23 57917) HT_ ?_
      refine ph_ 16 61 (bl 23 123453) HT_ ?_
      refine ph_ 18 63 (bl 23 385597) HT_ ?_
      refine th_ 1 46 (bl 23 385599) HT_ HW_ hHeld ?_
      refine th_ 6 51 (bl 23 385663) HT_ HW_ hHeld ?_
      refine ph_ 7 52 (bl 23 385791) HT_ ?_
      refine th_ 8 53 (bl 23 386047) HT_ HW_ hHeld ?_
      refine ph_ 10 55 (bl 23 387071) HT_ ?_
      refine th_ 11 56 (bl 23 389119) HT_ HW_ hHeld ?_
      refine th_ 12 57 (bl 23 393215) HT_ HW_ hHeld ?_
      refine th_ 17 62 (bl 23 524287) HT_ HW_ hHeld ?_
      refine join_ (σ:=Option Addr × Nat × Nat) 1 (bl 23 4194303) (fun s_=>[(64,.slice s_.1 (sl (mvS m x.2 (j:Int))).length s_.2.1),(65,(.agg #[.int .i64 (nxD n x.1 j),.slice s_.1 (sl (mvS m x.2 (j:Int))).length s_.2.1,.bool false])),(12,.pointer (some ⟨s_.2.2,0,none⟩))]) (fun s_ w'=>Sl w w' [bx g2 #[.slice (some ada) a.length c0,.slice (some adn) n.length c1] 27,bx g3 #[.slice B0 b.length d0,.slice B1 m.length d1] 27,bx g4 #[.slice none 0 0,.slice none 0 0] 27,emp,nwP kSs 78 (.slice (some ad7) Lj.length c8) (Lj.map enC),bx g8 #[vA,vN] 27,rwP Kd.bool 4 vA A,nwP (Kd.slice 3 (Kd.int .i64)) 67 vN M,rwP (Kd.int .i64) 3 u10 row,rwP (Kd.int .i64) 3 (.slice s_.1 (sl (mvS m x.2 (j:Int))).length s_.2.1) (sl (mvS m x.2 (j:Int))),bx s_.2.2 #[.int .i64 0,.slice none 0 0,.bool false] 78]) ?_ ?_
      rotate_left
      ·intro hCont
       refine tw_ 19 21 (some 64) (some 12) (bl 23 1048575) (bl 23 2621439) HT_ (fun K hK=>?_) (fun K hK=>?_)
       ·refine gO_ Try.func73 #[.agg #[.slice B0 b.length d0,.slice B1 m.length d1],.slice AS (sl x.2).length cS,.int .i64 (j:Int)] ?_
        refine (spec_l6Move.calls km B0 d0 b B1 d1 m AS cS (sl x.2) (j:Int) (sl (mvS m x.2 (j:Int))) _ (Kd.C_below HCB.out.1.1 H.bel) HCB.out.1.2 (Kd.C_below HCB.out.2.1 H.bel) HCB.out.2.2 (setC_at H 4 HJ.out.2.2.2.1 hHeld.2.2.2.2.2.2).1 (setC_at H 4 HJ.out.2.2.2.1 hHeld.2.2.2.2.2.2).2 HKM.out).mono ?_
        rintro e_ w4 ⟨v64,rfl,ho,hb⟩
        replace H:=(H.newR hb ho).nz
        obtain ⟨A64,c64,rfl,-,-⟩:=(H.rd 9).2
        refine ⟨_,rfl,?_⟩
        refine hK.out _ _ (sb_ hb hHeld) (fun hHeld=>?_)
        clear hK K ho hb
        refine nm_ 64 ?_
        refine ph_ 20 65 (bl 23 2097151) HT_ ?_
        refine on_ 21 (some 12) (bl 23 4194303) HT_ (fun K hK=>?_)
        refine ns_ H 12 #[.int .i64 0,.slice none 0 0,.bool false] 78 rfl (fun ga w5 H5 hb=>?_)
        refine hK.out _ _ (sb_ hb hHeld) (fun hHeld=>?_)
        clear hK K H hb
        have H:=H5
        clear H5
        refine nm_ 12 ?_
        exact ed_ (hCont (A64,c64,ga) _ H) (by first | (simp only [putAll,Act.put,List.setIfInBounds_toArray,List.set_cons_zero,List.set_cons_succ];done) | (simp only [putAll,Act.put,List.setIfInBounds_toArray,List.set_cons_zero,List.set_cons_succ];rfl))
       ·refine ns_ H 12 #[.int .i64 0,.slice none 0 0,.bool false] 78 rfl (fun ga w5 H5 hb=>?_)
        refine hK.out _ _ (sb_ hb hHeld) (fun hHeld=>?_)
        clear hK K H hb
        have H:=H5
        clear H5
        refine nm_ 12 ?_
        refine on_ 19 (some 64) (bl 23 3145727) HT_ (fun K hK=>?_)
        refine gO_ Try.func73 #[.agg #[.slice B0 b.length d0,.slice B1 m.length d1],.slice AS (sl x.2).length cS,.int .i64 (j:Int)] ?_
        refine (spec_l6Move.calls km B0 d0 b B1 d1 m AS cS (sl x.2) (j:Int) (sl (mvS m x.2 (j:Int))) _ (Kd.C_below HCB.out.1.1 H.bel) HCB.out.1.2 (Kd.C_below HCB.out.2.1 H.bel) HCB.out.2.2 (setC_at H 4 HJ.out.2.2.2.1 hHeld.2.2.2.2.2.2).1 (setC_at H 4 HJ.out.2.2.2.1 hHeld.2.2.2.2.2.2).2 HKM.out).mono ?_
        rintro e_ w4 ⟨v64,rfl,ho,hb⟩
        replace H:=(H.newR hb ho).nz
        obtain ⟨A64,c64,rfl,-,-⟩:=(H.rd 10).2
        refine ⟨_,rfl,?_⟩
        refine hK.out _ _ (sb_ hb hHeld) (fun hHeld=>?_)
        clear hK K ho hb
        refine nm_ 64 ?_
        refine ph_ 20 65 (bl 23 4194303) HT_ ?_
        exact ed_ (hCont (A64,c64,ga) _ (H.sel [0,1,2,3,4,5,6,7,8,10,9])) (by first | (simp only [putAll,Act.put,List.setIfInBounds_toArray,List.set_cons_zero,List.set_cons_succ];done) | (simp only [putAll,Act.put,List.setIfInBounds_toArray,List.set_cons_zero,List.set_cons_succ];rfl))
      rintro ⟨A64,c64,g12⟩ w7 H
      refine norm_ (a':=?_) ?_ ?_
      rotate_left
      ·show putAll _ _=_
       simp only [putAll,Act.put,List.setIfInBounds_toArray,List.set_cons_zero,List.set_cons_succ]
       rfl
      dsimp only at H
      refine last_ (i:=22) (N:=none) (bl 23 8388607) rfl rfl (one_of HT_.out (by kernel_rfl)) (by decide) (fun K hK=>?_)
      have F12:=H.f3 10
      refine s3_ H 10 (fun w8 H=>?_)
      refine hK.out _ _ ?_
      clear hK K F12
      refine done_ (done_of HT_.out (by kernel_rfl)) ?_
      clear HT_ HW_
      replace H:=H.nz
      have F0:=H.f2 0
      have F12:=H.f3 10
      obtain ⟨ad'',e'',f5⟩:=Kd.at_bool (Kd.C_below HCA.out.1.1 H.bel) (nxD n x.1 j) (of_eq_true p8) (of_eq_true p9)
      obtain rfl:ada=ad'':=Option.some.inj e''
      clear e''
      have hc64:=(H.rd 9).2
      obtain ⟨_,_,e_,hc64,-⟩:=hc64
      have HC64:Aside0 ((sl (mvS m x.2 (j:Int))).length≤c64):=⟨by injection e_ with _ _ e3;rw [e3];exact hc64⟩
      clear e_ hc64
      obtain ⟨acq,hacq⟩:∃ acq,rdOf false a (nxD n x.1 j)=acq:=⟨_,rfl⟩
      rw [hacq] at f5
      by_cases hy:y ∈ Lj
      ·cases acq with
       | true =>
        have HE2:enC y=(⟨(nxD n x.1 j),(putI 0 (sl (mvS m x.2 (j:Int)))),false⟩:Ss):=by rw [HY.out.1];show (⟨_,sl (bgSet a (nxD n x.1 j,mvS m x.2 (j:Int))),false⟩:Ss)=_;unfold bgSet;rw [if_pos (show rdOf false a (nxD n x.1 j)=true from hacq)];rw [sl_or HF.out.2.2.2.2.2.1 HF.out.2.2.2.2.1 (low_mv HF.out.2.1 HF.out.2.2.2.2.2.1 j HJ3.out)];rfl
        obtain ⟨kf1,hkf1⟩:=findC_ev (bl:=b.length) HF.out.2.2.2.2.2.1 rfl HJ.out.2.2.2.2 (by have:=HJ.out.2.1.2;have:=HJ.out.1.1;omega) HY.out.2 HE2
        have HF1:=am_ hkf1
        clear hkf1
        obtain ⟨kp,hkp⟩:=(put_ev (sl (mvS m x.2 (j:Int))) 0 (by have:=sl_len (mvS m x.2 (j:Int));omega)).rounds
        have HKP:=am_ hkp
        clear hkp
        have qf:(find6 Lj y<0)=False:=eq_false (by rw [find6_in hy,num_eq hy];omega)
        have HIN:=am_ hy
        clear HE2 hacq hy
        go_wp2_with (first
         | ((with_reducible refine gate_dst (N:=74) rfl ?_);refine gL_ (some 74) Try.func74 #[.slice A64 (sl (mvS m x.2 (j:Int))).length c64,.int .i64 0] ?_;refine (put6 H 9 rfl HKP.out).mono ?_;rintro e_ w4 ⟨z,rfl,H2⟩;clear H F12;have H:=H2.nz;clear H2;(obtain ⟨A65,c65,rfl,hc65,-⟩:=(H.rd 9).2);have HCU:=am_ hc65;clear hc65;have F12:=H.f3 10;refine ⟨_,rfl,?_⟩)
         | ((with_reducible refine gate_store (p:=75) rfl ?_);refine p1_ H 75 10 1 rfl ?_;clear H F12;intro w5 H;replace H:=H.nz;simp only [List.setIfInBounds_toArray,List.set_cons_zero,List.set_cons_succ] at H;have F12:=H.f3 10)
         | ((with_reducible refine gate_dst (N:=78) rfl ?_);refine gL_ (some 78) Try.func75 #[.slice (some ad7) Lj.length c8,.agg #[.int .i64 (nxD n x.1 j),.slice A65 (putI 0 (sl (mvS m x.2 (j:Int)))).length c65,.bool false]] ?_;refine (findCall Lj (some ad7) c8 (nxD n x.1 j) A65 c65 (putI 0 (sl (mvS m x.2 (j:Int)))) (find6 Lj y) _ rfl (H.rdN_c 4) HC8.out (H.rd_c 9) HCU.out HF1.out).mono ?_;rintro e_ w6 ⟨rfl,hb⟩;replace H:=H.only hb;clear hb F12;have F12:=H.f3 10;refine ⟨_,rfl,?_⟩)
         | ((with_reducible refine gate_dst (N:=87) rfl ?_);replace H:=(H.mkP 4 9).nz;refine gL_ (some 87) Try.func75 #[.slice (some ad7) Lj.length c8,.agg #[.int .i64 (nxD n x.1 j),.slice A65 (putI 0 (sl (mvS m x.2 (j:Int)))).length c65,.bool false]] ?_;refine (findCall Lj (some ad7) c8 (nxD n x.1 j) A65 c65 (putI 0 (sl (mvS m x.2 (j:Int)))) (find6 Lj y) _ rfl (H.np_c 4) HC8.out (H.np_r 4) HCU.out HF1.out).mono ?_;rintro e_ w6 ⟨rfl,hb⟩;replace H:=H.only hb;clear hb F12;have F12:=H.f3 10;refine ⟨_,rfl,?_⟩)
         | ((with_reducible refine gate_builtin (b:=.append) (xs:=#[.tmp 84,.tmp 88]) rfl ?_);at_builtin;refine H.apR (d:=Kd.int .i64) (e:=3) 8 (find6 Lj y) [.int .i64 (find6 Lj y)] (.tmp 84) (.tmp 88) 67 (.int .i64 0) 8 rfl rfl Try.underlying67 info3 rfl (by decide) (by decide) rfl rfl ?aP ?aL ?_;(case aP=>exact rfl);(case aL=>have:=HJ.out.2.1.1;have:=HJ.out.1.1;omega);clear H F12;intro v10n w7 H;replace H:=H.nz))
        go_roundg g2_
        case measure=>omega
        case rel =>
         have hst:=row_step (nx:=nxCt a n m) (x:=x) HJ3.out HJ.out.2.2.1.1 HJ.out.2.2.1.2 (L':=Lj) (by rw [← HY.out.1];exact (add_in HIN.out).symm)
         rw [← HY.out.1] at hst
         have H3:=(H.np_n 4).nz.pre 9
         refine ⟨Lj,row ++ [find6 Lj y],j+1,by first | rfl | (rw [up1 (by have:=HJ3.out;omega)]),⟨⟨by have:=HJ3.out;omega,by have:=HJ.out.1;omega⟩,⟨by rw [List.length_append,HJ.out.2.1.1];rfl,by have:=HJ.out.2.1.2;omega⟩,hst,HJ.out.2.2.2.1,HJ.out.2.2.2.2⟩,H3⟩
       | false =>
        have HE2:enC y=(⟨(nxD n x.1 j),(sl (mvS m x.2 (j:Int))),false⟩:Ss):=by rw [HY.out.1];show (⟨_,sl (bgSet a (nxD n x.1 j,mvS m x.2 (j:Int))),false⟩:Ss)=_;unfold bgSet;rw [if_neg (show ¬ rdOf false a (nxD n x.1 j)=true from by rw [hacq];decide)];rfl
        obtain ⟨kf1,hkf1⟩:=findC_ev (bl:=b.length) HF.out.2.2.2.2.2.1 rfl HJ.out.2.2.2.2 (by have:=HJ.out.2.1.2;have:=HJ.out.1.1;omega) HY.out.2 HE2
        have HF1:=am_ hkf1
        clear hkf1
        have qf:(find6 Lj y<0)=False:=eq_false (by rw [find6_in hy,num_eq hy];omega)
        have HCU:Aside0 ((sl (mvS m x.2 (j:Int))).length≤c64):=⟨HC64.out⟩
        have HIN:=am_ hy
        clear HE2 hacq hy
        go_wp2_with (first
         | ((with_reducible refine gate_dst (N:=78) rfl ?_);refine gL_ (some 78) Try.func75 #[.slice (some ad7) Lj.length c8,.agg #[.int .i64 (nxD n x.1 j),.slice A64 (sl (mvS m x.2 (j:Int))).length c64,.bool false]] ?_;refine (findCall Lj (some ad7) c8 (nxD n x.1 j) A64 c64 (sl (mvS m x.2 (j:Int))) (find6 Lj y) _ rfl (H.rdN_c 4) HC8.out (H.rd_c 9) HCU.out HF1.out).mono ?_;rintro e_ w6 ⟨rfl,hb⟩;replace H:=H.only hb;clear hb F12;have F12:=H.f3 10;refine ⟨_,rfl,?_⟩)
         | ((with_reducible refine gate_dst (N:=87) rfl ?_);replace H:=(H.mkP 4 9).nz;refine gL_ (some 87) Try.func75 #[.slice (some ad7) Lj.length c8,.agg #[.int .i64 (nxD n x.1 j),.slice A64 (sl (mvS m x.2 (j:Int))).length c64,.bool false]] ?_;refine (findCall Lj (some ad7) c8 (nxD n x.1 j) A64 c64 (sl (mvS m x.2 (j:Int))) (find6 Lj y) _ rfl (H.np_c 4) HC8.out (H.np_r 4) HCU.out HF1.out).mono ?_;rintro e_ w6 ⟨rfl,hb⟩;replace H:=H.only hb;clear hb F12;have F12:=H.f3 10;refine ⟨_,rfl,?_⟩)
         | ((with_reducible refine gate_builtin (b:=.append) (xs:=#[.tmp 84,.tmp 88]) rfl ?_);at_builtin;refine H.apR (d:=Kd.int .i64) (e:=3) 8 (find6 Lj y) [.int .i64 (find6 Lj y)] (.tmp 84) (.tmp 88) 67 (.int .i64 0) 8 rfl rfl Try.underlying67 info3 rfl (by decide) (by decide) rfl rfl ?aP ?aL ?_;(case aP=>exact rfl);(case aL=>have:=HJ.out.2.1.1;have:=HJ.out.1.1;omega);clear H F12;intro v10n w7 H;replace H:=H.nz))
        go_roundg g2_
        case measure=>omega
        case rel =>
         have hst:=row_step (nx:=nxCt a n m) (x:=x) HJ3.out HJ.out.2.2.1.1 HJ.out.2.2.1.2 (L':=Lj) (by rw [← HY.out.1];exact (add_in HIN.out).symm)
         rw [← HY.out.1] at hst
         have H3:=(H.np_n 4).nz.pre 9
         refine ⟨Lj,row ++ [find6 Lj y],j+1,by first | rfl | (rw [up1 (by have:=HJ3.out;omega)]),⟨⟨by have:=HJ3.out;omega,by have:=HJ.out.1;omega⟩,⟨by rw [List.length_append,HJ.out.2.1.1];rfl,by have:=HJ.out.2.1.2;omega⟩,hst,HJ.out.2.2.2.1,HJ.out.2.2.2.2⟩,H3⟩
      ·cases acq with
       | true =>
        have HE2:enC y=(⟨(nxD n x.1 j),(putI 0 (sl (mvS m x.2 (j:Int)))),false⟩:Ss):=by rw [HY.out.1];show (⟨_,sl (bgSet a (nxD n x.1 j,mvS m x.2 (j:Int))),false⟩:Ss)=_;unfold bgSet;rw [if_pos (show rdOf false a (nxD n x.1 j)=true from hacq)];rw [sl_or HF.out.2.2.2.2.2.1 HF.out.2.2.2.2.1 (low_mv HF.out.2.1 HF.out.2.2.2.2.2.1 j HJ3.out)];rfl
        obtain ⟨kf1,hkf1⟩:=findC_ev (bl:=b.length) HF.out.2.2.2.2.2.1 rfl HJ.out.2.2.2.2 (by have:=HJ.out.2.1.2;have:=HJ.out.1.1;omega) HY.out.2 HE2
        have HF1:=am_ hkf1
        clear hkf1
        obtain ⟨kp,hkp⟩:=(put_ev (sl (mvS m x.2 (j:Int))) 0 (by have:=sl_len (mvS m x.2 (j:Int));omega)).rounds
        have HKP:=am_ hkp
        clear hkp
        have qf:(find6 Lj y<0)=True:=eq_true (by unfold find6;rw [if_neg hy];decide)
        obtain ⟨kf2,hkf2⟩:=findC_ev (bl:=b.length) (L:=Lj ++ [y]) HF.out.2.2.2.2.2.1 rfl (fun z hz=>(List.mem_append.1 hz).elim (HJ.out.2.2.2.2 z) (fun h=>by rw [List.mem_singleton.1 h];exact HY.out.2)) (by have:=HJ.out.2.1.2;have:=HJ.out.1.1;simp only [List.length_append,List.length_singleton];omega) HY.out.2 HE2
        have HF2:=am_ hkf2
        clear hkf2
        have HAP:Aside0 (Lj.map enC ++ [(⟨(nxD n x.1 j),(putI 0 (sl (mvS m x.2 (j:Int)))),false⟩:Ss)]=(Lj ++ [y]).map enC):=⟨by rw [List.map_append,List.map_singleton,HE2]⟩
        have HIN:=am_ hy
        clear HE2 hacq hy
        go_wp2_with (first
         | ((with_reducible refine gate_dst (N:=74) rfl ?_);refine gL_ (some 74) Try.func74 #[.slice A64 (sl (mvS m x.2 (j:Int))).length c64,.int .i64 0] ?_;refine (put6 H 9 rfl HKP.out).mono ?_;rintro e_ w4 ⟨z,rfl,H2⟩;clear H F12;have H:=H2.nz;clear H2;(obtain ⟨A65,c65,rfl,hc65,-⟩:=(H.rd 9).2);have HCU:=am_ hc65;clear hc65;have F12:=H.f3 10;refine ⟨_,rfl,?_⟩)
         | ((with_reducible refine gate_store (p:=75) rfl ?_);refine p1_ H 75 10 1 rfl ?_;clear H F12;intro w5 H;replace H:=H.nz;simp only [List.setIfInBounds_toArray,List.set_cons_zero,List.set_cons_succ] at H;have F12:=H.f3 10)
         | ((with_reducible refine gate_dst (N:=78) rfl ?_);refine gL_ (some 78) Try.func75 #[.slice (some ad7) Lj.length c8,.agg #[.int .i64 (nxD n x.1 j),.slice A65 (putI 0 (sl (mvS m x.2 (j:Int)))).length c65,.bool false]] ?_;refine (findCall Lj (some ad7) c8 (nxD n x.1 j) A65 c65 (putI 0 (sl (mvS m x.2 (j:Int)))) (find6 Lj y) _ rfl (H.rdN_c 4) HC8.out (H.rd_c 9) HCU.out HF1.out).mono ?_;rintro e_ w6 ⟨rfl,hb⟩;replace H:=H.only hb;clear hb F12;have F12:=H.f3 10;refine ⟨_,rfl,?_⟩)
         | ((with_reducible refine gate_builtin (b:=.append) (xs:=#[.tmp 80,.tmp 82]) rfl ?_);at_builtin;refine H.apP (d:=kSs) (d2:=Kd.int .i64) (e:=3) (e':=78) 4 9 (⟨(nxD n x.1 j),(putI 0 (sl (mvS m x.2 (j:Int)))),false⟩:Ss) [.int .i64 (nxD n x.1 j),.slice A65 (putI 0 (sl (mvS m x.2 (j:Int)))).length c65,.bool false] (.tmp 80) (.tmp 82) 79 (.agg #[(.int .i64 0),(.slice none 0 0),(.bool false)]) 40 rfl rfl Try.underlying79 info6 rfl (by decide) (by decide) rfl rfl (fun f h=>mkF6 _ _ (⟨(nxD n x.1 j),(putI 0 (sl (mvS m x.2 (j:Int)))),false⟩:Ss) HCU.out (Kd.R_F h)) ?aL ?_;(case aL=>have:=HJ.out.2.1.2;have:=HI.out.1.2.1;have:=HJ.out.1.1;rw [List.length_map];omega);clear H F12;intro v8 w6 H;replace H:=H.nz;rw [HAP.out] at H;(obtain ⟨A9,c9,e9,hc9,-⟩:=H.np_l 4);rw [show ((Lj ++ [y]).map enC).length=Lj.length+1 by simp] at e9 hc9;subst e9;have HC9:=am_ hc9;clear hc9;have F12:=H.f3 10)
         | ((with_reducible refine gate_dst (N:=87) rfl ?_);refine gL_ (some 87) Try.func75 #[.slice A9 (Lj.length+1) c9,.agg #[.int .i64 (nxD n x.1 j),.slice A65 (putI 0 (sl (mvS m x.2 (j:Int)))).length c65,.bool false]] ?_;refine (findCall (Lj ++ [y]) A9 c9 (nxD n x.1 j) A65 c65 (putI 0 (sl (mvS m x.2 (j:Int)))) (find6 (Lj ++ [y]) y) _ (by simp) (H.np_c 4) HC9.out (H.np_r 4) HCU.out HF2.out).mono ?_;rintro e_ w6 ⟨rfl,hb⟩;replace H:=H.only hb;clear hb F12;have F12:=H.f3 10;refine ⟨_,rfl,?_⟩)
         | ((with_reducible refine gate_builtin (b:=.append) (xs:=#[.tmp 84,.tmp 88]) rfl ?_);at_builtin;refine H.apR (d:=Kd.int .i64) (e:=3) 8 (find6 (Lj ++ [y]) y) [.int .i64 (find6 (Lj ++ [y]) y)] (.tmp 84) (.tmp 88) 67 (.int .i64 0) 8 rfl rfl Try.underlying67 info3 rfl (by decide) (by decide) rfl rfl ?aP ?aL ?_;(case aP=>exact rfl);(case aL=>have:=HJ.out.2.1.1;have:=HJ.out.1.1;omega);clear H F12;intro v10n w7 H;replace H:=H.nz))
        go_roundg g2_
        case measure=>omega
        case rel =>
         have hst:=row_step (nx:=nxCt a n m) (x:=x) HJ3.out HJ.out.2.2.1.1 HJ.out.2.2.1.2 (L':=(Lj ++ [y])) (by rw [← HY.out.1];exact (add_out HIN.out).symm)
         rw [← HY.out.1] at hst
         have H3:=(H.np_n 4).nz.pre 9
         refine ⟨(Lj ++ [y]),row ++ [find6 (Lj ++ [y]) y],j+1,by first | rfl | (rw [up1 (by have:=HJ3.out;omega)]),⟨⟨by have:=HJ3.out;omega,by have:=HJ.out.1;omega⟩,⟨by rw [List.length_append,HJ.out.2.1.1];rfl,by have:=HJ.out.2.1.2;simp only [List.length_append,List.length_singleton];omega⟩,hst,by rw [List.getElem?_append_left (List.getElem?_eq_some_iff.1 HJ.out.2.2.2.1).1];exact HJ.out.2.2.2.1,(fun z hz=>(List.mem_append.1 hz).elim (HJ.out.2.2.2.2 z) (fun h=>by rw [List.mem_singleton.1 h];exact HY.out.2))⟩,H3⟩
       | false =>
        have HE2:enC y=(⟨(nxD n x.1 j),(sl (mvS m x.2 (j:Int))),false⟩:Ss):=by rw [HY.out.1];show (⟨_,sl (bgSet a (nxD n x.1 j,mvS m x.2 (j:Int))),false⟩:Ss)=_;unfold bgSet;rw [if_neg (show ¬ rdOf false a (nxD n x.1 j)=true from by rw [hacq];decide)];rfl
        obtain ⟨kf1,hkf1⟩:=findC_ev (bl:=b.length) HF.out.2.2.2.2.2.1 rfl HJ.out.2.2.2.2 (by have:=HJ.out.2.1.2;have:=HJ.out.1.1;omega) HY.out.2 HE2
        have HF1:=am_ hkf1
        clear hkf1
        have qf:(find6 Lj y<0)=True:=eq_true (by unfold find6;rw [if_neg hy];decide)
        obtain ⟨kf2,hkf2⟩:=findC_ev (bl:=b.length) (L:=Lj ++ [y]) HF.out.2.2.2.2.2.1 rfl (fun z hz=>(List.mem_append.1 hz).elim (HJ.out.2.2.2.2 z) (fun h=>by rw [List.mem_singleton.1 h];exact HY.out.2)) (by have:=HJ.out.2.1.2;have:=HJ.out.1.1;simp only [List.length_append,List.length_singleton];omega) HY.out.2 HE2
        have HF2:=am_ hkf2
        clear hkf2
        have HAP:Aside0 (Lj.map enC ++ [(⟨(nxD n x.1 j),(sl (mvS m x.2 (j:Int))),false⟩:Ss)]=(Lj ++ [y]).map enC):=⟨by rw [List.map_append,List.map_singleton,HE2]⟩
        have HCU:Aside0 ((sl (mvS m x.2 (j:Int))).length≤c64):=⟨HC64.out⟩
        have HIN:=am_ hy
        clear HE2 hacq hy
        go_wp2_with (first
         | ((with_reducible refine gate_dst (N:=78) rfl ?_);refine gL_ (some 78) Try.func75 #[.slice (some ad7) Lj.length c8,.agg #[.int .i64 (nxD n x.1 j),.slice A64 (sl (mvS m x.2 (j:Int))).length c64,.bool false]] ?_;refine (findCall Lj (some ad7) c8 (nxD n x.1 j) A64 c64 (sl (mvS m x.2 (j:Int))) (find6 Lj y) _ rfl (H.rdN_c 4) HC8.out (H.rd_c 9) HCU.out HF1.out).mono ?_;rintro e_ w6 ⟨rfl,hb⟩;replace H:=H.only hb;clear hb F12;have F12:=H.f3 10;refine ⟨_,rfl,?_⟩)
         | ((with_reducible refine gate_builtin (b:=.append) (xs:=#[.tmp 80,.tmp 82]) rfl ?_);at_builtin;refine H.apP (d:=kSs) (d2:=Kd.int .i64) (e:=3) (e':=78) 4 9 (⟨(nxD n x.1 j),(sl (mvS m x.2 (j:Int))),false⟩:Ss) [.int .i64 (nxD n x.1 j),.slice A64 (sl (mvS m x.2 (j:Int))).length c64,.bool false] (.tmp 80) (.tmp 82) 79 (.agg #[(.int .i64 0),(.slice none 0 0),(.bool false)]) 40 rfl rfl Try.underlying79 info6 rfl (by decide) (by decide) rfl rfl (fun f h=>mkF6 _ _ (⟨(nxD n x.1 j),(sl (mvS m x.2 (j:Int))),false⟩:Ss) HCU.out (Kd.R_F h)) ?aL ?_;(case aL=>have:=HJ.out.2.1.2;have:=HI.out.1.2.1;have:=HJ.out.1.1;rw [List.length_map];omega);clear H F12;intro v8 w6 H;replace H:=H.nz;rw [HAP.out] at H;(obtain ⟨A9,c9,e9,hc9,-⟩:=H.np_l 4);rw [show ((Lj ++ [y]).map enC).length=Lj.length+1 by simp] at e9 hc9;subst e9;have HC9:=am_ hc9;clear hc9;have F12:=H.f3 10)
         | ((with_reducible refine gate_dst (N:=87) rfl ?_);refine gL_ (some 87) Try.func75 #[.slice A9 (Lj.length+1) c9,.agg #[.int .i64 (nxD n x.1 j),.slice A64 (sl (mvS m x.2 (j:Int))).length c64,.bool false]] ?_;refine (findCall (Lj ++ [y]) A9 c9 (nxD n x.1 j) A64 c64 (sl (mvS m x.2 (j:Int))) (find6 (Lj ++ [y]) y) _ (by simp) (H.np_c 4) HC9.out (H.np_r 4) HCU.out HF2.out).mono ?_;rintro e_ w6 ⟨rfl,hb⟩;replace H:=H.only hb;clear hb F12;have F12:=H.f3 10;refine ⟨_,rfl,?_⟩)
         | ((with_reducible refine gate_builtin (b:=.append) (xs:=#[.tmp 84,.tmp 88]) rfl ?_);at_builtin;refine H.apR (d:=Kd.int .i64) (e:=3) 8 (find6 (Lj ++ [y]) y) [.int .i64 (find6 (Lj ++ [y]) y)] (.tmp 84) (.tmp 88) 67 (.int .i64 0) 8 rfl rfl Try.underlying67 info3 rfl (by decide) (by decide) rfl rfl ?aP ?aL ?_;(case aP=>exact rfl);(case aL=>have:=HJ.out.2.1.1;have:=HJ.out.1.1;omega);clear H F12;intro v10n w7 H;replace H:=H.nz))
        go_roundg g2_
        case measure=>omega
        case rel =>
         have hst:=row_step (nx:=nxCt a n m) (x:=x) HJ3.out HJ.out.2.2.1.1 HJ.out.2.2.1.2 (L':=(Lj ++ [y])) (by rw [← HY.out.1];exact (add_out HIN.out).symm)
         rw [← HY.out.1] at hst
         have H3:=(H.np_n 4).nz.pre 9
         refine ⟨(Lj ++ [y]),row ++ [find6 (Lj ++ [y]) y],j+1,by first | rfl | (rw [up1 (by have:=HJ3.out;omega)]),⟨⟨by have:=HJ3.out;omega,by have:=HJ.out.1;omega⟩,⟨by rw [List.length_append,HJ.out.2.1.1];rfl,by have:=HJ.out.2.1.2;simp only [List.length_append,List.length_singleton];omega⟩,hst,by rw [List.getElem?_append_left (List.getElem?_eq_some_iff.1 HJ.out.2.2.2.1).1];exact HJ.out.2.2.2.1,(fun z hz=>(List.mem_append.1 hz).elim (HJ.out.2.2.2.2 z) (fun h=>by rw [List.mem_singleton.1 h];exact HY.out.2))⟩,H3⟩
     ·have e_:j=3:=by have:=HJ.out.1;omega
      subst e_
      have eL:Lj=LF:=HJ.out.2.2.1.1
      have er:row=rF:=by have h:=HJ.out.2.2.1.2;simpa [tl] using h
      subst eL
      subst er
      obtain ⟨A8,c8,e8,-,hC8⟩:=H.rdN 4
      have hlj:(Lj.map enC).length=Lj.length:=List.length_map ..
      rw [hlj] at e8
      have hil:=(List.getElem?_eq_some_iff.1 HJ.out.2.2.2.1).1
      obtain ⟨ad7,AS,cS,e7,-,f2,-,-,-⟩:=at_T78 hC8 (i:Int) (by omega) (by rw [hlj];omega)
      subst e7
      subst e8
      rw [rd_en enC Lj i HJ.out.2.2.2.1,Int.toNat_natCast] at f2
      have f2:wr.cell? ⟨(ad7.add (i * 3)).block,(ad7.add (i * 3)).off+1,none⟩=some (.slice AS (sl x.2).length cS):=f2
      have p2:((0:Int)≤(i:Int))=True:=eq_true (by omega)
      have p3:((i:Int)<(Lj.length:Int))=True:=eq_true (by omega)
      clear hC8 hlj hil
      by_cases hbig:((Lj.length:Int) > 400)
      ·have hRn:res=([],[],false):=by rw [HRES.out,HNX.out.1 (by omega)]
       have pb:((Lj.length:Int) > 400)=True:=eq_true hbig
       have F2:=H.f2 2
       clear f2 hbig
       go_wp2_with (((with_reducible refine gate_store (p:=4) rfl ?_);refine p2_ H 4 2 rfl ?_;clear H F2;intro w1 H;replace H:=H.nz))
       refine bodyPost_ret (results_ct rfl _ _ g4 27 #[.slice none 0 0,.slice none 0 0] (0,0) _ rfl (H.blk 2 rfl) hu rfl (by kernel_rfl)) rfl ?_
       rw [hRn]
       exact ⟨_,_,rfl,Kd.R_nil _ _ _ _ _,Kd.S_nil _ _ _ _ _,H.bel⟩
      ·have pb:((Lj.length:Int) > 400)=False:=eq_false hbig
       have HEX2:=am_ (HNX.out.2 (by omega))
       have HLB:Aside0 (Lj.length≤400):=⟨by omega⟩
       obtain ⟨A10,c10,rfl,-,-⟩:=(H.rd 8).2
       obtain ⟨ky,hky⟩:=(any_ev (n:=m) HF.out.2.2.2.2.2.1 HX.out.2.2).rounds
       have HKY:=am_ hky
       have F8:=H.f2 5
       have F1:=H.f2 1
       clear hbig hky
       go_wp2
       refine start_ (n:=13) (S:=(fun w'=>w'.cell? ⟨g8,0,none⟩=some vA∧w'.cell? ⟨g3,0,none⟩=some (.slice B0 b.length d0)∧w'.cell? ⟨g3,1,none⟩=some (.slice B1 m.length d1)∧w'.cell? ⟨(ad7.add (i * 3)).block,(ad7.add (i * 3)).off+1,none⟩=some (.slice AS (sl x.2).length cS))) (ds:=[10,12]) (bl 13 0) (by kernel_rfl) rfl rfl (⟨F8.1.1,F1.1.1,F1.2.1,f2⟩) (fun hHeld=>?_);refine with_tabW tabcc23 bitscc23 (fun HT_ HW_=>?_)
       clear F8 F1 f2
       replace H:=H.drew
       refine ph_ 0 94 (bl 13 1) HT_ ?_
       refine ph_ 3 97 (bl 13 9) HT_ ?_
       refine ph_ 4 98 (bl 13 25) HT_ ?_
       refine ph_ 5 99 (bl 13 57) HT_ ?_
       refine ph_ 6 100 (bl 13 121) HT_ ?_
       refine th_ 1 95 (bl 13 123) HT_ HW_ hHeld ?_
       refine th_ 2 96 (bl 13 127) HT_ HW_ hHeld ?_
       refine th_ 7 101 (bl 13 255) HT_ HW_ hHeld ?_
       refine on_ 8 (some 102) (bl 13 511) HT_ (fun K hK=>?_)
       refine gO_ Try.func76 #[.agg #[.slice B0 b.length d0,.slice B1 m.length d1],.slice AS (sl x.2).length cS] ?_
       refine (spec_l6Any.calls ky B0 d0 b B1 d1 m AS cS (sl x.2) (acS b x.2) _ (Kd.C_below HCB.out.1.1 H.bel) HCB.out.1.2 (Kd.C_below HCB.out.2.1 H.bel) HCB.out.2.2 (setC_at H 4 HJ.out.2.2.2.1 hHeld.2.2.2).1 (setC_at H 4 HJ.out.2.2.2.1 hHeld.2.2.2).2 HKY.out).mono ?_
       rintro e_ w4 ⟨rfl,hb⟩
       replace H:=H.only hb
       refine ⟨_,rfl,?_⟩
       refine hK.out _ _ (sb_ hb hHeld) (fun hHeld=>?_)
       clear hK K hb
       refine nm_ 102 ?_
       refine on_ 9 (some 103) (bl 13 1023) HT_ (fun K hK=>?_)
       refine value_ (w1:=?_) (v:=?_) (by rfl) rfl ?_ ?_
       rotate_left 2
       ·go_simp
        constructor
        ·rfl
        ·rfl
       refine hK.out _ _ (sb_ ba_ hHeld) (fun hHeld=>?_)
       clear hK K
       refine nm_ 103 ?_
       refine last_ (i:=10) (N:=some 104) (bl 13 2047) rfl rfl (one_of HT_.out (by kernel_rfl)) (by decide) (fun K hK=>?_)
       refine H.apR_step (d:=Kd.bool) (e:=4) (v:=vA) (xs:=A) 6 (acS b x.2) [.bool (acS b x.2)] (.tmp 95) (.tmp 103) 22 (.bool false) 1 rfl Try.underlying22 info4 rfl (by decide) (by decide) rfl rfl rfl (by have:=HI.out;omega) (fun vA2 w8 H=>?_)
       replace H:=H.nz
       obtain ⟨AA2,nA2,cA2,rfl⟩:∃ A_ n_ c_,vA2=Value.slice A_ n_ c_:=by obtain ⟨A_,c_,e_,-,-⟩:=(H.rd 6).2;exact ⟨A_,_,c_,e_⟩
       refine hK.out _ _ ?_
       clear hK K
       refine nm_ 104 ?_
       refine ph_ 11 105 (bl 13 4095) HT_ ?_
       refine last_ (i:=12) (N:=none) (bl 13 8191) rfl rfl (one_of HT_.out (by kernel_rfl)) (by decide) (fun K hK=>?_)
       have F8:=H.f2 5
       refine s1_ H 5 0 (fun w9 H=>?_)
       refine hK.out _ _ ?_
       clear hK K F8
       refine done_ (done_of HT_.out (by kernel_rfl)) ?_
       clear HT_ HW_ hHeld
       replace H:=H.nz
       simp only [List.setIfInBounds_toArray,List.set_cons_zero,List.set_cons_succ] at H
       have F8:=H.f2 5
       go_wp2_with (first
        | ((with_reducible refine gate_builtin (b:=.append) (xs:=#[.tmp 107,.tmp 109]) rfl ?_);at_builtin;refine H.apN 7 8 (.tmp 107) (.tmp 109) 23 (.slice none 0 0) 24 rfl rfl Try.underlying23 (by kernel_rfl) rfl (by decide) rfl rfl ?aL ?_;(case aL=>have:=HI.out;omega);clear H F8;intro vN2 w4 H;replace H:=H.nz;(obtain ⟨AN2,nN2,cN2,rfl⟩:=H.nl_v 7);have F8:=H.f2 5)
        | ((with_reducible refine gate_store (p:=111) rfl ?_);refine p1_ H 111 5 1 rfl ?_;clear H F8;intro w5 H;replace H:=H.nz;simp only [List.setIfInBounds_toArray,List.set_cons_zero,List.set_cons_succ] at H))
       go_roundg g1_
       case measure=>omega
       case rel =>
        have H3:=(H.nl_n 7).nz.pre 8
        exact ⟨Lj,A ++ [acCt b x],M ++ [row],i+1,.slice AA2 nA2 cA2,.slice AN2 nN2 cN2,by first | rfl | (rw [up1 (by have:=HLB.out;have:=HI2.out;have:=HI.out;omega)]),HEX2,⟨⟨by have:=HI.out;omega,HLB.out,by have:=(List.getElem?_eq_some_iff.1 HJ.out.2.2.2.1).1;omega⟩,⟨by rw [List.length_append,HI.out.2.1.1];rfl,by rw [List.length_append,HI.out.2.1.2];rfl⟩,HJ.out.2.2.2.2⟩,H3⟩
   ·have hR:R=some (L,A,M):=by
     have h:=HEX.out
     cases gk with
     | zero=>exact h.symm
     | succ g =>
      rw [expl,dif_neg (show ¬ i<(L,A,M).1.length from hi)] at h
      exact h.symm
    obtain ⟨kf,hkf⟩:=HFI.out (L,A,M) hR
    have hre:res=fitD A M:=by rw [HRES.out,hR]
    have hkf:spec_l5Fits.f kf A M=some (fitD A M):=hkf
    obtain ⟨⟨r1,r2,r3⟩,hrr⟩:∃ r,r=fitD A M:=⟨_,rfl⟩
    rw [← hrr] at hre hkf
    clear hrr
    obtain ⟨AA,cA,rfl,hcA,-⟩:=(H.rd 6).2
    obtain ⟨AN,cN,rfl,hcN,-⟩:=H.rdN 7
    have HKF:=am_ (And.intro hkf (And.intro hcA hcN))
    have F8:=H.f2 5
    have p1:((i:Int)<(L.length:Int))=False:=eq_false (by omega)
    have HRE:=am_ hre
    clear hR hkf hcA hcN hi hre HEX
    go_wp2_with (first
     | ((with_reducible refine gate_dst (N:=114) rfl ?_);refine gL_ (some 114) Try.func64 #[.agg #[.slice AA A.length cA,.slice AN M.length cN]] ?_;refine (spec_l5Fits.calls kf AA cA A AN cN M r1 r2 r3 _ (H.rd_c 6) HKF.out.2.1 (H.rdN_c 7) HKF.out.2.2 HKF.out.1).mono ?_;rintro e_ w4 ⟨v0,v1,rfl,ho0,ho1,hb⟩;replace H:=(H.newD hb ho0 ho1).nz;clear hb ho0 ho1 F8;(obtain ⟨X0,x0,X1,x1,rfl,rfl,-,-⟩:=H.dv 8);refine ⟨_,rfl,?_⟩)
     | ((with_reducible refine gate_dst (N:=13) rfl ?_);refine nw_ H 13 #[.slice none 0 0,.slice none 0 0] 27 rfl ?_;clear H;intro g13 w5 H;replace H:=H.nz;have F9:=H.f2 9)
     | ((with_reducible refine gate_store (p:=13) rfl ?_);refine p2_ H 13 9 rfl ?_;clear H F9;intro w6 H;replace H:=H.nz;have F9:=H.f2 9;have F2:=H.f2 2)
     | ((with_reducible refine gate_store (p:=4) rfl ?_);refine p2_ H 4 2 rfl ?_;clear H F2 F9;intro w7 H;replace H:=H.nz))
    refine bodyPost_ret (results_ct rfl _ _ g4 27 #[.slice X0 r1.length x0,.slice X1 r2.length x1] (0,0) _ rfl (H.blk 2 rfl) hu rfl (by kernel_rfl)) rfl ?_
    rw [HRE.out]
    obtain ⟨f,⟨h0,h1,-⟩,-,-⟩:=H.get 8 rfl
    exact ⟨_,_,rfl,Kd.R_mono h0 (fun _ _=>trivial),Kd.S_mono h1 (fun _ _=>trivial),H.bel⟩
end Go.Proofs.Ytogamkblkoobkaa.Can
end
section
namespace Go.Proofs.Ytogamkblkoobkaa.P
open Go.RowKit Go.Proofs.YtogamkblkoobkaaW.PrintWords Go.Proofs.YtogamkblkoobkaaW.PrintLast Go.Proofs.YtogamkblkoobkaaW.PrintMore
attribute [local go_sem] max2_int min2_int max_two min_two max_three min_three max_four min_four
def spec_ConcatDfa.f (l0_0:List Bool) (l0_1:List (List Int)) (l1_0:List Bool) (l1_1:List (List Int)):Option (List Bool × List (List Int) × Bool):=if l0_0.length≤1048576∧l0_1.length≤1048576∧l1_0.length≤1048576∧l1_1.length≤1048576 then some (Wk.ctR l0_0 l0_1 l1_0 l1_1) else none
theorem spec_ConcatDfa.calls (A0_0:Option Addr) (c0_0:Nat) (l0_0:List Bool) (A0_1:Option Addr) (c0_1:Nat) (l0_1:List (List Int)) (A1_0:Option Addr) (c1_0:Nat) (l1_0:List Bool) (A1_1:Option Addr) (c1_1:Nat) (l1_1:List (List Int)) (r1:List Bool) (r2:List (List Int)) (r3:Bool) (w:World) (hr0_0:Kd.C Kd.bool w A0_0 l0_0.length l0_0) (hc0_0:l0_0.length≤c0_0) (hr0_1:Kd.C (Kd.slice 3 (Kd.int .i64)) w A0_1 l0_1.length l0_1) (hc0_1:l0_1.length≤c0_1) (hr1_0:Kd.C Kd.bool w A1_0 l1_0.length l1_0) (hc1_0:l1_0.length≤c1_0) (hr1_1:Kd.C (Kd.slice 3 (Kd.int .i64)) w A1_1 l1_1.length l1_1) (hc1_1:l1_1.length≤c1_1) (h:spec_ConcatDfa.f l0_0 l0_1 l1_0 l1_1=some (r1,r2,r3)) :
  Calls Try.prog 23 #[.agg #[.slice A0_0 l0_0.length c0_0,.slice A0_1 l0_1.length c0_1],.agg #[.slice A1_0 l1_0.length c1_0,.slice A1_1 l1_1.length c1_1]] w fun e w'=>∃ v0_ v1_:Value,e = .returned (.tuple #[.agg #[v0_,v1_],.bool r3])∧Kd.R Kd.bool 4 w' w.heap.size (fun _=>True) v0_ r1∧Kd.S (Kd.slice 3 (Kd.int .i64)) 67 w' w.heap.size (fun _=>True) v1_ r2∧Below w.heap.size w w':=by
 unfold spec_ConcatDfa.f at h
 split at h
 ·rename_i hp
  have h:=Option.some.inj h
  have e1:(Wk.ctR l0_0 l0_1 l1_0 l1_1).1=r1:=by rw [h]
  have e2:(Wk.ctR l0_0 l0_1 l1_0 l1_1).2.1=r2:=by rw [h]
  have e3:(Wk.ctR l0_0 l0_1 l1_0 l1_1).2.2=r3:=by rw [h]
  rw [← e1,← e2,← e3]
  exact Can.sccCalls A0_0 c0_0 l0_0 A0_1 c0_1 l0_1 A1_0 c1_0 l1_0 A1_1 c1_1 l1_1 w hr0_0 hc0_0 hr0_1 hc0_1 hr1_0 hc1_0 hr1_1 hc1_1 hp.1 hp.2.1 hp.2.2.1 hp.2.2.2
 ·cases h
end Go.Proofs.Ytogamkblkoobkaa.P
end
section
namespace Go.Proofs.Ytogamkblkoobkaa.P
open Go.RowKit Go.Proofs.YtogamkblkoobkaaW.PrintWords Go.Proofs.YtogamkblkoobkaaW.PrintLast Go.Proofs.YtogamkblkoobkaaW.PrintMore
attribute [local go_sem] max2_int min2_int max_two min_two max_three min_three max_four min_four
def impl_ConcatDfa.f (l0_0:List Bool) (l0_1:List (List Int)) (l1_0:List Bool) (l1_1:List (List Int)):Option (List Bool × List (List Int) × Bool):=some (Wk.ctR l0_0 l0_1 l1_0 l1_1)
theorem impl_ConcatDfa.calls (A0_0:Option Addr) (c0_0:Nat) (l0_0:List Bool) (A0_1:Option Addr) (c0_1:Nat) (l0_1:List (List Int)) (A1_0:Option Addr) (c1_0:Nat) (l1_0:List Bool) (A1_1:Option Addr) (c1_1:Nat) (l1_1:List (List Int)) (r1:List Bool) (r2:List (List Int)) (r3:Bool) (w:World) (hr0_0:Kd.C Kd.bool w A0_0 l0_0.length l0_0) (hc0_0:l0_0.length≤c0_0) (hr0_1:Kd.C (Kd.slice 3 (Kd.int .i64)) w A0_1 l0_1.length l0_1) (hc0_1:l0_1.length≤c0_1) (hr1_0:Kd.C Kd.bool w A1_0 l1_0.length l1_0) (hc1_0:l1_0.length≤c1_0) (hr1_1:Kd.C (Kd.slice 3 (Kd.int .i64)) w A1_1 l1_1.length l1_1) (hc1_1:l1_1.length≤c1_1) (h:impl_ConcatDfa.f l0_0 l0_1 l1_0 l1_1=some (r1,r2,r3)) :
  Calls Try.prog 24 #[.agg #[.slice A0_0 l0_0.length c0_0,.slice A0_1 l0_1.length c0_1],.agg #[.slice A1_0 l1_0.length c1_0,.slice A1_1 l1_1.length c1_1]] w fun e w'=>∃ v0_ v1_:Value,e = .returned (.tuple #[.agg #[v0_,v1_],.bool r3])∧Kd.R Kd.bool 4 w' w.heap.size (fun _=>True) v0_ r1∧Kd.S (Kd.slice 3 (Kd.int .i64)) 67 w' w.heap.size (fun _=>True) v1_ r2∧Below w.heap.size w w':=by
 have h:=Option.some.inj h
 have e1:(Wk.ctR l0_0 l0_1 l1_0 l1_1).1=r1:=by rw [h]
 have e2:(Wk.ctR l0_0 l0_1 l1_0 l1_1).2.1=r2:=by rw [h]
 have e3:(Wk.ctR l0_0 l0_1 l1_0 l1_1).2.2=r3:=by rw [h]
 rw [← e1,← e2,← e3]
 exact Wk.ctCalls A0_0 c0_0 l0_0 A0_1 c0_1 l0_1 A1_0 c1_0 l1_0 A1_1 c1_1 l1_1 w hr0_0 hc0_0 hr0_1 hc0_1 hr1_0 hc1_0 hr1_1 hc1_1
end Go.Proofs.Ytogamkblkoobkaa.P
end
section
namespace Go.Proofs.Ytogamkblkoobkaa.Can
open Go.RowKit Go.Shelf Go.Proofs.Ytogamkblkoobkaa Go.Proofs.Ytogamkblkoobkaa.P Go.Proofs.Ytogamkblkoobkaa.Wk Go.Proofs.Ytogamkblkoobkaa.Lg Go.Proofs.Ytogamkblkoobkaa.Pl Go.Proofs.Ytogamkblkoobkaa.Mp Go.Proofs.Ytogamkblkoobkaa.Bf Go.Proofs.Ytogamkblkoobkaa.Mn Go.Proofs.YtogamkblkoobkaaW.PrintWords Go.Proofs.YtogamkblkoobkaaW.PrintLast Go.Proofs.YtogamkblkoobkaaW.PrintMore
def Tcs12:Bool × List (List Nat × List Nat):=(true,[([],[]),([],[]),([],[]),([1,2],[1,2]),([3],[3]),([4],[4]),([],[]),([0,5,6],[0,5,6]),([7],[7]),([],[]),([9,8,7,0,1,2,3,4,5,6,7,8,9],[8,9])])
def Bcs12:List Nat:=[0,0,0,6,14,30,0,127,255,0,1023]
theorem tabcs12:rtab .any (opsOf Try.f25 12)=Tcs12:=by kernel_rfl
theorem bitscs12:waitsOk Tcs12.2 Bcs12=true:=by kernel_rfl
def Tcs20:Bool × List (List Nat × List Nat):=(true,[([],[]),([0],[0]),([],[]),([],[]),([2,3],[2,3]),([4],[4]),([5],[5]),([6],[6]),([7],[7]),([7],[7]),([7],[7]),([9,10,7],[7,9,10]),([11,7],[7,11]),([12,7],[7,12]),([8,13,7,7],[7,8,13]),([7,14],[7,14]),([15],[15]),([1,16,14],[1,16]),([0,1,2,3,4,5,6,7,8,9,10,11,12,13,14,15,16,17],[]),([18,17,17,0,1,2,3,4,5,6,7,8,9,10,11,12,13,14,15,16,17],[17,18])])
def Bcs20:List Nat:=[0,1,0,0,12,28,60,124,252,252,252,1788,3836,7932,16380,32764,65532,131071,262143,524287]
theorem tabcs20:rtab .any (opsOf Try.f25 20)=Tcs20:=by kernel_rfl
theorem bitscs20:waitsOk Tcs20.2 Bcs20=true:=by kernel_rfl
theorem noS_ {P:Program} {oi:Oper} {ops:Array Oper} {a:Act} {w:World} {K:Act→World→Prop} {Q:Exit→Act→World→Prop} {N:Option Nat} (h:K (a.put N undef) w) (hw:Region.wanted oi (yielded ops a.tmps)=false:=by rfl):if Region.wanted oi (yielded ops a.tmps)=true then Oper.wp P oi a w K Q else K (a.put N undef) w:=by
 rw [if_neg (by rw [hw];decide)]
 exact h
theorem tzS_ {P:Program} {ops:Array Oper} {Q:Exit→Act→World→Prop} {md:Region.Mode} {S:World→Prop} {ds:List Nat} {T:Bool × List (List Nat × List Nat)} {B:List Nat} {oi:Oper} {fuel:Nat} {l:Array Bool} {a a':Act} {w:World} (i N:Nat) (l':Array Bool) (hT:Aside0 (rtab md ops=T)) (hB:Aside0 (waitsOk T.2 B=true)) (hS:S w) (h:wpAnyLast P md ops Q S ds fuel l' a' w)
 (hi:ops[i]? = some oi:=by rfl) (hN:oi.dst=some N:=by rfl) (hc:takeW T B ds l.toList l'.toList i=true:=by kernel_rfl) (hQ:∀ c a w,Q (.panic c) (a.put oi.dst undef) w→Q (.panic c) a w:=by exact fun _ _ _ h=>h)
 (hy:YieldsIf P ops S oi undef a:=by exact Or.inr ⟨by rfl,rfl⟩) (ha:a.put (some N) undef=a':=by simp only [Act.put,List.setIfInBounds_toArray,List.set_cons_zero,List.set_cons_succ];rfl):wpAnyLast P md ops Q S ds (fuel+1) l a w:=take_ l' hi hN (take_ofW hT.out hB.out hc) hQ hy hS ha h
theorem findCallS {k nn:Nat} (L:List Wk.Pr) (A:Option Addr) (c:Nat) (AU:Option Addr) (cu:Nat) (S2:List Int) (r:Int) (w:World) (hn:nn=L.length) (hr:Kd.C kSs w A (L.map enS).length (L.map enS)) (hc:nn≤c) (hs:Kd.C (Kd.int .i64) w AU S2.length S2) (hcs:S2.length≤cu) (h:spec_l6Find.f k (L.map enS) 0 S2 false=some r) :
  Calls Try.prog 75 #[.slice A nn c,.agg #[.int .i64 0,.slice AU S2.length cu,.bool false]] w fun e w'=>e = .returned (.int .i64 r)∧Below w.heap.size w w':=by
 have hl:(L.map enS).length=nn:=by rw [List.length_map,hn]
 have hh:=spec_l6Find.calls k A c (L.map enS) 0 AU cu S2 false r w hr (by omega) hs hcs h
 rw [hl] at hh
 exact hh
theorem setS_at {w0 W:World} {ps:List Pc} {ad7:Addr} {nn c8:Nat} {L:List Wk.Pr} {i:Nat} {x:Wk.Pr} {AS:Option Addr} {cS:Nat} (H:Sl w0 W ps) (k:Nat) (hx:L[i]? = some x) (hcell:W.cell? ⟨(ad7.add (i * 3)).block,(ad7.add (i * 3)).off+1,none⟩=some (.slice AS (sl x.2).length cS)) (hi:ps[k]? = some (nwP kSs 78 (.slice (some ad7) nn c8) (L.map enS)):=by rfl):Kd.C (Kd.int .i64) W AS (sl x.2).length (sl x.2)∧(sl x.2).length≤cS:=by
 have hC:=H.rdN_c k hi
 obtain ⟨ad,A2,c2,e,-,f2,-,hl,hr⟩:=at_T78 hC (i:Int) (by omega) (by rw [List.length_map];have:=(List.getElem?_eq_some_iff.1 hx).1;omega)
 obtain rfl:=Option.some.inj e
 rw [rd_en enS L i hx,Int.toNat_natCast] at f2
 rw [rd_en enS L i hx] at hl hr
 have f2:W.cell? ⟨(ad7.add (i * 3)).block,(ad7.add (i * 3)).off+1,none⟩=some (.slice A2 (sl x.2).length c2):=f2
 rw [f2] at hcell
 injection hcell with hcell
 injection hcell with q1 _ q3
 subst q1 q3
 exact ⟨hr,hl⟩
theorem findS_ev {a:List Bool} (ha:a.length≤40) {L:List Wk.Pr} (hL:∀ z ∈ L,DmS a z) (hn:L.length≤1000) {y:Wk.Pr} (hy:DmS a y) {S2:List Int} (he:enS y=⟨0,S2,false⟩):∃ k,spec_l6Find.f k (L.map enS) 0 S2 false=some (find6 L y):=by
 have h:=(find6_ev enS L y (fun x hx e=>enS_inj ha (hL x hx) hy e) (fun x _=>sl_len _) (by omega)).rounds
 rw [he] at h
 exact h
set_option maxHeartbeats 400000000 in
set_option maxRecDepth 100000 in
theorem sstCalls (A0:Option Addr) (c0:Nat) (a:List Bool) (A1:Option Addr) (c1:Nat) (n:List (List Int)) (w:World)
  (hr0:Kd.C Kd.bool w A0 a.length a) (hc0:a.length≤c0) (hr1:Kd.C (Kd.slice 3 (Kd.int .i64)) w A1 n.length n) (hc1:n.length≤c1) (h1:a.length≤1048576) (h2:n.length≤1048576) :
  Calls Try.prog 25 #[.agg #[.slice A0 a.length c0,.slice A1 n.length c1]] w fun e w'=>∃ v0 v1,e = .returned (.tuple #[.agg #[v0,v1],.bool (stR a n).2.2])∧Kd.R Kd.bool 4 w' w.heap.size (fun _=>True) v0 (stR a n).1∧Kd.S (Kd.slice 3 (Kd.int .i64)) 67 w' w.heap.size (fun _=>True) v1 (stR a n).2.1∧Below w.heap.size w w':=by
 have H:=Sl.start w
 have HCA:=am_ (And.intro (And.intro hr0 hc0) (And.intro hr1 hc1))
 have hu:=Try.underlying27
 have hu3:=Try.underlying78
 obtain ⟨ka,hka⟩:=(spec_valid a n h1 h2).rounds
 have HVA:=am_ hka
 clear hr0 hc0 hr1 hc1 hka h1 h2
 cases hv:validD a n with
 | false =>
  rw [hv] at HVA
  have e:stR a n=([],[],false):=by unfold stR;rw [hv];rfl
  rw [e]
  clear hv e
  go_enter Try.func25,Try.ntmps25
  go_wp2_with (first
   | ((with_reducible refine gate_dst (N:=1) rfl ?_);refine nw_ H 1 #[.slice A0 a.length c0,.slice A1 n.length c1] 27 rfl ?_;clear H;intro g1 w1 H;replace H:=H.nz)
   | ((with_reducible refine gate_dst (N:=2) rfl ?_);refine nw_ H 2 #[.slice none 0 0,.slice none 0 0] 27 rfl ?_;clear H;intro g2 w1 H;replace H:=H.nz;have F0:=H.f2 0;have F2:=H.f2 1)
   | ((with_reducible refine gate_dst (N:=13) rfl ?_);refine gL_ (some 13) Try.func35 #[.agg #[.slice A0 a.length c0,.slice A1 n.length c1]] ?_;refine (spec_IsValidDfa.calls ka A0 c0 a A1 c1 n false _ (Kd.C_below HCA.out.1.1 H.bel) HCA.out.1.2 (Kd.C_below HCA.out.2.1 H.bel) HCA.out.2.2 HVA.out).mono ?_;rintro e_ w4 ⟨rfl,hb⟩;replace H:=H.only hb;clear hb;clear F0 F2;have F2:=H.f2 1;refine ⟨_,rfl,?_⟩)
   | ((with_reducible refine gate_store (p:=2) rfl ?_);refine p2_ H 2 1 rfl ?_;clear H F2;intro w1 H;replace H:=H.nz))
  refine bodyPost_ret (results_ct rfl _ _ g2 27 #[.slice none 0 0,.slice none 0 0] (0,0) _ rfl (H.blk 1 rfl) hu rfl (by kernel_rfl)) rfl ?_
  exact ⟨_,_,rfl,Kd.R_nil _ _ _ _ _,Kd.S_nil _ _ _ _ _,H.bel⟩
 | true =>
 rw [hv] at HVA
 obtain ⟨n1,n2,n3,-⟩:=validD_facts hv
 have hf:=fits_valid hv
 have ectR:stR a n=(match stX a n with | some q=>fitD q.2.1 q.2.2 | none=>([],[],false)):=by unfold stR;rw [if_pos hv];cases stX a n <;> rfl
 obtain ⟨R,hR⟩:∃ R,stX a n=R:=⟨_,rfl⟩
 have HFI:Aside0 (∀ q,R=some q→∃ k,spec_l5Fits.f k q.2.1 q.2.2=some (fitD q.2.1 q.2.2)):=⟨fun q hq=>by
  have hau:=expl_auto (most:=400) (by omega) (hR.trans hq)
  obtain ⟨g1,g2⟩:=hau.1.rows
  exact (spec_fit g1 (by have:=hau.2;omega) g2).rounds⟩
 rw [ectR,hR]
 obtain ⟨res,hres⟩:∃ res,res=(match R with | some q=>fitD q.2.1 q.2.2 | none=>([],[],false)):=⟨_,rfl⟩
 rw [← hres]
 have HRES:=am_ hres
 have HEX:Aside0 (expl (acSt a) (nxSt a n) 400 402 ([((1:Int),(1:Int))],[],[]) 0=R):=⟨hR⟩
 have HF:=am_ (And.intro hf (And.intro n1 (And.intro n2 n3)))
 have HE0:Aside0 ((⟨0,[0],true⟩:Ss)=enS ((1:Int),(1:Int))):=⟨by show _=(⟨0,sl 1,_⟩:Ss);rw [sl_one];rfl⟩
 obtain ⟨adn,A9,c9,rfl,-,-,-⟩:=at_L1 HCA.out.2.1 0 (by omega) (by omega)
 clear hv n1 n2 n3 hf ectR hR hres
 go_enter Try.func25,Try.ntmps25
 go_wp2_with (first
  | ((with_reducible refine gate_dst (N:=1) rfl ?_);refine nw_ H 1 #[.slice A0 a.length c0,.slice (some adn) n.length c1] 27 rfl ?_;clear H;intro g1 w1 H;replace H:=H.nz)
  | ((with_reducible refine gate_dst (N:=2) rfl ?_);refine nw_ H 2 #[.slice none 0 0,.slice none 0 0] 27 rfl ?_;clear H;intro g2 w1 H;replace H:=H.nz;have F0:=H.f2 0;have F2:=H.f2 1)
  | ((with_reducible refine gate_dst (N:=13) rfl ?_);refine gL_ (some 13) Try.func35 #[.agg #[.slice A0 a.length c0,.slice (some adn) n.length c1]] ?_;refine (spec_IsValidDfa.calls ka A0 c0 a (some adn) c1 n true _ (Kd.C_below HCA.out.1.1 H.bel) HCA.out.1.2 (Kd.C_below HCA.out.2.1 H.bel) HCA.out.2.2 HVA.out).mono ?_;rintro e_ w4 ⟨rfl,hb⟩;replace H:=H.only hb;clear hb;clear F0 F2;have F2:=H.f2 1;refine ⟨_,rfl,?_⟩)
  | ((with_reducible refine gate_dst (N:=16) rfl ?_);refine Kd.R_lit (Kd.int .i64) _ 3 ?hg (N:=16) ?hd (xs:=[0]) (inner:=[.int .i64 0]) (ok:=fun _=>True) (okp:=fun _=>True) ?hr ?hp (fun _ hk=>hk) trivial (Below.refl _ _) (Nat.le_refl _) (by simp) ?_;(case hd=>rfl);(case hg=>rfl);(case hr=>first | (go_simp;done) | (go_simp;rfl));(case hp=>exact (Reps.one (show Kd.M (Kd.int .i64) _ _ _ 0 [.int .i64 0] from rfl) (Reps.none _ _)));intro v16 w3 ho hb hg_ hnew_;clear hg_ hnew_;replace H:=(H.newR hb ho).nz;clear hb ho;(obtain ⟨AS,cS,rfl,-,-⟩:=(H.rd 2).2))
  | ((with_reducible refine gate_dst (N:=18) rfl ?_);refine lp_ H 18 2 (⟨0,[0],true⟩:Ss) [.int .i64 0,.slice AS 1 cS,.bool true] kSs 78 rfl (fun f h=>k78_mkM _ 0 _ _ h) ?_;clear H F2;intro g7 w1 H;replace H:=H.nz;rw [show (⟨0,[0],true⟩:Ss)=enS ((1:Int),(1:Int)) from HE0.out] at H)
  | ((with_reducible refine gate_dst (N:=5) rfl ?_);refine nw_ H 5 #[.slice none 0 0,.slice none 0 0] 27 rfl ?_;clear H;intro g5 w1 H;replace H:=H.nz;have F5:=H.f2 3)
  | ((with_reducible refine gate_store (p:=5) rfl ?_);refine p2_ H 5 3 rfl ?_;clear H F5;intro w1 H;replace H:=H.nz))
 replace H:=((H.nilR Kd.bool 4).nz.nilN (Kd.slice 3 (Kd.int .i64)) 67).nz
 go_loopg [4,6] 402 (fun gg v4 v6 w'=>∃ (L:List Wk.Pr) (A:List Bool) (M:List (List Int)) (i:Nat) (vA vN:Value),v6 = .int .i64 (i:Int)∧Aside0 (expl (acSt a) (nxSt a n) 400 gg (L,A,M) i=R)∧Aside0 ((402≤gg+i∧L.length≤400∧i≤L.length)∧(A.length=i∧M.length=i)∧∀ z ∈ L,DmS a z)∧Sl w w' [bx g1 #[.slice A0 a.length c0,.slice (some adn) n.length c1] 27,bx g2 #[.slice none 0 0,.slice none 0 0] 27,nwP kSs 78 v4 (L.map enS),bx g5 #[vA,vN] 27,rwP Kd.bool 4 vA A,nwP (Kd.slice 3 (Kd.int .i64)) 67 vN M])
 case atStart=>exact ⟨[((1:Int),(1:Int))],[],[],0,.slice none 0 0,.slice none 0 0,rfl,HEX,⟨⟨by omega,by simp,by simp⟩,⟨rfl,rfl⟩,fun z hz=>by
  rw [List.mem_singleton.1 hz]
  exact ⟨Or.inr rfl,low_one HF.out.2.1⟩⟩,H⟩
 case round =>
  clear H HEX HE0 HVA
  obtain ⟨L,A,M,i,vA,vN,rfl,HEX,HI,H⟩:=hrel
  have hlm:(L.map enS).length=L.length:=List.length_map ..
  obtain ⟨A7,c7,e7,-,-⟩:=H.rdN 2
  rw [hlm] at e7
  subst e7
  by_cases hi:i<L.length
  ·obtain ⟨g1_,rfl⟩:∃ q,gk=q+1:=⟨gk - 1,by have:=HI.out;omega⟩
   obtain ⟨x,hx⟩:∃ x,L[i]? = some x:=⟨_,List.getElem?_eq_getElem hi⟩
   obtain ⟨_,hxi⟩:=List.getElem?_eq_some_iff.1 hx
   have hdx:DmS a x:=HI.out.2.2 x (List.mem_of_getElem? hx)
   have hex:=HEX.out
   rw [expl,dif_pos (show i<(L,A,M).1.length from hi)] at hex
   have hex2:(exRow (nxSt a n) 400 x 3 0 L []).bind (fun q=>expl (acSt a) (nxSt a n) 400 g1_ (q.1,A ++ [acSt a x],M ++ [q.2]) (i+1))=R:=by rw [← hxi];exact hex
   obtain ⟨LF,hLF⟩:∃ LF,adds L (tl (nxSt a n) x (3 - 0) 0)=LF:=⟨_,rfl⟩
   obtain ⟨rF,hrF⟩:∃ rF,[] ++ (tl (nxSt a n) x (3 - 0) 0).map (num LF)=rF:=⟨_,rfl⟩
   have HNX:Aside0 ((400<LF.length→R=none)∧(LF.length≤400→expl (acSt a) (nxSt a n) 400 g1_ (LF,A ++ [acSt a x],M ++ [rF]) (i+1)=R)):=⟨by
    cases he:exRow (nxSt a n) 400 x 3 0 L [] with
    | none =>
     rw [he] at hex2
     have hh:=exRow_none _ _ _ _ he
     rw [← hLF]
     exact ⟨fun _=>hex2.symm,fun h=>absurd hh (by show ¬ 400<(adds L (tl (nxSt a n) x 3 0)).length;have h:(adds L (tl (nxSt a n) x 3 0)).length≤400:=h;omega)⟩
    | some q =>
     obtain ⟨q1,q2⟩:=q
     rw [he] at hex2
     obtain ⟨e1,e2,e3⟩:=exRow_some _ _ _ _ _ _ he
     have e1':q1=LF:=e1.trans hLF
     have e4:=e3 HI.out.1.2.1
     subst e1'
     have e2':q2=rF:=e2.trans hrF
     subst e2'
     exact ⟨fun h=>absurd e4 (by omega),fun _=>hex2⟩⟩
   have HX:=am_ (And.intro hx hdx)
   have HLR:=am_ (And.intro hLF hrF)
   have p1:((i:Int)<(L.length:Int))=True:=eq_true (by omega)
   have HI2:=am_ hi
   clear hx hxi hdx hex hex2 hLF hrF hi HEX
   go_wp2_with (((with_reducible refine gate_dst (N:=26) rfl ?_);refine Kd.R_lit (Kd.int .i64) _ 3 ?hg (N:=26) ?hd (xs:=([]:List Int)) (inner:=[]) (ok:=fun _=>True) (okp:=fun _=>True) ?hr ?hp (fun _ hk=>hk) trivial (Below.refl _ _) (Nat.le_refl _) (by simp) ?_;(case hd=>rfl);(case hg=>rfl);(case hr=>first | (go_simp;done) | (go_simp;rfl));(case hp=>exact (Reps.none _ _));intro v7 w3 ho hb hg_ hnew_;clear hg_ hnew_;replace H:=(H.newR hb ho).nz;clear hb ho))
   go_loopg [4,7,8] 3 (fun gg v4 v7 v8 w'=>∃ (Lj:List Wk.Pr) (row:List Int) (j:Nat),v8 = .int .i64 (j:Int)∧Aside0 ((j≤3∧3≤gg+j)∧(row.length=j∧Lj.length≤400+j)∧(adds Lj (tl (nxSt a n) x (3 - j) j)=LF∧row ++ (tl (nxSt a n) x (3 - j) j).map (num LF)=rF)∧Lj[i]? = some x∧∀ z ∈ Lj,DmS a z)∧Sl w w' [bx g1 #[.slice A0 a.length c0,.slice (some adn) n.length c1] 27,bx g2 #[.slice none 0 0,.slice none 0 0] 27,nwP kSs 78 v4 (Lj.map enS),bx g5 #[vA,vN] 27,rwP Kd.bool 4 vA A,nwP (Kd.slice 3 (Kd.int .i64)) 67 vN M,rwP (Kd.int .i64) 3 v7 row])
   case atStart=>exact ⟨L,[],0,rfl,⟨⟨by omega,by omega⟩,⟨rfl,by have:=HI.out.1.2.1;omega⟩,HLR.out,HX.out.1,HI.out.2.2⟩,H⟩
   case round =>
    clear H p1 HLR
    obtain ⟨Lj,row,j,rfl,HJ,H⟩:=hrel
    by_cases hj:j<3
    ·obtain ⟨g2_,rfl⟩:∃ q,gk=q+1:=⟨gk - 1,by have:=HJ.out.1;omega⟩
     obtain ⟨A8,c8,e8,hc8,hC8⟩:=H.rdN 2
     have hlj:(Lj.map enS).length=Lj.length:=List.length_map ..
     rw [hlj] at e8 hc8
     have hil:=(List.getElem?_eq_some_iff.1 HJ.out.2.2.2.1).1
     obtain ⟨ad7,AS,cS,e7,-,f2,f3,-,-⟩:=at_T78 hC8 (i:Int) (by omega) (by rw [hlj];omega)
     subst e7
     subst e8
     rw [rd_en enS Lj i HJ.out.2.2.2.1,Int.toNat_natCast] at f2 f3
     have f2:wr.cell? ⟨(ad7.add (i * 3)).block,(ad7.add (i * 3)).off+1,none⟩=some (.slice AS (sl x.2).length cS):=f2
     have f3:wr.cell? ⟨(ad7.add (i * 3)).block,(ad7.add (i * 3)).off+2,none⟩=some (.bool (x.1 == 1)):=f3
     have p2:((0:Int)≤(i:Int))=True:=eq_true (by omega)
     have p3:((i:Int)<(Lj.length:Int))=True:=eq_true (by omega)
     have hdx:=HX.out.2
     obtain ⟨y,hy⟩:∃ y,y=nxSt a n x j:=⟨_,rfl⟩
     have hdy:DmS a y:=by rw [hy];exact st_step HF.out.1 HF.out.2.2.1 HF.out.2.1 x j hj
     obtain ⟨km,hkm⟩:=(move_ev HF.out.1 HF.out.2.2.1 hdx.2 j hj).rounds
     have hlw:=low_mv (s:=x.2) HF.out.1 HF.out.2.2.1 j hj
     obtain ⟨kq,hkq⟩:=(any_ev (n:=n) HF.out.2.2.1 hlw).rounds
     obtain ⟨acq,hacq⟩:∃ acq,acS a (mvS n x.2 (j:Int))=acq:=⟨_,rfl⟩
     rw [hacq] at hkq
     have HKM:=am_ hkm
     have HKQ:=am_ hkq
     have p1:((j:Int)<3)=True:=eq_true (by omega)
     have HY:=am_ (And.intro hy hdy)
     have HC8:=am_ hc8
     have HJ3:=am_ hj
     have HLW:=am_ hlw
     have HQ:=am_ hacq
     have F0:=H.f2 0
     clear hC8 hlj hil hkm hkq hdx hy hdy hc8 hj hlw f3 hacq
     go_wp2
     refine start_ (n:=11) (S:=(fun w'=>w'.cell? ⟨g1,0,none⟩=some (.slice A0 a.length c0)∧w'.cell? ⟨g1,1,none⟩=some (.slice (some adn) n.length c1)∧w'.cell? ⟨(ad7.add (i * 3)).block,(ad7.add (i * 3)).off+1,none⟩=some (.slice AS (sl x.2).length cS))) (ds:=[10]) (bl 11 0) (by kernel_rfl) rfl rfl (⟨F0.1.1,F0.2.1,f2⟩) (fun hHeld=>?_);refine with_tabW tabcs12 bitscs12 (fun HT_ HW_=>?_)
     clear F0 f2
     replace H:=H.drew
     refine ph_ 1 32 (bl 11 2) HT_ ?_
     refine ph_ 2 33 (bl 11 6) HT_ ?_
     refine ph_ 3 34 (bl 11 14) HT_ ?_
     refine ph_ 4 35 (bl 11 30) HT_ ?_
     refine ph_ 6 37 (bl 11 94) HT_ ?_
     refine th_ 0 31 (bl 11 95) HT_ HW_ hHeld ?_
     refine th_ 5 36 (bl 11 127) HT_ HW_ hHeld ?_
     refine join_ (σ:=Option Addr × Nat × Nat) 1 (bl 11 1023) (fun s_=>[(38,.slice s_.1 (sl (mvS n x.2 (j:Int))).length s_.2.1),(39,(.agg #[.int .i64 0,.slice s_.1 (sl (mvS n x.2 (j:Int))).length s_.2.1,.bool false])),(9,.pointer (some ⟨s_.2.2,0,none⟩))]) (fun s_ w'=>Sl w w' [bx g1 #[.slice A0 a.length c0,.slice (some adn) n.length c1] 27,bx g2 #[.slice none 0 0,.slice none 0 0] 27,nwP kSs 78 (.slice (some ad7) Lj.length c8) (Lj.map enS),bx g5 #[vA,vN] 27,rwP Kd.bool 4 vA A,nwP (Kd.slice 3 (Kd.int .i64)) 67 vN M,rwP (Kd.int .i64) 3 u7 row,rwP (Kd.int .i64) 3 (.slice s_.1 (sl (mvS n x.2 (j:Int))).length s_.2.1) (sl (mvS n x.2 (j:Int))),bx s_.2.2 #[.int .i64 0,.slice none 0 0,.bool false] 78]) ?_ ?_
     rotate_left
     ·intro hCont
      refine tw_ 7 9 (some 38) (some 9) (bl 11 255) (bl 11 639) HT_ (fun K hK=>?_) (fun K hK=>?_)
      ·refine gO_ Try.func73 #[.agg #[.slice A0 a.length c0,.slice (some adn) n.length c1],.slice AS (sl x.2).length cS,.int .i64 (j:Int)] ?_
       refine (spec_l6Move.calls km A0 c0 a (some adn) c1 n AS cS (sl x.2) (j:Int) (sl (mvS n x.2 (j:Int))) _ (Kd.C_below HCA.out.1.1 H.bel) HCA.out.1.2 (Kd.C_below HCA.out.2.1 H.bel) HCA.out.2.2 (setS_at H 2 HJ.out.2.2.2.1 hHeld.2.2).1 (setS_at H 2 HJ.out.2.2.2.1 hHeld.2.2).2 HKM.out).mono ?_
       rintro e_ w4 ⟨v38,rfl,ho,hb⟩
       replace H:=(H.newR hb ho).nz
       obtain ⟨A64,c64,rfl,-,-⟩:=(H.rd 7).2
       refine ⟨_,rfl,?_⟩
       refine hK.out _ _ (sb_ hb hHeld) (fun hHeld=>?_)
       clear hK K ho hb
       refine nm_ 38 ?_
       refine ph_ 8 39 (bl 11 511) HT_ ?_
       refine on_ 9 (some 9) (bl 11 1023) HT_ (fun K hK=>?_)
       refine ns_ H 9 #[.int .i64 0,.slice none 0 0,.bool false] 78 rfl (fun ga w5 H5 hb=>?_)
       refine hK.out _ _ (sb_ hb hHeld) (fun hHeld=>?_)
       clear hK K H hb
       have H:=H5
       clear H5
       refine nm_ 9 ?_
       exact ed_ (hCont (A64,c64,ga) _ H) (by first | (simp only [putAll,Act.put,List.setIfInBounds_toArray,List.set_cons_zero,List.set_cons_succ];done) | (simp only [putAll,Act.put,List.setIfInBounds_toArray,List.set_cons_zero,List.set_cons_succ];rfl))
      ·refine ns_ H 9 #[.int .i64 0,.slice none 0 0,.bool false] 78 rfl (fun ga w5 H5 hb=>?_)
       refine hK.out _ _ (sb_ hb hHeld) (fun hHeld=>?_)
       clear hK K H hb
       have H:=H5
       clear H5
       refine nm_ 9 ?_
       refine on_ 7 (some 38) (bl 11 767) HT_ (fun K hK=>?_)
       refine gO_ Try.func73 #[.agg #[.slice A0 a.length c0,.slice (some adn) n.length c1],.slice AS (sl x.2).length cS,.int .i64 (j:Int)] ?_
       refine (spec_l6Move.calls km A0 c0 a (some adn) c1 n AS cS (sl x.2) (j:Int) (sl (mvS n x.2 (j:Int))) _ (Kd.C_below HCA.out.1.1 H.bel) HCA.out.1.2 (Kd.C_below HCA.out.2.1 H.bel) HCA.out.2.2 (setS_at H 2 HJ.out.2.2.2.1 hHeld.2.2).1 (setS_at H 2 HJ.out.2.2.2.1 hHeld.2.2).2 HKM.out).mono ?_
       rintro e_ w4 ⟨v38,rfl,ho,hb⟩
       replace H:=(H.newR hb ho).nz
       obtain ⟨A64,c64,rfl,-,-⟩:=(H.rd 8).2
       refine ⟨_,rfl,?_⟩
       refine hK.out _ _ (sb_ hb hHeld) (fun hHeld=>?_)
       clear hK K ho hb
       refine nm_ 38 ?_
       refine ph_ 8 39 (bl 11 1023) HT_ ?_
       exact ed_ (hCont (A64,c64,ga) _ (H.sel [0,1,2,3,4,5,6,8,7])) (by first | (simp only [putAll,Act.put,List.setIfInBounds_toArray,List.set_cons_zero,List.set_cons_succ];done) | (simp only [putAll,Act.put,List.setIfInBounds_toArray,List.set_cons_zero,List.set_cons_succ];rfl))
     rintro ⟨A64,c64,g9⟩ w7 H
     refine norm_ (a':=?_) ?_ ?_
     rotate_left
     ·show putAll _ _=_
      simp only [putAll,Act.put,List.setIfInBounds_toArray,List.set_cons_zero,List.set_cons_succ]
      rfl
     dsimp only at H
     refine last_ (i:=10) (N:=none) (bl 11 2047) rfl rfl (one_of HT_.out (by kernel_rfl)) (by decide) (fun K hK=>?_)
     have F9:=H.f3 8
     refine s3_ H 8 (fun w8 H=>?_)
     refine hK.out _ _ ?_
     clear hK K F9
     refine done_ (done_of HT_.out (by kernel_rfl)) ?_
     clear HT_ HW_
     replace H:=H.nz
     have F0:=H.f2 0
     have F9:=H.f3 8
     obtain ⟨_,_,e_,hc64,-⟩:=(H.rd 7).2
     have HC64:Aside0 ((sl (mvS n x.2 (j:Int))).length≤c64):=⟨by injection e_ with _ _ e3;rw [e3];exact hc64⟩
     clear e_ hc64
     by_cases hy:y ∈ Lj
     ·cases acq with
      | true =>
       have HE2:enS y=(⟨0,(putI 0 (sl (mvS n x.2 (j:Int)))),false⟩:Ss):=by rw [HY.out.1];show (⟨0,sl (stSet a n x.2 j),_⟩:Ss)=_;unfold stSet;rw [if_pos HQ.out];rw [sl_or HF.out.2.2.1 HF.out.2.1 HLW.out];rfl
       obtain ⟨kf1,hkf1⟩:=findS_ev HF.out.2.2.1 HJ.out.2.2.2.2 (by have:=HJ.out.2.1.2;have:=HJ.out.1.1;omega) HY.out.2 HE2
       have HF1:=am_ hkf1
       clear hkf1
       obtain ⟨kp,hkp⟩:=(put_ev (sl (mvS n x.2 (j:Int))) 0 (by have:=sl_len (mvS n x.2 (j:Int));omega)).rounds
       have HKP:=am_ hkp
       clear hkp
       have qf:(find6 Lj y<0)=False:=eq_false (by rw [find6_in hy,num_eq hy];omega)
       have HIN:=am_ hy
       clear HE2 hy
       go_wp2_with (first
        | ((with_reducible refine gate_dst (N:=43) rfl ?_);refine gL_ (some 43) Try.func76 #[.agg #[.slice A0 a.length c0,.slice (some adn) n.length c1],.slice A64 (sl (mvS n x.2 (j:Int))).length c64] ?_;refine (spec_l6Any.calls kq A0 c0 a (some adn) c1 n A64 c64 (sl (mvS n x.2 (j:Int))) true _ (Kd.C_below HCA.out.1.1 H.bel) HCA.out.1.2 (Kd.C_below HCA.out.2.1 H.bel) HCA.out.2.2 (H.rd_c 7) HC64.out HKQ.out).mono ?_;rintro e_ w4 ⟨rfl,hb⟩;replace H:=H.only hb;clear hb F0 F9;have F9:=H.f3 8;refine ⟨_,rfl,?_⟩)
        | ((with_reducible refine gate_dst (N:=46) rfl ?_);refine gL_ (some 46) Try.func74 #[.slice A64 (sl (mvS n x.2 (j:Int))).length c64,.int .i64 0] ?_;refine (put6 H 7 rfl HKP.out).mono ?_;rintro e_ w4 ⟨z,rfl,H2⟩;clear H F9;have H:=H2.nz;clear H2;(obtain ⟨A65,c65,rfl,hc65,-⟩:=(H.rd 7).2);have HCU:=am_ hc65;clear hc65;have F9:=H.f3 8;refine ⟨_,rfl,?_⟩)
        | ((with_reducible refine gate_store (p:=47) rfl ?_);refine p1_ H 47 8 1 rfl ?_;clear H F9;intro w5 H;replace H:=H.nz;simp only [List.setIfInBounds_toArray,List.set_cons_zero,List.set_cons_succ] at H;have F9:=H.f3 8)
        | ((with_reducible refine gate_dst (N:=50) rfl ?_);refine gL_ (some 50) Try.func75 #[.slice (some ad7) Lj.length c8,.agg #[.int .i64 0,.slice A65 (putI 0 (sl (mvS n x.2 (j:Int)))).length c65,.bool false]] ?_;refine (findCallS Lj (some ad7) c8 A65 c65 (putI 0 (sl (mvS n x.2 (j:Int)))) (find6 Lj y) _ rfl (H.rdN_c 2) HC8.out (H.rd_c 7) HCU.out HF1.out).mono ?_;rintro e_ w6 ⟨rfl,hb⟩;replace H:=H.only hb;clear hb F9;have F9:=H.f3 8;refine ⟨_,rfl,?_⟩)
        | ((with_reducible refine gate_dst (N:=59) rfl ?_);replace H:=(H.mkP 2 7).nz;refine gL_ (some 59) Try.func75 #[.slice (some ad7) Lj.length c8,.agg #[.int .i64 0,.slice A65 (putI 0 (sl (mvS n x.2 (j:Int)))).length c65,.bool false]] ?_;refine (findCallS Lj (some ad7) c8 A65 c65 (putI 0 (sl (mvS n x.2 (j:Int)))) (find6 Lj y) _ rfl (H.np_c 2) HC8.out (H.np_r 2) HCU.out HF1.out).mono ?_;rintro e_ w6 ⟨rfl,hb⟩;replace H:=H.only hb;clear hb F9;have F9:=H.f3 8;refine ⟨_,rfl,?_⟩)
        | ((with_reducible refine gate_builtin (b:=.append) (xs:=#[.tmp 56,.tmp 60]) rfl ?_);at_builtin;refine H.apR (d:=Kd.int .i64) (e:=3) 6 (find6 Lj y) [.int .i64 (find6 Lj y)] (.tmp 56) (.tmp 60) 67 (.int .i64 0) 8 rfl rfl Try.underlying67 info3 rfl (by decide) (by decide) rfl rfl ?aP ?aL ?_;(case aP=>exact rfl);(case aL=>have:=HJ.out.2.1.1;have:=HJ.out.1.1;omega);clear H F9;intro v10n w7 H;replace H:=H.nz))
       go_roundg g2_
       case measure=>omega
       case rel =>
        have hst:=row_step (nx:=nxSt a n) (x:=x) HJ3.out HJ.out.2.2.1.1 HJ.out.2.2.1.2 (L':=Lj) (by rw [← HY.out.1];exact (add_in HIN.out).symm)
        rw [← HY.out.1] at hst
        have H3:=(H.np_n 2).nz.pre 7
        refine ⟨Lj,row ++ [find6 Lj y],j+1,by first | rfl | (rw [up1 (by have:=HJ3.out;omega)]),⟨⟨by have:=HJ3.out;omega,by have:=HJ.out.1;omega⟩,⟨by rw [List.length_append,HJ.out.2.1.1];rfl,by have:=HJ.out.2.1.2;omega⟩,hst,HJ.out.2.2.2.1,HJ.out.2.2.2.2⟩,H3⟩
      | false =>
       have HE2:enS y=(⟨0,(sl (mvS n x.2 (j:Int))),false⟩:Ss):=by rw [HY.out.1];show (⟨0,sl (stSet a n x.2 j),_⟩:Ss)=_;unfold stSet;rw [if_neg (by rw [HQ.out];decide)];rfl
       obtain ⟨kf1,hkf1⟩:=findS_ev HF.out.2.2.1 HJ.out.2.2.2.2 (by have:=HJ.out.2.1.2;have:=HJ.out.1.1;omega) HY.out.2 HE2
       have HF1:=am_ hkf1
       clear hkf1
       have qf:(find6 Lj y<0)=False:=eq_false (by rw [find6_in hy,num_eq hy];omega)
       have HCU:Aside0 ((sl (mvS n x.2 (j:Int))).length≤c64):=⟨HC64.out⟩
       have HIN:=am_ hy
       clear HE2 hy
       go_wp2_with (first
        | ((with_reducible refine gate_dst (N:=43) rfl ?_);refine gL_ (some 43) Try.func76 #[.agg #[.slice A0 a.length c0,.slice (some adn) n.length c1],.slice A64 (sl (mvS n x.2 (j:Int))).length c64] ?_;refine (spec_l6Any.calls kq A0 c0 a (some adn) c1 n A64 c64 (sl (mvS n x.2 (j:Int))) false _ (Kd.C_below HCA.out.1.1 H.bel) HCA.out.1.2 (Kd.C_below HCA.out.2.1 H.bel) HCA.out.2.2 (H.rd_c 7) HC64.out HKQ.out).mono ?_;rintro e_ w4 ⟨rfl,hb⟩;replace H:=H.only hb;clear hb F0 F9;have F9:=H.f3 8;refine ⟨_,rfl,?_⟩)
        | ((with_reducible refine gate_dst (N:=50) rfl ?_);refine gL_ (some 50) Try.func75 #[.slice (some ad7) Lj.length c8,.agg #[.int .i64 0,.slice A64 (sl (mvS n x.2 (j:Int))).length c64,.bool false]] ?_;refine (findCallS Lj (some ad7) c8 A64 c64 (sl (mvS n x.2 (j:Int))) (find6 Lj y) _ rfl (H.rdN_c 2) HC8.out (H.rd_c 7) HCU.out HF1.out).mono ?_;rintro e_ w6 ⟨rfl,hb⟩;replace H:=H.only hb;clear hb F9;have F9:=H.f3 8;refine ⟨_,rfl,?_⟩)
        | ((with_reducible refine gate_dst (N:=59) rfl ?_);replace H:=(H.mkP 2 7).nz;refine gL_ (some 59) Try.func75 #[.slice (some ad7) Lj.length c8,.agg #[.int .i64 0,.slice A64 (sl (mvS n x.2 (j:Int))).length c64,.bool false]] ?_;refine (findCallS Lj (some ad7) c8 A64 c64 (sl (mvS n x.2 (j:Int))) (find6 Lj y) _ rfl (H.np_c 2) HC8.out (H.np_r 2) HCU.out HF1.out).mono ?_;rintro e_ w6 ⟨rfl,hb⟩;replace H:=H.only hb;clear hb F9;have F9:=H.f3 8;refine ⟨_,rfl,?_⟩)
        | ((with_reducible refine gate_builtin (b:=.append) (xs:=#[.tmp 56,.tmp 60]) rfl ?_);at_builtin;refine H.apR (d:=Kd.int .i64) (e:=3) 6 (find6 Lj y) [.int .i64 (find6 Lj y)] (.tmp 56) (.tmp 60) 67 (.int .i64 0) 8 rfl rfl Try.underlying67 info3 rfl (by decide) (by decide) rfl rfl ?aP ?aL ?_;(case aP=>exact rfl);(case aL=>have:=HJ.out.2.1.1;have:=HJ.out.1.1;omega);clear H F9;intro v10n w7 H;replace H:=H.nz))
       go_roundg g2_
       case measure=>omega
       case rel =>
        have hst:=row_step (nx:=nxSt a n) (x:=x) HJ3.out HJ.out.2.2.1.1 HJ.out.2.2.1.2 (L':=Lj) (by rw [← HY.out.1];exact (add_in HIN.out).symm)
        rw [← HY.out.1] at hst
        have H3:=(H.np_n 2).nz.pre 7
        refine ⟨Lj,row ++ [find6 Lj y],j+1,by first | rfl | (rw [up1 (by have:=HJ3.out;omega)]),⟨⟨by have:=HJ3.out;omega,by have:=HJ.out.1;omega⟩,⟨by rw [List.length_append,HJ.out.2.1.1];rfl,by have:=HJ.out.2.1.2;omega⟩,hst,HJ.out.2.2.2.1,HJ.out.2.2.2.2⟩,H3⟩
     ·cases acq with
      | true =>
       have HE2:enS y=(⟨0,(putI 0 (sl (mvS n x.2 (j:Int)))),false⟩:Ss):=by rw [HY.out.1];show (⟨0,sl (stSet a n x.2 j),_⟩:Ss)=_;unfold stSet;rw [if_pos HQ.out];rw [sl_or HF.out.2.2.1 HF.out.2.1 HLW.out];rfl
       obtain ⟨kf1,hkf1⟩:=findS_ev HF.out.2.2.1 HJ.out.2.2.2.2 (by have:=HJ.out.2.1.2;have:=HJ.out.1.1;omega) HY.out.2 HE2
       have HF1:=am_ hkf1
       clear hkf1
       obtain ⟨kp,hkp⟩:=(put_ev (sl (mvS n x.2 (j:Int))) 0 (by have:=sl_len (mvS n x.2 (j:Int));omega)).rounds
       have HKP:=am_ hkp
       clear hkp
       have qf:(find6 Lj y<0)=True:=eq_true (by unfold find6;rw [if_neg hy];decide)
       obtain ⟨kf2,hkf2⟩:=findS_ev (L:=Lj ++ [y]) HF.out.2.2.1 (fun z hz=>(List.mem_append.1 hz).elim (HJ.out.2.2.2.2 z) (fun h=>by rw [List.mem_singleton.1 h];exact HY.out.2)) (by have:=HJ.out.2.1.2;have:=HJ.out.1.1;simp only [List.length_append,List.length_singleton];omega) HY.out.2 HE2
       have HF2:=am_ hkf2
       clear hkf2
       have HAP:Aside0 (Lj.map enS ++ [(⟨0,(putI 0 (sl (mvS n x.2 (j:Int)))),false⟩:Ss)]=(Lj ++ [y]).map enS):=⟨by rw [List.map_append,List.map_singleton,HE2]⟩
       have HIN:=am_ hy
       clear HE2 hy
       go_wp2_with (first
        | ((with_reducible refine gate_dst (N:=43) rfl ?_);refine gL_ (some 43) Try.func76 #[.agg #[.slice A0 a.length c0,.slice (some adn) n.length c1],.slice A64 (sl (mvS n x.2 (j:Int))).length c64] ?_;refine (spec_l6Any.calls kq A0 c0 a (some adn) c1 n A64 c64 (sl (mvS n x.2 (j:Int))) true _ (Kd.C_below HCA.out.1.1 H.bel) HCA.out.1.2 (Kd.C_below HCA.out.2.1 H.bel) HCA.out.2.2 (H.rd_c 7) HC64.out HKQ.out).mono ?_;rintro e_ w4 ⟨rfl,hb⟩;replace H:=H.only hb;clear hb F0 F9;have F9:=H.f3 8;refine ⟨_,rfl,?_⟩)
        | ((with_reducible refine gate_dst (N:=46) rfl ?_);refine gL_ (some 46) Try.func74 #[.slice A64 (sl (mvS n x.2 (j:Int))).length c64,.int .i64 0] ?_;refine (put6 H 7 rfl HKP.out).mono ?_;rintro e_ w4 ⟨z,rfl,H2⟩;clear H F9;have H:=H2.nz;clear H2;(obtain ⟨A65,c65,rfl,hc65,-⟩:=(H.rd 7).2);have HCU:=am_ hc65;clear hc65;have F9:=H.f3 8;refine ⟨_,rfl,?_⟩)
        | ((with_reducible refine gate_store (p:=47) rfl ?_);refine p1_ H 47 8 1 rfl ?_;clear H F9;intro w5 H;replace H:=H.nz;simp only [List.setIfInBounds_toArray,List.set_cons_zero,List.set_cons_succ] at H;have F9:=H.f3 8)
        | ((with_reducible refine gate_dst (N:=50) rfl ?_);refine gL_ (some 50) Try.func75 #[.slice (some ad7) Lj.length c8,.agg #[.int .i64 0,.slice A65 (putI 0 (sl (mvS n x.2 (j:Int)))).length c65,.bool false]] ?_;refine (findCallS Lj (some ad7) c8 A65 c65 (putI 0 (sl (mvS n x.2 (j:Int)))) (find6 Lj y) _ rfl (H.rdN_c 2) HC8.out (H.rd_c 7) HCU.out HF1.out).mono ?_;rintro e_ w6 ⟨rfl,hb⟩;replace H:=H.only hb;clear hb F9;have F9:=H.f3 8;refine ⟨_,rfl,?_⟩)
        | ((with_reducible refine gate_builtin (b:=.append) (xs:=#[.tmp 52,.tmp 54]) rfl ?_);at_builtin;refine H.apP (d:=kSs) (d2:=Kd.int .i64) (e:=3) (e':=78) 2 7 (⟨0,(putI 0 (sl (mvS n x.2 (j:Int)))),false⟩:Ss) [.int .i64 0,.slice A65 (putI 0 (sl (mvS n x.2 (j:Int)))).length c65,.bool false] (.tmp 52) (.tmp 54) 79 (.agg #[(.int .i64 0),(.slice none 0 0),(.bool false)]) 40 rfl rfl Try.underlying79 info6 rfl (by decide) (by decide) rfl rfl (fun f h=>mkF6 _ _ (⟨0,(putI 0 (sl (mvS n x.2 (j:Int)))),false⟩:Ss) HCU.out (Kd.R_F h)) ?aL ?_;(case aL=>have:=HJ.out.2.1.2;have:=HI.out.1.2.1;have:=HJ.out.1.1;rw [List.length_map];omega);clear H F9;intro v8 w6 H;replace H:=H.nz;rw [HAP.out] at H;(obtain ⟨A9,c9,e9,hc9,-⟩:=H.np_l 2);rw [show ((Lj ++ [y]).map enS).length=Lj.length+1 by simp] at e9 hc9;subst e9;have HC9:=am_ hc9;clear hc9;have F9:=H.f3 8)
        | ((with_reducible refine gate_dst (N:=59) rfl ?_);refine gL_ (some 59) Try.func75 #[.slice A9 (Lj.length+1) c9,.agg #[.int .i64 0,.slice A65 (putI 0 (sl (mvS n x.2 (j:Int)))).length c65,.bool false]] ?_;refine (findCallS (Lj ++ [y]) A9 c9 A65 c65 (putI 0 (sl (mvS n x.2 (j:Int)))) (find6 (Lj ++ [y]) y) _ (by simp) (H.np_c 2) HC9.out (H.np_r 2) HCU.out HF2.out).mono ?_;rintro e_ w6 ⟨rfl,hb⟩;replace H:=H.only hb;clear hb F9;have F9:=H.f3 8;refine ⟨_,rfl,?_⟩)
        | ((with_reducible refine gate_builtin (b:=.append) (xs:=#[.tmp 56,.tmp 60]) rfl ?_);at_builtin;refine H.apR (d:=Kd.int .i64) (e:=3) 6 (find6 (Lj ++ [y]) y) [.int .i64 (find6 (Lj ++ [y]) y)] (.tmp 56) (.tmp 60) 67 (.int .i64 0) 8 rfl rfl Try.underlying67 info3 rfl (by decide) (by decide) rfl rfl ?aP ?aL ?_;(case aP=>exact rfl);(case aL=>have:=HJ.out.2.1.1;have:=HJ.out.1.1;omega);clear H F9;intro v10n w7 H;replace H:=H.nz))
       go_roundg g2_
       case measure=>omega
       case rel =>
        have hst:=row_step (nx:=nxSt a n) (x:=x) HJ3.out HJ.out.2.2.1.1 HJ.out.2.2.1.2 (L':=(Lj ++ [y])) (by rw [← HY.out.1];exact (add_out HIN.out).symm)
        rw [← HY.out.1] at hst
        have H3:=(H.np_n 2).nz.pre 7
        refine ⟨(Lj ++ [y]),row ++ [find6 (Lj ++ [y]) y],j+1,by first | rfl | (rw [up1 (by have:=HJ3.out;omega)]),⟨⟨by have:=HJ3.out;omega,by have:=HJ.out.1;omega⟩,⟨by rw [List.length_append,HJ.out.2.1.1];rfl,by have:=HJ.out.2.1.2;simp only [List.length_append,List.length_singleton];omega⟩,hst,by rw [List.getElem?_append_left (List.getElem?_eq_some_iff.1 HJ.out.2.2.2.1).1];exact HJ.out.2.2.2.1,(fun z hz=>(List.mem_append.1 hz).elim (HJ.out.2.2.2.2 z) (fun h=>by rw [List.mem_singleton.1 h];exact HY.out.2))⟩,H3⟩
      | false =>
       have HE2:enS y=(⟨0,(sl (mvS n x.2 (j:Int))),false⟩:Ss):=by rw [HY.out.1];show (⟨0,sl (stSet a n x.2 j),_⟩:Ss)=_;unfold stSet;rw [if_neg (by rw [HQ.out];decide)];rfl
       obtain ⟨kf1,hkf1⟩:=findS_ev HF.out.2.2.1 HJ.out.2.2.2.2 (by have:=HJ.out.2.1.2;have:=HJ.out.1.1;omega) HY.out.2 HE2
       have HF1:=am_ hkf1
       clear hkf1
       have qf:(find6 Lj y<0)=True:=eq_true (by unfold find6;rw [if_neg hy];decide)
       obtain ⟨kf2,hkf2⟩:=findS_ev (L:=Lj ++ [y]) HF.out.2.2.1 (fun z hz=>(List.mem_append.1 hz).elim (HJ.out.2.2.2.2 z) (fun h=>by rw [List.mem_singleton.1 h];exact HY.out.2)) (by have:=HJ.out.2.1.2;have:=HJ.out.1.1;simp only [List.length_append,List.length_singleton];omega) HY.out.2 HE2
       have HF2:=am_ hkf2
       clear hkf2
       have HAP:Aside0 (Lj.map enS ++ [(⟨0,(sl (mvS n x.2 (j:Int))),false⟩:Ss)]=(Lj ++ [y]).map enS):=⟨by rw [List.map_append,List.map_singleton,HE2]⟩
       have HCU:Aside0 ((sl (mvS n x.2 (j:Int))).length≤c64):=⟨HC64.out⟩
       have HIN:=am_ hy
       clear HE2 hy
       go_wp2_with (first
        | ((with_reducible refine gate_dst (N:=43) rfl ?_);refine gL_ (some 43) Try.func76 #[.agg #[.slice A0 a.length c0,.slice (some adn) n.length c1],.slice A64 (sl (mvS n x.2 (j:Int))).length c64] ?_;refine (spec_l6Any.calls kq A0 c0 a (some adn) c1 n A64 c64 (sl (mvS n x.2 (j:Int))) false _ (Kd.C_below HCA.out.1.1 H.bel) HCA.out.1.2 (Kd.C_below HCA.out.2.1 H.bel) HCA.out.2.2 (H.rd_c 7) HC64.out HKQ.out).mono ?_;rintro e_ w4 ⟨rfl,hb⟩;replace H:=H.only hb;clear hb F0 F9;have F9:=H.f3 8;refine ⟨_,rfl,?_⟩)
        | ((with_reducible refine gate_dst (N:=50) rfl ?_);refine gL_ (some 50) Try.func75 #[.slice (some ad7) Lj.length c8,.agg #[.int .i64 0,.slice A64 (sl (mvS n x.2 (j:Int))).length c64,.bool false]] ?_;refine (findCallS Lj (some ad7) c8 A64 c64 (sl (mvS n x.2 (j:Int))) (find6 Lj y) _ rfl (H.rdN_c 2) HC8.out (H.rd_c 7) HCU.out HF1.out).mono ?_;rintro e_ w6 ⟨rfl,hb⟩;replace H:=H.only hb;clear hb F9;have F9:=H.f3 8;refine ⟨_,rfl,?_⟩)
        | ((with_reducible refine gate_builtin (b:=.append) (xs:=#[.tmp 52,.tmp 54]) rfl ?_);at_builtin;refine H.apP (d:=kSs) (d2:=Kd.int .i64) (e:=3) (e':=78) 2 7 (⟨0,(sl (mvS n x.2 (j:Int))),false⟩:Ss) [.int .i64 0,.slice A64 (sl (mvS n x.2 (j:Int))).length c64,.bool false] (.tmp 52) (.tmp 54) 79 (.agg #[(.int .i64 0),(.slice none 0 0),(.bool false)]) 40 rfl rfl Try.underlying79 info6 rfl (by decide) (by decide) rfl rfl (fun f h=>mkF6 _ _ (⟨0,(sl (mvS n x.2 (j:Int))),false⟩:Ss) HCU.out (Kd.R_F h)) ?aL ?_;(case aL=>have:=HJ.out.2.1.2;have:=HI.out.1.2.1;have:=HJ.out.1.1;rw [List.length_map];omega);clear H F9;intro v8 w6 H;replace H:=H.nz;rw [HAP.out] at H;(obtain ⟨A9,c9,e9,hc9,-⟩:=H.np_l 2);rw [show ((Lj ++ [y]).map enS).length=Lj.length+1 by simp] at e9 hc9;subst e9;have HC9:=am_ hc9;clear hc9;have F9:=H.f3 8)
        | ((with_reducible refine gate_dst (N:=59) rfl ?_);refine gL_ (some 59) Try.func75 #[.slice A9 (Lj.length+1) c9,.agg #[.int .i64 0,.slice A64 (sl (mvS n x.2 (j:Int))).length c64,.bool false]] ?_;refine (findCallS (Lj ++ [y]) A9 c9 A64 c64 (sl (mvS n x.2 (j:Int))) (find6 (Lj ++ [y]) y) _ (by simp) (H.np_c 2) HC9.out (H.np_r 2) HCU.out HF2.out).mono ?_;rintro e_ w6 ⟨rfl,hb⟩;replace H:=H.only hb;clear hb F9;have F9:=H.f3 8;refine ⟨_,rfl,?_⟩)
        | ((with_reducible refine gate_builtin (b:=.append) (xs:=#[.tmp 56,.tmp 60]) rfl ?_);at_builtin;refine H.apR (d:=Kd.int .i64) (e:=3) 6 (find6 (Lj ++ [y]) y) [.int .i64 (find6 (Lj ++ [y]) y)] (.tmp 56) (.tmp 60) 67 (.int .i64 0) 8 rfl rfl Try.underlying67 info3 rfl (by decide) (by decide) rfl rfl ?aP ?aL ?_;(case aP=>exact rfl);(case aL=>have:=HJ.out.2.1.1;have:=HJ.out.1.1;omega);clear H F9;intro v10n w7 H;replace H:=H.nz))
       go_roundg g2_
       case measure=>omega
       case rel =>
        have hst:=row_step (nx:=nxSt a n) (x:=x) HJ3.out HJ.out.2.2.1.1 HJ.out.2.2.1.2 (L':=(Lj ++ [y])) (by rw [← HY.out.1];exact (add_out HIN.out).symm)
        rw [← HY.out.1] at hst
        have H3:=(H.np_n 2).nz.pre 7
        refine ⟨(Lj ++ [y]),row ++ [find6 (Lj ++ [y]) y],j+1,by first | rfl | (rw [up1 (by have:=HJ3.out;omega)]),⟨⟨by have:=HJ3.out;omega,by have:=HJ.out.1;omega⟩,⟨by rw [List.length_append,HJ.out.2.1.1];rfl,by have:=HJ.out.2.1.2;simp only [List.length_append,List.length_singleton];omega⟩,hst,by rw [List.getElem?_append_left (List.getElem?_eq_some_iff.1 HJ.out.2.2.2.1).1];exact HJ.out.2.2.2.1,(fun z hz=>(List.mem_append.1 hz).elim (HJ.out.2.2.2.2 z) (fun h=>by rw [List.mem_singleton.1 h];exact HY.out.2))⟩,H3⟩
    ·have e_:j=3:=by have:=HJ.out.1;omega
     subst e_
     have eL:Lj=LF:=HJ.out.2.2.1.1
     have er:row=rF:=by have h:=HJ.out.2.2.1.2;simpa [tl] using h
     subst eL
     subst er
     obtain ⟨A8,c8,e8,hc8,hC8⟩:=H.rdN 2
     have hlj:(Lj.map enS).length=Lj.length:=List.length_map ..
     rw [hlj] at e8 hc8
     have hil:=(List.getElem?_eq_some_iff.1 HJ.out.2.2.2.1).1
     obtain ⟨ad7,AS,cS,e7,-,f2,f3,-,-⟩:=at_T78 hC8 (i:Int) (by omega) (by rw [hlj];omega)
     subst e7
     subst e8
     rw [rd_en enS Lj i HJ.out.2.2.2.1,Int.toNat_natCast] at f2 f3
     have f2:wr.cell? ⟨(ad7.add (i * 3)).block,(ad7.add (i * 3)).off+1,none⟩=some (.slice AS (sl x.2).length cS):=f2
     have f3:wr.cell? ⟨(ad7.add (i * 3)).block,(ad7.add (i * 3)).off+2,none⟩=some (.bool (x.1 == 1)):=f3
     have p2:((0:Int)≤(i:Int))=True:=eq_true (by omega)
     have p3:((i:Int)<(Lj.length:Int))=True:=eq_true (by omega)
     clear hC8 hlj hil hc8
     by_cases hbig:((Lj.length:Int) > 400)
     ·have hRn:res=([],[],false):=by rw [HRES.out,HNX.out.1 (by omega)]
      have pb:((Lj.length:Int) > 400)=True:=eq_true hbig
      have F2:=H.f2 1
      clear f2 f3 hbig
      go_wp2_with (((with_reducible refine gate_store (p:=2) rfl ?_);refine p2_ H 2 1 rfl ?_;clear H F2;intro w1 H;replace H:=H.nz))
      refine bodyPost_ret (results_ct rfl _ _ g2 27 #[.slice none 0 0,.slice none 0 0] (0,0) _ rfl (H.blk 1 rfl) hu rfl (by kernel_rfl)) rfl ?_
      rw [hRn]
      exact ⟨_,_,rfl,Kd.R_nil _ _ _ _ _,Kd.S_nil _ _ _ _ _,H.bel⟩
     ·have pb:((Lj.length:Int) > 400)=False:=eq_false hbig
      have HEX2:=am_ (HNX.out.2 (by omega))
      have HLB:Aside0 (Lj.length≤400):=⟨by omega⟩
      obtain ⟨A10,c10,rfl,-,-⟩:=(H.rd 6).2
      obtain ⟨ky,hky⟩:=(any_ev (n:=n) HF.out.2.2.1 HX.out.2.2).rounds
      have HKY:=am_ hky
      obtain ⟨bst,hbst⟩:∃ bst,(x.1 == 1)=bst:=⟨_,rfl⟩
      rw [hbst] at f3
      have HV:Aside0 (acSt a x=(bst || acS a x.2)):=⟨by unfold acSt;rw [hbst]⟩
      have F5:=H.f2 3
      have F0:=H.f2 0
      clear hbig hky hbst
      cases bst with
      | true =>
       go_wp2
       refine start_ (n:=20) (S:=(fun w'=>w'.cell? ⟨g5,0,none⟩=some vA∧w'.cell? ⟨g1,0,none⟩=some (.slice A0 a.length c0)∧w'.cell? ⟨g1,1,none⟩=some (.slice (some adn) n.length c1)∧w'.cell? ⟨(ad7.add (i * 3)).block,(ad7.add (i * 3)).off+1,none⟩=some (.slice AS (sl x.2).length cS)∧w'.cell? ⟨(ad7.add (i * 3)).block,(ad7.add (i * 3)).off+2,none⟩=some (.bool true))) (ds:=[17,19]) (bl 20 0) (by kernel_rfl) rfl rfl (⟨F5.1.1,F0.1.1,F0.2.1,f2,f3⟩) (fun hHeld=>?_);refine with_tabW tabcs20 bitscs20 (fun HT_ HW_=>?_)
       clear F5 F0 f2 f3
       replace H:=H.drew
       refine ph_ 0 66 (bl 20 1) HT_ ?_
       refine ph_ 2 68 (bl 20 5) HT_ ?_
       refine ph_ 3 69 (bl 20 13) HT_ ?_
       refine ph_ 4 70 (bl 20 29) HT_ ?_
       refine ph_ 5 71 (bl 20 61) HT_ ?_
       refine th_ 1 67 (bl 20 63) HT_ HW_ hHeld ?_
       refine th_ 6 72 (bl 20 127) HT_ HW_ hHeld ?_
       refine ph_ 7 73 (bl 20 255) HT_ ?_
       refine pz_ 9 75 (bl 20 767) HT_ ?_
       refine pz_ 10 76 (bl 20 1791) HT_ ?_
       refine pz_ 11 77 (bl 20 3839) HT_ ?_
       refine pz_ 12 78 (bl 20 7935) HT_ ?_
       refine tzS_ 8 74 (bl 20 8191) HT_ HW_ hHeld ?_
       refine tzS_ 13 79 (bl 20 16383) HT_ HW_ hHeld ?_
       refine on_ 14 (some 80) (bl 20 32767) HT_ (fun K hK=>?_)
       refine noS_ ?_
       refine hK.out _ _ hHeld (fun hHeld=>?_)
       clear hK K
       refine nm_ 80 ?_
       refine ph_ 15 81 (bl 20 65535) HT_ ?_
       refine on_ 16 (some 82) (bl 20 131071) HT_ (fun K hK=>?_)
       refine value_ (w1:=?_) (v:=?_) (by rfl) rfl ?_ ?_
       rotate_left 2
       ·go_simp
        constructor
        ·rfl
        ·rfl
       refine hK.out _ _ (sb_ ba_ hHeld) (fun hHeld=>?_)
       clear hK K
       refine nm_ 82 ?_
       refine last_ (i:=17) (N:=some 83) (bl 20 262143) rfl rfl (one_of HT_.out (by kernel_rfl)) (by decide) (fun K hK=>?_)
       refine H.apR_step (d:=Kd.bool) (e:=4) (v:=vA) (xs:=A) 4 true [.bool true] (.tmp 67) (.tmp 82) 22 (.bool false) 1 rfl Try.underlying22 info4 rfl (by decide) (by decide) rfl rfl rfl (by have:=HI.out;omega) (fun vA2 w8 H=>?_)
       replace H:=H.nz
       obtain ⟨AA2,nA2,cA2,rfl⟩:∃ A_ n_ c_,vA2=Value.slice A_ n_ c_:=by obtain ⟨A_,c_,e_,-,-⟩:=(H.rd 4).2;exact ⟨A_,_,c_,e_⟩
       refine hK.out _ _ ?_
       clear hK K
       refine nm_ 83 ?_
       refine ph_ 18 84 (bl 20 524287) HT_ ?_
       refine last_ (i:=19) (N:=none) (bl 20 1048575) rfl rfl (one_of HT_.out (by kernel_rfl)) (by decide) (fun K hK=>?_)
       have F5:=H.f2 3
       refine s1_ H 3 0 (fun w9 H=>?_)
       refine hK.out _ _ ?_
       clear hK K F5
       refine done_ (done_of HT_.out (by kernel_rfl)) ?_
       clear HT_ HW_ hHeld
       replace H:=H.nz
       simp only [List.setIfInBounds_toArray,List.set_cons_zero,List.set_cons_succ] at H
       have F5:=H.f2 3
       go_wp2_with (first
        | ((with_reducible refine gate_builtin (b:=.append) (xs:=#[.tmp 86,.tmp 88]) rfl ?_);at_builtin;refine H.apN 5 6 (.tmp 86) (.tmp 88) 23 (.slice none 0 0) 24 rfl rfl Try.underlying23 (by kernel_rfl) rfl (by decide) rfl rfl ?aL ?_;(case aL=>have:=HI.out;omega);clear H F5;intro vN2 w4 H;replace H:=H.nz;(obtain ⟨AN2,nN2,cN2,rfl⟩:=H.nl_v 5);have F5:=H.f2 3)
        | ((with_reducible refine gate_store (p:=90) rfl ?_);refine p1_ H 90 3 1 rfl ?_;clear H F5;intro w5 H;replace H:=H.nz;simp only [List.setIfInBounds_toArray,List.set_cons_zero,List.set_cons_succ] at H))
       go_roundg g1_
       case measure=>omega
       case rel =>
        have H3:=(H.nl_n 5).nz.pre 6
        have hex3:=HEX2.out
        rw [show acSt a x=true from HV.out] at hex3
        exact ⟨Lj,A ++ [true],M ++ [row],i+1,.slice AA2 nA2 cA2,.slice AN2 nN2 cN2,by first | rfl | (rw [up1 (by have:=HLB.out;have:=HI2.out;have:=HI.out;omega)]),⟨hex3⟩,⟨⟨by have:=HI.out;omega,HLB.out,by have:=(List.getElem?_eq_some_iff.1 HJ.out.2.2.2.1).1;omega⟩,⟨by rw [List.length_append,HI.out.2.1.1];rfl,by rw [List.length_append,HI.out.2.1.2];rfl⟩,HJ.out.2.2.2.2⟩,H3⟩
      | false =>
       go_wp2
       refine start_ (n:=20) (S:=(fun w'=>w'.cell? ⟨g5,0,none⟩=some vA∧w'.cell? ⟨g1,0,none⟩=some (.slice A0 a.length c0)∧w'.cell? ⟨g1,1,none⟩=some (.slice (some adn) n.length c1)∧w'.cell? ⟨(ad7.add (i * 3)).block,(ad7.add (i * 3)).off+1,none⟩=some (.slice AS (sl x.2).length cS)∧w'.cell? ⟨(ad7.add (i * 3)).block,(ad7.add (i * 3)).off+2,none⟩=some (.bool false))) (ds:=[17,19]) (bl 20 0) (by kernel_rfl) rfl rfl (⟨F5.1.1,F0.1.1,F0.2.1,f2,f3⟩) (fun hHeld=>?_);refine with_tabW tabcs20 bitscs20 (fun HT_ HW_=>?_)
       clear F5 F0 f2 f3
       replace H:=H.drew
       refine ph_ 0 66 (bl 20 1) HT_ ?_
       refine ph_ 2 68 (bl 20 5) HT_ ?_
       refine ph_ 3 69 (bl 20 13) HT_ ?_
       refine ph_ 4 70 (bl 20 29) HT_ ?_
       refine ph_ 5 71 (bl 20 61) HT_ ?_
       refine th_ 1 67 (bl 20 63) HT_ HW_ hHeld ?_
       refine th_ 6 72 (bl 20 127) HT_ HW_ hHeld ?_
       refine ph_ 7 73 (bl 20 255) HT_ ?_
       refine ph_ 9 75 (bl 20 767) HT_ ?_
       refine ph_ 10 76 (bl 20 1791) HT_ ?_
       refine ph_ 11 77 (bl 20 3839) HT_ ?_
       refine ph_ 12 78 (bl 20 7935) HT_ ?_
       refine th_ 8 74 (bl 20 8191) HT_ HW_ hHeld ?_
       refine th_ 13 79 (bl 20 16383) HT_ HW_ hHeld ?_
       refine on_ 14 (some 80) (bl 20 32767) HT_ (fun K hK=>?_)
       refine gO_ Try.func76 #[.agg #[.slice A0 a.length c0,.slice (some adn) n.length c1],.slice AS (sl x.2).length cS] ?_
       refine (spec_l6Any.calls ky A0 c0 a (some adn) c1 n AS cS (sl x.2) (acS a x.2) _ (Kd.C_below HCA.out.1.1 H.bel) HCA.out.1.2 (Kd.C_below HCA.out.2.1 H.bel) HCA.out.2.2 (setS_at H 2 HJ.out.2.2.2.1 hHeld.2.2.2.1).1 (setS_at H 2 HJ.out.2.2.2.1 hHeld.2.2.2.1).2 HKY.out).mono ?_
       rintro e_ w4 ⟨rfl,hb⟩
       replace H:=H.only hb
       refine ⟨_,rfl,?_⟩
       refine hK.out _ _ (sb_ hb hHeld) (fun hHeld=>?_)
       clear hK K hb
       refine nm_ 80 ?_
       refine ph_ 15 81 (bl 20 65535) HT_ ?_
       refine on_ 16 (some 82) (bl 20 131071) HT_ (fun K hK=>?_)
       refine value_ (w1:=?_) (v:=?_) (by rfl) rfl ?_ ?_
       rotate_left 2
       ·go_simp
        constructor
        ·rfl
        ·rfl
       refine hK.out _ _ (sb_ ba_ hHeld) (fun hHeld=>?_)
       clear hK K
       refine nm_ 82 ?_
       refine last_ (i:=17) (N:=some 83) (bl 20 262143) rfl rfl (one_of HT_.out (by kernel_rfl)) (by decide) (fun K hK=>?_)
       refine H.apR_step (d:=Kd.bool) (e:=4) (v:=vA) (xs:=A) 4 (acS a x.2) [.bool (acS a x.2)] (.tmp 67) (.tmp 82) 22 (.bool false) 1 rfl Try.underlying22 info4 rfl (by decide) (by decide) rfl rfl rfl (by have:=HI.out;omega) (fun vA2 w8 H=>?_)
       replace H:=H.nz
       obtain ⟨AA2,nA2,cA2,rfl⟩:∃ A_ n_ c_,vA2=Value.slice A_ n_ c_:=by obtain ⟨A_,c_,e_,-,-⟩:=(H.rd 4).2;exact ⟨A_,_,c_,e_⟩
       refine hK.out _ _ ?_
       clear hK K
       refine nm_ 83 ?_
       refine ph_ 18 84 (bl 20 524287) HT_ ?_
       refine last_ (i:=19) (N:=none) (bl 20 1048575) rfl rfl (one_of HT_.out (by kernel_rfl)) (by decide) (fun K hK=>?_)
       have F5:=H.f2 3
       refine s1_ H 3 0 (fun w9 H=>?_)
       refine hK.out _ _ ?_
       clear hK K F5
       refine done_ (done_of HT_.out (by kernel_rfl)) ?_
       clear HT_ HW_ hHeld
       replace H:=H.nz
       simp only [List.setIfInBounds_toArray,List.set_cons_zero,List.set_cons_succ] at H
       have F5:=H.f2 3
       go_wp2_with (first
        | ((with_reducible refine gate_builtin (b:=.append) (xs:=#[.tmp 86,.tmp 88]) rfl ?_);at_builtin;refine H.apN 5 6 (.tmp 86) (.tmp 88) 23 (.slice none 0 0) 24 rfl rfl Try.underlying23 (by kernel_rfl) rfl (by decide) rfl rfl ?aL ?_;(case aL=>have:=HI.out;omega);clear H F5;intro vN2 w4 H;replace H:=H.nz;(obtain ⟨AN2,nN2,cN2,rfl⟩:=H.nl_v 5);have F5:=H.f2 3)
        | ((with_reducible refine gate_store (p:=90) rfl ?_);refine p1_ H 90 3 1 rfl ?_;clear H F5;intro w5 H;replace H:=H.nz;simp only [List.setIfInBounds_toArray,List.set_cons_zero,List.set_cons_succ] at H))
       go_roundg g1_
       case measure=>omega
       case rel =>
        have H3:=(H.nl_n 5).nz.pre 6
        have hex3:=HEX2.out
        rw [show acSt a x=(acS a x.2) from HV.out] at hex3
        exact ⟨Lj,A ++ [(acS a x.2)],M ++ [row],i+1,.slice AA2 nA2 cA2,.slice AN2 nN2 cN2,by first | rfl | (rw [up1 (by have:=HLB.out;have:=HI2.out;have:=HI.out;omega)]),⟨hex3⟩,⟨⟨by have:=HI.out;omega,HLB.out,by have:=(List.getElem?_eq_some_iff.1 HJ.out.2.2.2.1).1;omega⟩,⟨by rw [List.length_append,HI.out.2.1.1];rfl,by rw [List.length_append,HI.out.2.1.2];rfl⟩,HJ.out.2.2.2.2⟩,H3⟩
  ·have hR:R=some (L,A,M):=by
    have h:=HEX.out
    cases gk with
    | zero=>exact h.symm
    | succ g =>
     rw [expl,dif_neg (show ¬ i<(L,A,M).1.length from hi)] at h
     exact h.symm
   obtain ⟨kf,hkf⟩:=HFI.out (L,A,M) hR
   have hre:res=fitD A M:=by rw [HRES.out,hR]
   have hkf:spec_l5Fits.f kf A M=some (fitD A M):=hkf
   obtain ⟨⟨r1,r2,r3⟩,hrr⟩:∃ r,r=fitD A M:=⟨_,rfl⟩
   rw [← hrr] at hre hkf
   clear hrr
   obtain ⟨AA,cA,rfl,hcA,-⟩:=(H.rd 4).2
   obtain ⟨AN,cN,rfl,hcN,-⟩:=H.rdN 5
   have HKF:=am_ (And.intro hkf (And.intro hcA hcN))
   have F5:=H.f2 3
   have p1:((i:Int)<(L.length:Int))=False:=eq_false (by omega)
   have HRE:=am_ hre
   clear hR hkf hcA hcN hi hre HEX
   go_wp2_with (first
    | ((with_reducible refine gate_dst (N:=93) rfl ?_);refine gL_ (some 93) Try.func64 #[.agg #[.slice AA A.length cA,.slice AN M.length cN]] ?_;refine (spec_l5Fits.calls kf AA cA A AN cN M r1 r2 r3 _ (H.rd_c 4) HKF.out.2.1 (H.rdN_c 5) HKF.out.2.2 HKF.out.1).mono ?_;rintro e_ w4 ⟨v0,v1,rfl,ho0,ho1,hb⟩;replace H:=(H.newD hb ho0 ho1).nz;clear hb ho0 ho1 F5;(obtain ⟨X0,x0,X1,x1,rfl,rfl,-,-⟩:=H.dv 6);refine ⟨_,rfl,?_⟩)
    | ((with_reducible refine gate_dst (N:=10) rfl ?_);refine nw_ H 10 #[.slice none 0 0,.slice none 0 0] 27 rfl ?_;clear H;intro g10 w5 H;replace H:=H.nz;have F9:=H.f2 7)
    | ((with_reducible refine gate_store (p:=10) rfl ?_);refine p2_ H 10 7 rfl ?_;clear H F9;intro w6 H;replace H:=H.nz;have F9:=H.f2 7;have F2:=H.f2 1)
    | ((with_reducible refine gate_store (p:=2) rfl ?_);refine p2_ H 2 1 rfl ?_;clear H F2 F9;intro w7 H;replace H:=H.nz))
   refine bodyPost_ret (results_ct rfl _ _ g2 27 #[.slice X0 r1.length x0,.slice X1 r2.length x1] (0,0) _ rfl (H.blk 1 rfl) hu rfl (by kernel_rfl)) rfl ?_
   rw [HRE.out]
   obtain ⟨f,⟨h0,h1,-⟩,-,-⟩:=H.get 6 rfl
   exact ⟨_,_,rfl,Kd.R_mono h0 (fun _ _=>trivial),Kd.S_mono h1 (fun _ _=>trivial),H.bel⟩
end Go.Proofs.Ytogamkblkoobkaa.Can
end
section
namespace Go.Proofs.Ytogamkblkoobkaa.P
open Go.RowKit Go.Proofs.YtogamkblkoobkaaW.PrintWords Go.Proofs.YtogamkblkoobkaaW.PrintLast Go.Proofs.YtogamkblkoobkaaW.PrintMore
attribute [local go_sem] max2_int min2_int max_two min_two max_three min_three max_four min_four
def spec_StarDfa.f (l0_0:List Bool) (l0_1:List (List Int)):Option (List Bool × List (List Int) × Bool):=if l0_0.length≤1048576∧l0_1.length≤1048576 then some (Wk.stR l0_0 l0_1) else none
theorem spec_StarDfa.calls (A0_0:Option Addr) (c0_0:Nat) (l0_0:List Bool) (A0_1:Option Addr) (c0_1:Nat) (l0_1:List (List Int)) (r1:List Bool) (r2:List (List Int)) (r3:Bool) (w:World) (hr0_0:Kd.C Kd.bool w A0_0 l0_0.length l0_0) (hc0_0:l0_0.length≤c0_0) (hr0_1:Kd.C (Kd.slice 3 (Kd.int .i64)) w A0_1 l0_1.length l0_1) (hc0_1:l0_1.length≤c0_1) (h:spec_StarDfa.f l0_0 l0_1=some (r1,r2,r3)) :
  Calls Try.prog 25 #[.agg #[.slice A0_0 l0_0.length c0_0,.slice A0_1 l0_1.length c0_1]] w fun e w'=>∃ v0_ v1_:Value,e = .returned (.tuple #[.agg #[v0_,v1_],.bool r3])∧Kd.R Kd.bool 4 w' w.heap.size (fun _=>True) v0_ r1∧Kd.S (Kd.slice 3 (Kd.int .i64)) 67 w' w.heap.size (fun _=>True) v1_ r2∧Below w.heap.size w w':=by
 unfold spec_StarDfa.f at h
 split at h
 ·rename_i hp
  have h:=Option.some.inj h
  have e1:(Wk.stR l0_0 l0_1).1=r1:=by rw [h]
  have e2:(Wk.stR l0_0 l0_1).2.1=r2:=by rw [h]
  have e3:(Wk.stR l0_0 l0_1).2.2=r3:=by rw [h]
  rw [← e1,← e2,← e3]
  exact Can.sstCalls A0_0 c0_0 l0_0 A0_1 c0_1 l0_1 w hr0_0 hc0_0 hr0_1 hc0_1 hp.1 hp.2
 ·cases h
end Go.Proofs.Ytogamkblkoobkaa.P
end
section
namespace Go.Proofs.Ytogamkblkoobkaa.P
open Go.RowKit Go.Proofs.YtogamkblkoobkaaW.PrintWords Go.Proofs.YtogamkblkoobkaaW.PrintLast Go.Proofs.YtogamkblkoobkaaW.PrintMore
attribute [local go_sem] max2_int min2_int max_two min_two max_three min_three max_four min_four
def impl_StarDfa.f (l0_0:List Bool) (l0_1:List (List Int)):Option (List Bool × List (List Int) × Bool):=some (Wk.stR l0_0 l0_1)
theorem impl_StarDfa.calls (A0_0:Option Addr) (c0_0:Nat) (l0_0:List Bool) (A0_1:Option Addr) (c0_1:Nat) (l0_1:List (List Int)) (r1:List Bool) (r2:List (List Int)) (r3:Bool) (w:World) (hr0_0:Kd.C Kd.bool w A0_0 l0_0.length l0_0) (hc0_0:l0_0.length≤c0_0) (hr0_1:Kd.C (Kd.slice 3 (Kd.int .i64)) w A0_1 l0_1.length l0_1) (hc0_1:l0_1.length≤c0_1) (h:impl_StarDfa.f l0_0 l0_1=some (r1,r2,r3)) :
  Calls Try.prog 26 #[.agg #[.slice A0_0 l0_0.length c0_0,.slice A0_1 l0_1.length c0_1]] w fun e w'=>∃ v0_ v1_:Value,e = .returned (.tuple #[.agg #[v0_,v1_],.bool r3])∧Kd.R Kd.bool 4 w' w.heap.size (fun _=>True) v0_ r1∧Kd.S (Kd.slice 3 (Kd.int .i64)) 67 w' w.heap.size (fun _=>True) v1_ r2∧Below w.heap.size w w':=by
 have h:=Option.some.inj h
 have e1:(Wk.stR l0_0 l0_1).1=r1:=by rw [h]
 have e2:(Wk.stR l0_0 l0_1).2.1=r2:=by rw [h]
 have e3:(Wk.stR l0_0 l0_1).2.2=r3:=by rw [h]
 rw [← e1,← e2,← e3]
 exact Wk.stCalls A0_0 c0_0 l0_0 A0_1 c0_1 l0_1 w hr0_0 hc0_0 hr0_1 hc0_1
end Go.Proofs.Ytogamkblkoobkaa.P
end
