/- Texts of the proof of FnDivided, put together. No condition. -/
import Derived.Test.YtogamkblkoobkaaQFnDivided2
import Derived.Shelf.Abstract
import Derived.Lib.Walk
import Derived.Test.YtogamkblkoobkaaQFnDivided5
set_option linter.unusedVariables false
set_option linter.unusedSimpArgs false
section
namespace Go.Proofs.Ytogamkblkoobkaa.Wk
open Go.RowKit Go.Shelf Go.Proofs.Ytogamkblkoobkaa.P Go.Proofs.Ytogamkblkoobkaa.Lg Go.Proofs.Ytogamkblkoobkaa.Pl Go.Proofs.Ytogamkblkoobkaa.Mp Go.Proofs.Ytogamkblkoobkaa.Bf Go.Proofs.Ytogamkblkoobkaa.Mn Go.Proofs.YtogamkblkoobkaaW.PrintWords Go.Proofs.YtogamkblkoobkaaW.PrintLast Go.Proofs.YtogamkblkoobkaaW.PrintMore
def T6m:Bool × List (List Nat × List Nat):=(true,[([],[]),([0],[0]),([],[]),([],[]),([2,3],[2,3]),([4],[4]),([1,5],[1,5]),([6],[6]),([7],[7]),([],[])])
def B6m:List Nat:=[0,1,0,0,12,28,63,127,255,0]
theorem tab6m:rtab .any (opsOf Try.f56 6)=T6m:=by kernel_rfl
theorem bits6m:waitsOk T6m.2 B6m=true:=by kernel_rfl
theorem tab56m:rtab .any (opsOf Try.f56 56)=T6m:=by kernel_rfl
theorem bits56m:waitsOk T6m.2 B6m=true:=bits6m
def T61m:Bool × List (List Nat × List Nat):=(true,[([],[]),([0],[0]),([],[]),([2],[2]),([],[]),([],[]),([4,5],[4,5]),([6],[6]),([3,7],[3,7]),([8],[8]),([9],[9]),([1,10],[1,10]),([0,1,2,3,4,5,6,7,8,9,10,11],[]),([12,11,11,0,1,2,3,4,5,6,7,8,9,10,11],[11,12])])
def B61m:List Nat:=[0,1,0,4,0,0,48,112,252,508,1020,2047,4095,8191]
theorem tab61m:rtab .any (opsOf Try.f56 61)=T61m:=by kernel_rfl
theorem bits61m:waitsOk T61m.2 B61m=true:=by kernel_rfl
theorem cell_kept4 {w w':World} {row:Option Nat} (hg:w.grownBy w' row) {a:Addr} (hlt:a.block<w.heap.size) (hne:some a.block ≠ row) {v:Value} (h:w.cell? a=some v):w'.cell? a=some v:=(World.cell?_of_block (hg.block _ hlt hne)).trans h
theorem gb_refl (w:World) (row:Option Nat):w.grownBy w row:=⟨rfl,rfl,rfl,Nat.le_refl _,fun _ _ _=>rfl⟩
theorem gb_row {a w w':World} {row r2:Option Nat} (h:a.grownBy w row) (k:w.grownBy w' r2) (hr:∀ b,r2=some b→a.heap.size≤b):a.grownBy w' row:=
 ⟨k.os.trans h.os,k.tape.trans h.tape,k.output.trans h.output,Nat.le_trans h.size k.size,fun i hi hne=>(k.block i (Nat.lt_of_lt_of_le hi h.size) (fun he=>by have:=hr i he.symm;omega)).trans (h.block i hi hne)⟩
theorem gb_below {a w w':World} {row:Option Nat} (h:a.grownBy w row) (hb:Below w.heap.size w w'):a.grownBy w' row:=gb_row h (grown_below hb) (fun _ h=>by cases h)
theorem gb_set {a w:World} {b:Nat} (h:a.grownBy w (some b)) (i:Nat) (v:Value):a.grownBy (w.setCell ⟨b,i,none⟩ v) (some b):=
 ⟨h.os,h.tape,h.output,by simpa [World.setCell] using h.size,fun k hk hne=>(Below.heap_setCell w ⟨b,i,none⟩ v k (fun e=>hne (congrArg some e))).trans (h.block k hk hne)⟩
theorem cell_al {w:World} (o:Obj) {a:Addr} {v:Value} (h:w.cell? a=some v):(w.alloc o).cell? a=some v:=(World.cell?_alloc_lt _ _ _ (World.block_lt_of_cell? _ _ h)).trans h
theorem rd_bound {cl:List Int} {M:Int} (hM:0≤M) (h:∀ x ∈ cl,0≤x∧x≤M) (z:Int):0≤rd cl z∧rd cl z≤M:=by
 unfold rd
 rw [List.getD_eq_getElem?_getD]
 cases hz:cl[z.toNat]? with
 | none=>exact ⟨Int.le_refl _,hM⟩
 | some y=>exact h y (List.mem_of_getElem? hz)
theorem wf_of {x:Int} (h:0≤x∧x≤1100000):wfI x:=by simp [wfI,Lit.wf,IntKind.min,IntKind.max,IntKind.signed,IntKind.bits];omega
structure MemA (w w':World) (v5:Value) (gm:Nat) (os:List Int):Prop where
 list:Kd.R (Kd.int .i64) 3 w' w.heap.size (fun _=>True) v5 os
 map:IsM w' gm (idx os) os.length
 bel:Below w.heap.size w w'
theorem MemA.below {w w' w2:World} {v5:Value} {gm:Nat} {os:List Int} (h:MemA w w' v5 gm os) (hb:Below w'.heap.size w' w2):MemA w w2 v5 gm os:=
 ⟨Kd.R_below h.list hb,h.map.below hb,below_then h.bel h.bel.size hb⟩
structure FitO (n:Nat) (os:List Int):Prop where
 nd:os.Nodup
 all:∀ x ∈ os,0≤x∧x<(n:Int)
theorem FitO.le {n:Nat} {os:List Int} (h:FitO n os):os.length≤n:=card_range n os h.nd h.all
theorem FitO.add {n:Nat} {os:List Int} (h:FitO n os) {y:Int} (hy:0≤y∧y<(n:Int)):FitO n (add os y):=
 ⟨nodup_add h.nd y,fun x hx=>by
  rcases mem_add.mp hx with q | q
  ·exact h.all x q
  ·subst q;exact hy⟩
set_option maxHeartbeats 8000000 in
set_option maxRecDepth 100000 in
theorem minCalls (A0:Option Addr) (c0:Nat) (l0:List Bool) (A1:Option Addr) (c1:Nat) (l1:List (List Int)) (st:Int) (w:World) (hr0:Kd.C Kd.bool w A0 l0.length l0) (hr1:Kd.C (Kd.slice 3 (Kd.int .i64)) w A1 l1.length l1)
  (hn:l1.length=l0.length) (hb:l0.length≤1100000) (hrow:∀ r ∈ l1,r.length=3∧∀ q ∈ r,0≤q∧q<(l0.length:Int)) (hs:0≤st∧st<(l0.length:Int)) :
  Calls Try.prog 56 #[.agg #[.slice A0 l0.length c0,.slice A1 l1.length c1],.int .i64 st] w fun e w'=>∃ v0_ v1_:Value,e = .returned (.agg #[v0_,v1_])∧Kd.R Kd.bool 4 w' w.heap.size (fun _=>True) v0_ (minD l0 l1 st).1∧Kd.S (Kd.slice 3 (Kd.int .i64)) 67 w' w.heap.size (fun _=>True) v1_ (minD l0 l1 st).2∧Below w.heap.size w w':=by
 have hu:=Try.underlying27
 generalize hR:minD l0 l1 st=r
 unfold minD at hR
 have HR0:=am_ hr0
 have HR1:=am_ hr1
 have HN:=am_ hn
 have HBD:=am_ hb
 have HST:=am_ hs
 have HX:Aside0 (wfI st):=⟨by simp [wfI,Lit.wf,IntKind.min,IntKind.max,IntKind.signed,IntKind.bits];omega⟩
 have hrow2:∀ x:Int,0≤x∧x<(l0.length:Int)→(rowOf l1 x).length=3∧∀ q ∈ rowOf l1 x,0≤q∧q<(l0.length:Int):=fun x hx=>by
  have hlt:x.toNat<l1.length:=by omega
  unfold rowOf
  rw [List.getD_eq_getElem?_getD,List.getElem?_eq_getElem hlt]
  exact hrow _ (List.getElem_mem hlt)
 have HROW:=am_ hrow2
 clear hr0 hr1 hn hb hrow hs hrow2
 have HW0:Aside0 (Below w.heap.size w ((w.alloc (Obj.cells #[.slice A0 l0.length c0,.slice A1 l1.length c1] 27)).alloc (Obj.cells #[.slice none 0 0,.slice none 0 0] 27))):=⟨below_alloc (below_alloc (Below.refl _ _) _) _⟩
 have HBX0:Aside0 (World.cell? ((w.alloc (Obj.cells #[.slice A0 l0.length c0,.slice A1 l1.length c1] 27)).alloc (Obj.cells #[.slice none 0 0,.slice none 0 0] 27)) ⟨w.heap.size,0,none⟩=some (.slice A0 l0.length c0)):=⟨pw_cell_below (below_alloc (Below.refl _ _) _) (by simp)⟩
 have HBX1:Aside0 (World.cell? ((w.alloc (Obj.cells #[.slice A0 l0.length c0,.slice A1 l1.length c1] 27)).alloc (Obj.cells #[.slice none 0 0,.slice none 0 0] 27)) ⟨w.heap.size,1,none⟩=some (.slice A1 l1.length c1)):=⟨pw_cell_below (below_alloc (Below.refl _ _) _) (by simp)⟩
 have HG4:Aside0 ((((w.alloc (Obj.cells #[.slice A0 l0.length c0,.slice A1 l1.length c1] 27)).alloc (Obj.cells #[.slice none 0 0,.slice none 0 0] 27)).heap)[w.heap.size+1]? = some (.cells #[.slice none 0 0,.slice none 0 0] 27 (0,0))):=⟨by
  have h_:=blk_new (w.alloc (Obj.cells #[.slice A0 l0.length c0,.slice A1 l1.length c1] 27)) (.cells #[.slice none 0 0,.slice none 0 0] 27)
  simpa using h_⟩
 have HSZ0:Aside0 (((w.alloc (Obj.cells #[.slice A0 l0.length c0,.slice A1 l1.length c1] 27)).alloc (Obj.cells #[.slice none 0 0,.slice none 0 0] 27)).heap.size=w.heap.size+2):=⟨by simp⟩
 have HR0:=am_ (Kd.C_below HR0.out HW0.out)
 have HR1:=am_ (Kd.C_below HR1.out HW0.out)
 go_enter Try.func56,Try.ntmps56
 go_wp2_with (first
  | ((with_reducible refine gate_dst (N:=37) rfl ?_);refine Kd.R_lit (Kd.int .i64) _ 3 ?hg (N:=37) ?hd (xs:=[st]) (inner:=[.int .i64 st]) (ok:=fun _=>True) (okp:=fun _=>True) ?hr ?hp (fun _ hk=>hk) trivial (Below.refl _ _) (Nat.le_refl _) (by simp) ?_;(case hd=>rfl);(case hg=>rfl);(case hr=>first | (go_simp;done) | (go_simp;rfl));(case hp=>exact (Reps.one (show Kd.M (Kd.int .i64) _ _ _ st [.int .i64 st] from rfl) (Reps.none _ _)));intro v5 w1 ho hb hg_ hnew_;clear hg_ hnew_;have HL:=am_ ho;have HB1:=am_ hb;clear ho hb)
  | ((with_reducible refine gate_dst (N:=38) rfl ?_);refine wp_make (t:=118) (k:=3) (e:=3) (q:=.i64) (enc:=Value.int .i64) (ok:=wfI) rfl rfl ?_;intro w3 hm hb;have HM:=am_ hm;have HB3:=am_ hb;clear hm hb)
  | (refine wp_insert mapInt rfl _ _ _ rfl _ _ _ HM.out (by unfold maxLen;omega) rfl st rfl HX.out 0 rfl (by decide) ?_;intro w4 hm hgr;have HM2:=am_ hm;have HG4':=am_ hgr;clear hm hgr))
 generalize ((w.alloc (Obj.cells #[.slice A0 l0.length c0,.slice A1 l1.length c1] 27)).alloc (Obj.cells #[.slice none 0 0,.slice none 0 0] 27))=W0 at HW0 HBX0 HBX1 HG4 HSZ0 HR0 HR1 HL HB1
 have HMEM:Aside0 (MemA W0 w4 v5 w1.heap.size [st]):=⟨by
  have b3:=below_then HB1.out HB1.out.size HB3.out
  exact ⟨R_over_map (Kd.R_below HL.out HB3.out) HM.out HG4'.out,by have:=HM2.out;rw [idx_one] at this;exact this,below_map b3 HG4'.out HB1.out.size⟩⟩
 have HGM:Aside0 (W0.heap.size≤w1.heap.size):=⟨HB1.out.size⟩
 clear HL HB1 HM HB3 HM2 HG4' HX
 generalize w1.heap.size=gm at HMEM HGM ⊢
 have HFO:Aside0 (FitO l0.length [st]):=⟨⟨by simp,fun x hx=>by rw [List.mem_singleton] at hx;subst hx;exact HST.out⟩⟩
 generalize hos:ordF l1 (l0.length+2) [st] 0=os at hR
 have HR:=am_ hR
 have HOS:=am_ hos
 clear hos hR
 go_loopg [5,7] (l0.length+2) (fun gg v5 v7 wr=>∃ (o:List Int) (i:Nat),v7 = .int .i64 (i:Int)∧Aside0 (i≤o.length)∧Aside0 (1≤o.length)∧Aside0 (l0.length+2≤gg+i)∧Aside0 (ordF l1 gg o i=os)∧Aside0 (FitO l0.length o)∧Aside0 (MemA W0 wr v5 gm o))
 case atStart=>exact ⟨[st],0,rfl,⟨by simp⟩,⟨by simp⟩,⟨by omega⟩,HOS,HFO,HMEM⟩
 case round =>
  clear HMEM HOS HFO
  obtain ⟨o,i,rfl,HI,HI1,HG,HOS,HFO,HMEM⟩:=hrel
  cases gk with
  | zero=>exact absurd HFO.out.le (by have:=HI.out;have:=HG.out;omega)
  | succ g =>
   obtain ⟨A5,c5,e5⟩:=Kd.R_slice HMEM.out.list
   subst e5
   by_cases hi:i<o.length
   ·
     obtain ⟨ad5,ea5,hx5⟩:=Kd.at_int (Kd.R_reads' HMEM.out.list).2.2 (i:Int) (by omega) (by omega)
     subst ea5
     rw [rd_get o i hi,Int.toNat_natCast] at hx5
     have hos:=HOS.out
     rw [ordF,dif_pos hi] at hos
     have hdx:=HFO.out.all _ (List.getElem_mem hi)
     generalize hq:o[i]=q at hx5 hos hdx
     obtain ⟨hr3,hrq⟩:=HROW.out q hdx
     have hlen:=HN.out
     obtain ⟨ad1,ea1,hcell⟩:=cellsRows HR1.out (by omega)
     subst ea1
     obtain ⟨Ar,cr,hxr,hCr⟩:=hcell q.toNat (by omega)
     have erow:l1.getD q.toNat []=rowOf l1 q:=rfl
     rw [erow] at hxr hCr
     generalize rowOf l1 q=row at hxr hCr hos hr3 hrq
     rw [hr3] at hxr hCr
     have HCR:=am_ hCr
     have HRQ:=am_ hrq
     have HR3:=am_ hr3
     have hxb:=pw_cell_below HMEM.out.bel HBX1.out
     have hxr:=pw_cell_below HMEM.out.bel hxr
     have p1:((0:Int)≤(i:Int))=True:=eq_true (by omega)
     have q1:((i:Int)<(o.length:Int))=True:=eq_true (by omega)
     have d1:decide ((i:Int)<(o.length:Int))=true:=decide_eq_true (by omega)
     have p2:((0:Int)≤q)=True:=eq_true hdx.1
     have q2:(q<(l1.length:Int))=True:=eq_true (by omega)
     have HOS2:=am_ hos
     have HI2:=am_ hi
     have HIM:Aside0 (i<1100000):=⟨by have:=HFO.out.le;have:=HBD.out;omega⟩
     clear hi hos hdx hrq hr3 hlen hcell hCr HOS hq
     go_wp2
     refine start_ (n:=10) (S:=(fun w'=>w'.cell? ⟨w.heap.size,1,none⟩=some (.slice (some ad1) l1.length c1)∧w'.cell? (ad5.add i)=some (.int .i64 q)∧w'.cell? (ad1.add q.toNat)=some (.slice Ar 3 cr))) (ds:=[]) (bl 10 0) (by kernel_rfl) rfl rfl (⟨hxb,hx5,hxr⟩) (fun hHeld=>?_);refine with_tabW tab6m bits6m (fun HT_ HW_=>?_)
     refine ph_ 0 47 (bl 10 1) HT_ ?_
     refine ph_ 2 49 (bl 10 5) HT_ ?_
     refine ph_ 3 50 (bl 10 13) HT_ ?_
     refine ph_ 4 51 (bl 10 29) HT_ ?_
     refine ph_ 9 56 (bl 10 541) HT_ ?_
     refine th_ 1 48 (bl 10 543) HT_ HW_ hHeld ?_
     refine th_ 5 52 (bl 10 575) HT_ HW_ hHeld ?_
     refine ph_ 6 53 (bl 10 639) HT_ ?_
     refine th_ 7 54 (bl 10 767) HT_ HW_ hHeld ?_
     refine ph_ 8 55 (bl 10 1023) HT_ ?_
     refine done_ (done_of HT_.out (by kernel_rfl)) ?_
     clear HT_ HW_ hHeld hxb hx5 hxr p2 q2
     go_wp2
     have HMEM:=am_ (HMEM.out.below (below_drew1 (Below.refl _ _)))
     generalize World.drew wr=wr2 at HMEM
     obtain ⟨wr,rfl⟩:∃ wo:World,wo=wr2:=⟨_,rfl⟩
     generalize hfin:adds o row=fin at HOS2
     have HFIN:=am_ hfin
     have HOI:=am_ (adds_pre row o)
     rw [hfin] at HOI
     clear hfin
     go_loopg [5,56] 3 (fun gg v5 v56 w2=>∃ (o2:List Int) (j:Nat),v56 = .int .i64 (j:Int)∧Aside0 (j≤3)∧Aside0 (3≤gg+j)∧Aside0 (adds o2 (row.drop j)=fin)∧Aside0 (o.length≤o2.length)∧Aside0 (FitO l0.length o2)∧Aside0 (MemA W0 w2 v5 gm o2))
     case atStart=>exact ⟨o,0,rfl,⟨by omega⟩,⟨by omega⟩,HFIN,⟨Nat.le_refl _⟩,HFO,HMEM⟩
     case round =>
      clear HMEM HFO HFIN
      obtain ⟨o2,j,rfl,HJ,HGJ,HFIN,HOL,HFO,HMEM⟩:=hrel
      obtain ⟨A5,c5,e5⟩:=Kd.R_slice HMEM.out.list
      subst e5
      by_cases hj:j<3
      · cases gk with
        | zero=>exact absurd HGJ.out (by omega)
        | succ g3 =>
        obtain ⟨adr,ear,hxj⟩:=Kd.at_int (Kd.C_below HCR.out HMEM.out.bel) (j:Int) (by omega) (by have:=HR3.out;omega)
        subst ear
        have hjr:j<row.length:=by have:=HR3.out;omega
        rw [rd_get row j hjr,Int.toNat_natCast] at hxj
        have hfin:=HFIN.out
        rw [List.drop_eq_getElem_cons hjr,adds_cons] at hfin
        have hy:=HRQ.out _ (List.getElem_mem hjr)
        generalize row[j]=y at hxj hfin hy
        have HFIN2:=am_ hfin
        have HFO2:=am_ (HFO.out.add hy)
        have HWY:Aside0 (wfI y):=⟨by have:=HBD.out;simp [wfI,Lit.wf,IntKind.min,IntKind.max,IntKind.signed,IntKind.bits];omega⟩
        have p1:((0:Int)≤(j:Int))=True:=eq_true (by omega)
        have q1:((j:Int)<(3:Int))=True:=eq_true (by omega)
        have q3:((j:Int)<((3:Nat):Int))=True:=eq_true (by omega)
        have d1:decide ((j:Int)<3)=true:=decide_eq_true (by omega)
        have d2:decide ((j:Int)<((3:Nat):Int))=true:=decide_eq_true (by omega)
        have HJ3:=am_ hj
        clear hj hjr hfin hy HFIN
        by_cases hm:y ∈ o2
        ·have hsome:=idx_in hm
         have HFIN3:Aside0 (adds o2 (row.drop (j+1))=fin):=⟨by have:=HFIN2.out;rw [add_in hm] at this;exact this⟩
         clear HFIN2 HFO2 hm
         go_wp2_with ((with_reducible refine gate_dst (N:=63) rfl ?_);refine wp_look_ok mapInt rfl _ _ rfl _ _ _ HMEM.out.map rfl y rfl HWY.out ?_;rw [hsome])
         go_roundg g3
         case measure=>omega
         case rel=>exact ⟨o2,j+1,by rw [up1 (by have:=HJ3.out;omega)],⟨HJ3.out⟩,⟨by have:=HGJ.out;omega⟩,HFIN3,HOL,HFO,HMEM⟩
        ·have hsome:=idx_out hm
         have HFIN3:Aside0 (adds (o2 ++ [y]) (row.drop (j+1))=fin):=⟨by have:=HFIN2.out;rw [add_out hm] at this;exact this⟩
         have HFO3:Aside0 (FitO l0.length (o2 ++ [y])):=⟨by have:=HFO2.out;rw [add_out hm] at this;exact this⟩
         have HU:=am_ (idx_upd hm)
         have HLEN:Aside0 ((o2.length:Int)≤1100000):=⟨by have:=HFO.out.le;have:=HBD.out;omega⟩
         clear HFIN2 HFO2 hm
         go_wp2_with (first
          | ((with_reducible refine gate_dst (N:=63) rfl ?_);refine wp_look_ok mapInt rfl _ _ rfl _ _ _ HMEM.out.map rfl y rfl HWY.out ?_;rw [hsome])
          | (refine wp_update mapInt rfl _ _ _ rfl _ _ _ HMEM.out.map (by have:=HLEN.out;unfold maxLen;omega) rfl y rfl HWY.out (o2.length:Int) rfl (by have:=HLEN.out;simp [Lit.wf,IntKind.min,IntKind.max,IntKind.signed,IntKind.bits];omega) ?_;intro w3 hm hgr;rw [HU.out,if_neg (by rw [hsome];decide)] at hm;have HL3:=am_ (R_over_map HMEM.out.list HMEM.out.map hgr);have HB3:=am_ (below_map HMEM.out.bel hgr HGM.out);have HM3:=am_ hm;clear hm hgr)
          | (at_builtin;refine Kd.R_append (Kd.int .i64) (w0:=W0) W0.heap.size rfl (.tmp 72) (.tmp 74) 67 3 (.int .i64 0) 8 rfl Try.underlying67 info3 rfl (by decide) (by omega) (.slice A5 o2.length c5) o2 y [.int .i64 y] (fun _=>True) (fun _=>False) rfl rfl ?aP (fun _ hk=>hk.elim) ?aF ?aO ?aB ?aS ?aL ?_;(case aP=>exact rfl);(case aF=>exact (fun _ _=>trivial));(case aO=>exact HL3.out);(case aB=>exact HB3.out);(case aS=>exact HB3.out.size);(case aL=>have:=HLEN.out;omega);intro v5n w4 ho hb hg hat;have HMN:Aside0 (MemA W0 w4 v5n gm (o2 ++ [y])):=⟨⟨ho,by have h0:=HM3.out.kept hg (HM3.out.not_row (Kd.R_typed HL3.out));rw [List.length_append];exact h0,hb⟩⟩;clear ho hb hg hat))
         go_roundg g3
         case measure=>omega
         case rel=>exact ⟨o2 ++ [y],j+1,by rw [up1 (by have:=HJ3.out;omega)],⟨HJ3.out⟩,⟨by have:=HGJ.out;omega⟩,HFIN3,⟨by have:=HOL.out;rw [List.length_append];omega⟩,HFO3,HMN⟩
      · have ej:j=3:=by have:=HJ.out;omega
        subst ej
        have d3:decide (((3:Nat):Int)<3)=false:=by decide
        have efin:o2=fin:=by have:=HFIN.out;rw [List.drop_eq_nil_of_le (by have:=HR3.out;omega)] at this;exact this
        have HE:=am_ efin
        clear efin
        go_wp2
        go_roundg g
        case measure=>omega
        case rel=>exact ⟨o2,i+1,by rw [up1 (by have:=HIM.out;omega)],⟨by have:=HI2.out;have:=HOL.out;omega⟩,⟨by have:=HI1.out;have:=HOL.out;omega⟩,⟨by have:=HG.out;omega⟩,⟨by rw [HE.out];exact HOS2.out⟩,HFO,HMEM⟩
   · have eo:o=os:=by have:=HOS.out;rw [ordF,dif_neg hi] at this;exact this
     subst eo
     have d1:decide ((i:Int)<(o.length:Int))=false:=decide_eq_false (by omega)
     have q1:((i:Int)<(o.length:Int))=False:=eq_false (by omega)
     have hon:1≤o.length:=HI1.out
     have hom:o.length≤1100000:=Nat.le_trans HFO.out.le HBD.out
     obtain ⟨ad5,ea5,_⟩:=Kd.at_int (Kd.R_reads' HMEM.out.list).2.2 (0:Int) (by omega) (by omega)
     subst ea5
     have hacc:=HFO.out.all
     have HPOS:Aside0 (0<l0.length):=⟨by have:=HFO.out.le;omega⟩
     obtain ⟨ad0,ea0,_⟩:=Kd.at_bool HR0.out (0:Int) (by omega) (by have:=HPOS.out;omega)
     subst ea0
     obtain ⟨ad1,ea1,_⟩:=cellsRows HR1.out (by have:=HPOS.out;have:=HN.out;omega)
     subst ea1
     have HON:=am_ hon
     have HOM:=am_ hom
     have HALL:=am_ hacc
     have HLA:=am_ HMEM.out.list
     have HMA:=am_ HMEM.out.map
     have HBA:=am_ HMEM.out.bel
     have HGMA:=am_ HMEM.out.map.lt
     obtain ⟨WA,rfl⟩:∃ wo:World,wo=wr:=⟨_,rfl⟩
     clear hon hom hacc hi HOS HI HI1 HG HMEM HST HGM
     go_wp2_with ((with_reducible refine gate_dst (N:=79) rfl ?_);refine Kd.R_make (Kd.int .i64) _ 3 rfl (N:=79) rfl 67 _ _ rfl (o.length:Int) rfl rfl Try.underlying67 (.int .i64 0) 8 info3 rfl (by decide) (by omega) 0 (ok:=fun _=>True) (okp:=fun _=>True) rfl (fun _ hk=>hk) trivial (by omega) (by have:=HOM.out;omega) (Below.refl _ _) (Nat.le_refl _) ?_;intro v12 w6 ho hb hg_ hnew_;clear hg_ hnew_;have HC12:=am_ ho;have HB12:=am_ hb;clear ho hb)
     rw [Int.toNat_natCast] at HC12
     obtain ⟨g12,c12,e12,aa,gl12,_⟩:=Kd.R_form HC12.out (by rw [List.length_replicate];exact HON.out)
     rw [List.length_replicate] at e12
     subst e12
     have HG12:=am_ aa
     clear aa gl12
     go_loopg [82] o.length (fun gg v82 w'=>∃ (cl:List Int) (i:Nat),v82 = .int .i64 (i:Int)∧Aside0 (i≤o.length)∧Aside0 (o.length≤gg+i)∧Aside0 (cl=(o.take i).map (cls0 l0) ++ List.replicate (o.length - i) 0)∧Aside0 (Kd.R (Kd.int .i64) 3 w' WA.heap.size (fun _=>True) (.slice (some ⟨g12,0,none⟩) o.length c12) cl)∧Aside0 (Below WA.heap.size WA w'))
     case atStart=>exact ⟨List.replicate o.length 0,0,rfl,⟨Nat.zero_le _⟩,⟨by omega⟩,⟨by simp⟩,HC12,HB12⟩
     case round =>
      clear HC12 HB12
      obtain ⟨cl,i,rfl,HI,HG,HCL,HC12,HB12⟩:=hrel
      by_cases hi:i<o.length
      ·
        cases gk with
        | zero=>exact absurd HG.out (by omega)
        | succ g2 =>
        have hcl:cl.length=o.length:=by rw [HCL.out];simp;omega
        obtain ⟨a5',ea5,hx5⟩:=Kd.at_int (Kd.R_reads' (Kd.R_below HLA.out HB12.out)).2.2 (i:Int) (by omega) (by omega)
        cases ea5
        rw [rd_get o i hi,Int.toNat_natCast] at hx5
        have hq:=HALL.out _ (List.getElem_mem hi)
        have hnext:(o.take (i+1)).map (cls0 l0) ++ List.replicate (o.length - (i+1)) 0=cl.set i (cls0 l0 o[i]):=by
         rw [HCL.out,show o.length - i=(o.length - (i+1))+1 by omega,List.replicate_succ,List.take_succ_eq_append_getElem hi,List.map_append,List.map_singleton]
         have:=set_mid ((o.take i).map (cls0 l0)) (0:Int) (cls0 l0 o[i]) (List.replicate (o.length - (i+1)) 0)
         rw [show ((o.take i).map (cls0 l0)).length=i by simp;omega] at this
         exact this.symm
        have hsame:cls0 l0 o[i]=0→cl.set i (cls0 l0 o[i])=cl:=fun h0=>by
         rw [h0,HCL.out,show o.length - i=(o.length - (i+1))+1 by omega,List.replicate_succ]
         have:=set_mid ((o.take i).map (cls0 l0)) (0:Int) 0 (List.replicate (o.length - (i+1)) 0)
         rw [show ((o.take i).map (cls0 l0)).length=i by simp;omega] at this
         rw [this]
         simp
        generalize o[i]=q at hx5 hq hnext hsame
        obtain ⟨a0',ea0,hxa⟩:=Kd.at_bool (Kd.C_below HR0.out (below_then HBA.out HBA.out.size HB12.out)) q hq.1 hq.2
        cases ea0
        have hxb:=pw_cell_below (below_then HBA.out HBA.out.size HB12.out) HBX0.out
        obtain ⟨hc12,hf12⟩:=Kd.R_celln 0 HC12.out (i:Int) (by omega) (by omega)
        rw [Int.toNat_natCast] at hc12 hf12
        have p1:((0:Int)≤(i:Int))=True:=eq_true (by omega)
        have q1:((i:Int)<(o.length:Int))=True:=eq_true (by omega)
        have d1:decide ((i:Int)<(o.length:Int))=true:=decide_eq_true (by omega)
        have p2:((0:Int)≤q)=True:=eq_true hq.1
        have q2:(q<(l0.length:Int))=True:=eq_true hq.2
        have HNX:=am_ hnext
        have HSM:=am_ hsame
        have HI2:=am_ hi
        have HP16:=Kd.R_putg HC12.out (i:Int) 1
        rw [Int.toNat_natCast] at HP16
        have HPP:=am_ HP16
        have hcl0:cls0 l0 q=if rdOf false l0 q=true then 1 else 0:=rfl
        have HCL0:=am_ hcl0
        generalize rdOf false l0 q=bq at hxa HCL0
        clear hi hq hnext hsame HP16 hcl0 HCL hcl
        cases bq with
        | true =>
         go_wp2_with ((with_reducible refine gate_store (t:=3) (p:=94) rfl ?_);refine store_event (t:=3) (p:=94) (v:=?vo_m1) (w1:=(wr.setCell ⟨g12,i,none⟩ (.int .i64 1))) ?hg ?ho ?hn ?hr ?_;(case ho=>rfl);(case hg=>rfl);(case hn=>rfl);(case hr=>first | (go_simp;done) | (go_simp;rfl));intro w17 hw;have HC13:Aside0 (Kd.R (Kd.int .i64) 3 w17 WA.heap.size (fun _=>True) (.slice (some ⟨g12,0,none⟩) o.length c12) (cl.set i 1)):=⟨by rw [hw];exact HPP.out.1⟩;have HB13:Aside0 (Below WA.heap.size WA w17):=⟨by rw [hw];exact below_set HB12.out HG12.out⟩;clear hw)
         go_roundg g2
         case measure=>omega
         case rel=>exact ⟨cl.set i 1,i+1,by rw [up1 (by have:=HI2.out;have:=HOM.out;omega)],⟨HI2.out⟩,⟨by have:=HG.out;omega⟩,⟨by rw [HNX.out,HCL0.out];rfl⟩,HC13,HB13⟩
        | false =>
         go_wp2
         go_roundg g2
         case measure=>omega
         case rel=>exact ⟨cl,i+1,by rw [up1 (by have:=HI2.out;have:=HOM.out;omega)],⟨HI2.out⟩,⟨by have:=HG.out;omega⟩,⟨by rw [HNX.out];exact (HSM.out (by rw [HCL0.out];rfl)).symm⟩,HC12,HB12⟩
      · have hcl:cl=o.map (cls0 l0):=by have:=HCL.out;rw [show i=o.length by have:=HI.out;omega] at this;simpa using this
        have q1:((i:Int)<(o.length:Int))=False:=eq_false (by omega)
        have HCL2:=am_ hcl
        clear hi hcl HCL HI HG
        have HR:=HR.out
        unfold minT at HR
        generalize hcf:refF l1 o (o.length+2) (o.map (cls0 l0)) 0=cf at HR
        rw [← HCL2.out] at hcf
        have HR:=am_ HR
        have HCF:=am_ hcf
        have HCN:Aside0 (cl.length=o.length):=⟨by rw [HCL2.out];simp⟩
        have HCB:Aside0 (∀ x ∈ cl,0≤x∧x≤1100000):=⟨by
         rw [HCL2.out]
         intro x hx
         obtain ⟨y,_,rfl⟩:=List.mem_map.mp hx
         unfold cls0
         split <;> omega⟩
        clear hcf HCL2
        go_wp2
        go_loopg [12,15] (o.length+2) (fun gg v12 v15 w'=>∃ (cl:List Int) (c:Nat),v15 = .int .i64 (c:Int)∧Aside0 (cl.length=o.length)∧Aside0 (∀ x ∈ cl,0≤x∧x≤1100000)∧Aside0 (c≤(dd cl).length)∧Aside0 (o.length+2≤gg+c)∧Aside0 (refF l1 o gg cl c=cf)∧Aside0 (Kd.R (Kd.int .i64) 3 w' WA.heap.size (fun _=>True) v12 cl)∧Aside0 (Below WA.heap.size WA w'))
        case atStart=>exact ⟨cl,0,rfl,HCN,HCB,⟨Nat.zero_le _⟩,⟨by omega⟩,HCF,HC12,HB12⟩
        case round =>
         clear HCN HCB HCF HC12 HB12 q1 HG12
         try clear cl
         obtain ⟨cl,c,rfl,HCN,HCB,HCC,HG,HCF,HC12,HB12⟩:=hrel
         have hcl1:c≤o.length:=by have:=HCC.out;have:=dd_len_le cl;have:=HCN.out;omega
         cases gk with
         | zero=>exact absurd HG.out (by omega)
         | succ g =>
         obtain ⟨g12,c12,e12,aa,gl12,_⟩:=Kd.R_form HC12.out (by have:=HCN.out;have:=HON.out;omega)
         rw [HCN.out] at e12
         subst e12
         have hcf:=HCF.out
         rw [refF] at hcf
         generalize hK:keys l1 o cl=K at hcf
         have hKl:K.length=o.length:=by rw [← hK,keys_len]
         have hmore:=keys_more (l1:=l1) HCN.out
         rw [hK] at hmore
         have hcls:=nm_classes K
         have hnml:(nmF K [] []).1.length=(dd K).length:=by rw [nm_eq]
         have hdk:=dd_len_le K
         have hnl2:(nmF K [] []).2.length=o.length:=by rw [nm_eq];simp [hKl]
         have hnb:∀ x ∈ (nmF K [] []).2,0≤x∧x≤1100000:=by
          intro x hx
          have:=nm_bound K x hx
          have:=HOM.out
          omega
         generalize hfin:nmF K [] []=fin at hcf hcls hnml hnl2 hnb
         obtain ⟨kf,nf⟩:=fin
         dsimp only at hcf hcls hnml hnl2 hnb
         have HCFF:=am_ hcf
         have HFIN:=am_ hfin
         have HKL:=am_ hKl
         have HK:=am_ hK
         have HNF:=am_ hnl2
         have HNB:=am_ hnb
         have HKF:Aside0 (kf.length≤o.length∧c≤kf.length∧kf.length=(dd nf).length):=⟨by have:=HCC.out;omega⟩
         have HC1:=am_ hcl1
         clear hcf hfin hKl hK hnl2 hnb hmore hcls hnml hdk hcl1 HCF HCC aa gl12
         obtain ⟨WC,rfl⟩:∃ wo:World,wo=wr:=⟨_,rfl⟩
         go_wp2_with (first
          | ((with_reducible refine gate_dst (N:=96) rfl ?_);refine wp_make (t:=119) (k:=120) (e:=3) (q:=.i64) (enc:=enc4) (ok:=wf4) rfl rfl ?_;intro w3 hm hb;rw [idx_nil] at hm;have HM4:=am_ hm;have HB3:=am_ hb;clear hm hb)
          | ((with_reducible refine gate_dst (N:=99) rfl ?_);refine Kd.R_make (Kd.int .i64) _ 3 rfl (N:=99) rfl 67 _ _ rfl (o.length:Int) rfl rfl Try.underlying67 (.int .i64 0) 8 info3 rfl (by decide) (by omega) 0 (ok:=fun _=>True) (okp:=fun _=>True) rfl (fun _ hk=>hk) trivial (by omega) (by have:=HOM.out;omega) (Below.refl _ _) (Nat.le_refl _) ?_;intro v17 w6 ho hb hg_ hnew_;clear hg_ hnew_;have HC17:=am_ ho;have HB17:=am_ hb;clear ho hb))
         rw [Int.toNat_natCast] at HC17
         obtain ⟨g17,c17,e17,ab,gl17,_⟩:=Kd.R_form HC17.out (by rw [List.length_replicate];exact HON.out)
         rw [List.length_replicate] at e17
         subst e17
         have HG17:Aside0 (WC.heap.size≤g17):=⟨Nat.le_trans HB3.out.size ab⟩
         have HC17:=am_ (Kd.R_lower HC17.out HB3.out.size)
         have HM4:=am_ (HM4.out.below HB17.out)
         have HB17:=am_ (below_then HB3.out HB3.out.size HB17.out)
         have HGM4:Aside0 (WC.heap.size≤WC.heap.size):=⟨Nat.le_refl _⟩
         generalize hgm4:WC.heap.size=gm4 at HM4 ⊢
         have HGM4:Aside0 (WC.heap.size≤gm4):=⟨by rw [hgm4];exact Nat.le_refl _⟩
         clear hgm4 ab gl17 HB3
         go_loopg [102] o.length (fun gg ad w'=>∃ (ks:List Q4) (nl:List Int) (i:Nat),ad = .int .i64 (i:Int)∧Aside0 (i≤o.length)∧Aside0 (o.length≤gg+i)∧Aside0 (nmF (K.drop i) ks nl=(kf,nf))∧Aside0 (nl.length=i)∧Aside0 (ks.length≤i)∧Aside0 (IsM4 w' gm4 (idx ks) ks.length)∧Aside0 (Kd.R (Kd.int .i64) 3 w' WC.heap.size (fun _=>True) (.slice (some ⟨g17,0,none⟩) o.length c17) (nl ++ List.replicate (o.length - i) 0))∧Aside0 (Below WC.heap.size WC w'))
         case atStart=>exact ⟨[],[],0,rfl,⟨Nat.zero_le _⟩,⟨by omega⟩,⟨by rw [List.drop_zero];exact HFIN.out⟩,⟨rfl⟩,⟨Nat.le_refl _⟩,HM4,⟨by simpa using HC17.out⟩,HB17⟩
         case round =>
          clear HM4 HC17 HB17
          obtain ⟨ks,nl,i,rfl,HI,HG5,HNM,HNL,HKS,HM4,HC17,HB17⟩:=hrel
          by_cases hi:i<o.length
          ·
            cases gk with
            | zero=>exact absurd HG5.out (by omega)
            | succ g5 =>
            have hkl:=HKL.out
            have hcn:=HCN.out
            have HBW:=am_ (below_then HB12.out HB12.out.size HB17.out)
            have HBW0:=am_ (below_then HBA.out HBA.out.size HBW.out)
            obtain ⟨a5',ea5,hx5⟩:=Kd.at_int (Kd.R_reads' (Kd.R_below HLA.out HBW.out)).2.2 (i:Int) (by omega) (by omega)
            cases ea5
            rw [rd_get o i hi,Int.toNat_natCast] at hx5
            have hq:=HALL.out _ (List.getElem_mem hi)
            obtain ⟨hc12,_⟩:=Kd.R_celln 0 (Kd.R_below HC12.out HB17.out) (i:Int) (by omega) (by omega)
            have hic:i<cl.length:=by omega
            rw [show rdOf (0:Int) cl (i:Int)=rd cl (i:Int) from rfl,rd_get cl i hic,Int.toNat_natCast] at hc12
            have hcb:=HCB.out _ (List.getElem_mem hic)
            have hkey:K[i]'(by omega)=(cl[i],rd cl (pl o (rd (rowOf l1 o[i]) 0)),rd cl (pl o (rd (rowOf l1 o[i]) 1)),rd cl (pl o (rd (rowOf l1 o[i]) 2))):=by
             have hK:=HK.out
             subst hK
             simp [keys,keyAt,List.getD_eq_getElem?_getD,List.getElem?_eq_getElem hi,List.getElem?_eq_getElem hic]
            have hnm:=HNM.out
            rw [List.drop_eq_getElem_cons (show i<K.length by omega),hkey,nmF] at hnm
            generalize o[i]=q at hx5 hq hkey hnm
            generalize cl[i]=ci at hc12 hcb hkey hnm
            obtain ⟨hr3,hrq⟩:=HROW.out q hq
            obtain ⟨a1',ea1,hcell⟩:=cellsRows HR1.out (by have:=HPOS.out;have:=HN.out;omega)
            cases ea1
            obtain ⟨Ar,cr,hxr,hCr⟩:=hcell q.toNat (by have:=HN.out;omega)
            have erow:l1.getD q.toNat []=rowOf l1 q:=rfl
            rw [erow] at hxr hCr
            generalize rowOf l1 q=row at hxr hCr hr3 hrq hnm
            rw [hr3] at hxr hCr
            have HCR:=am_ hCr
            have HRQ:=am_ hrq
            have HR3:=am_ hr3
            have HBK:=am_ (below_then HBW0.out HBW0.out.size (below_alloc (Below.refl wr.heap.size wr) (Obj.cells #[Value.int IntKind.i64 ci,Value.int IntKind.i64 0,Value.int IntKind.i64 0,Value.int IntKind.i64 0] 120)))
            have hxb:=pw_cell_below HBK.out HBX1.out
            have hxr2:=pw_cell_below HBK.out hxr
            have p1:((0:Int)≤(i:Int))=True:=eq_true (by omega)
            have q1:((i:Int)<(o.length:Int))=True:=eq_true (by omega)
            have p2:((0:Int)≤q)=True:=eq_true hq.1
            have q2:(q<(l1.length:Int))=True:=eq_true (by have:=HN.out;omega)
            have HNM2:=am_ hnm
            have HCBI:=am_ hcb
            have HI2:=am_ hi
            clear hkl hcn hi hq hic hcb hkey hnm hr3 hrq hcell hxr hCr HNM HI
            go_wp2
            have HKEY:Aside0 ((wr.alloc (Obj.cells #[Value.int IntKind.i64 ci,Value.int IntKind.i64 0,Value.int IntKind.i64 0,Value.int IntKind.i64 0] 120)).heap[wr.heap.size]? = some (.cells #[.int .i64 ci,.int .i64 (pk cl o row 0 0),.int .i64 (pk cl o row 1 0),.int .i64 (pk cl o row 2 0)] 120 (0,0))):=⟨blk_new wr _⟩
            have HBK1:Aside0 (Below wr.heap.size wr (wr.alloc (Obj.cells #[Value.int IntKind.i64 ci,Value.int IntKind.i64 0,Value.int IntKind.i64 0,Value.int IntKind.i64 0] 120))):=⟨below_alloc (Below.refl _ _) _⟩
            generalize wr.alloc (Obj.cells #[Value.int IntKind.i64 ci,Value.int IntKind.i64 0,Value.int IntKind.i64 0,Value.int IntKind.i64 0] 120)=wk at HKEY HBK1 ⊢
            clear hx5 hc12 hxb hxr2 HBK
            obtain ⟨wo,rfl⟩:∃ wo:World,wo=wr:=⟨_,rfl⟩
            go_loopg [118] 3 (fun gg ae w'=>∃ (j:Nat) (jz:Int),ae = .int .i64 jz∧Aside0 (jz=(j:Int))∧Aside0 (j≤3)∧Aside0 (3≤gg+j)∧Aside0 (w'.heap[wo.heap.size]? = some (.cells #[.int .i64 ci,.int .i64 (pk cl o row 0 j),.int .i64 (pk cl o row 1 j),.int .i64 (pk cl o row 2 j)] 120 (0,0)))∧Aside0 (Below wo.heap.size wo w'))
            case atStart=>exact ⟨0,0,rfl,⟨rfl⟩,⟨by omega⟩,⟨by omega⟩,HKEY,HBK1⟩
            case round =>
             clear HKEY HBK1
             obtain ⟨j,jz,rfl,HJZ,HJ,HGJ,HKEY,HBK⟩:=hrel
             by_cases hj:j<3
             ·
               cases gk with
               | zero=>exact absurd HGJ.out (by omega)
               | succ g6 =>
               have hjr:j<row.length:=by have:=HR3.out;omega
               obtain ⟨adr,ear,hxj⟩:=Kd.at_int (Kd.C_below HCR.out (below_then HBW0.out HBW0.out.size HBK.out)) (j:Int) (by omega) (by have:=HR3.out;omega)
               subst ear
               have hy:=HRQ.out _ (List.getElem_mem hjr)
               have hyr:rd row (j:Int)=row[j]:=rd_get row j hjr
               rw [hyr,Int.toNat_natCast] at hxj
               generalize row[j]=y at hxj hy hyr
               have HWY:Aside0 (wfI y):=⟨by have:=HBD.out;simp [wfI,Lit.wf,IntKind.min,IntKind.max,IntKind.signed,IntKind.bits];omega⟩
               have HMP:=am_ (HMA.out.below (below_then HBW.out HBW.out.size HBK.out))
               have hpb:=pl_bound HON.out y
               have hpl:(idx o y).getD 0=pl o y:=rfl
               obtain ⟨hcc,_⟩:=Kd.R_celln 0 (Kd.R_below HC12.out (below_then HB17.out HB17.out.size HBK.out)) (pl o y) hpb.1 hpb.2
               have hval:rdOf (0:Int) cl (pl o y)=rd cl (pl o (rd row (j:Int))):=by rw [hyr];rfl
               rw [hval] at hcc
               have HPL:=am_ hpl
               generalize pl o y=pz at hcc hpb HPL
               have p3:((0:Int)≤pz)=True:=eq_true hpb.1
               have q3:(pz<(o.length:Int))=True:=eq_true hpb.2
               have HJ3:=am_ hj
               have hjz:=HJZ.out
               clear hjr hy hyr hpl hval hpb
               rcases (by omega:j=0∨j=1∨j=2) with rfl | rfl | rfl
               · have hjz0:jz=0:=by omega
                 subst hjz0
                 have hk1:wr.cell? ⟨wo.heap.size,1,none⟩=_:=(blk_cell HKEY.out 1).trans rfl
                 have hk2:=blk_frozen HKEY.out 1
                 have hset:=blk_set HKEY.out 1 (.int .i64 (rd cl (pl o (rd row ((0:Nat):Int)))))
                 have HKN:Aside0 ((wr.setCell ⟨wo.heap.size,1,none⟩ (.int .i64 (rd cl (pl o (rd row ((0:Nat):Int)))))).heap[wo.heap.size]? = some (.cells #[.int .i64 ci,.int .i64 (pk cl o row 0 1),.int .i64 (pk cl o row 1 1),.int .i64 (pk cl o row 2 1)] 120 (0,0))):=⟨by
                  rw [hset]
                  simp [pk]⟩
                 have HBN:Aside0 (Below wo.heap.size wo (wr.setCell ⟨wo.heap.size,1,none⟩ (.int .i64 (rd cl (pl o (rd row ((0:Nat):Int))))))):=⟨below_set HBK.out (Nat.le_refl _)⟩
                 generalize rd cl (pl o (rd row ((0:Nat):Int)))=vv at hcc HKN HBN
                 have hxj':=hxj
                 simp [Addr.add] at hxj'
                 have p1:((0:Int)≤(0:Int))=True:=by simp
                 have q1:((0:Int)<(3:Int))=True:=by simp
                 clear hj hjz hxj hset
                 go_wp2_with (first
                  | ((with_reducible refine gate_dst (N:=128) rfl ?_);refine wp_look mapInt rfl _ _ rfl _ _ _ HMP.out rfl y rfl HWY.out ?_;rw [HPL.out])
                  | ((with_reducible refine gate_store (t:=3) (p:=131) rfl ?_);refine store_event (t:=3) (p:=131) (v:=?vo_m2k0) (w1:=(wr.setCell ⟨wo.heap.size,1,none⟩ (.int .i64 vv))) ?hg ?ho ?hn ?hr ?_;(case ho=>rfl);(case hg=>rfl);(case hn=>rfl);(case hr=>first | (go_simp;done) | (go_simp;rfl));intro w17 hw;rw [← hw] at HKN HBN;clear hw))
                 go_roundg g6
                 case measure=>omega
                 case rel=>exact ⟨1,1,rfl,⟨rfl⟩,⟨by omega⟩,⟨by have:=HGJ.out;omega⟩,HKN,HBN⟩
               · have hjz0:jz=1:=by omega
                 subst hjz0
                 have hk1:wr.cell? ⟨wo.heap.size,2,none⟩=_:=(blk_cell HKEY.out 2).trans rfl
                 have hk2:=blk_frozen HKEY.out 2
                 have hset:=blk_set HKEY.out 2 (.int .i64 (rd cl (pl o (rd row ((1:Nat):Int)))))
                 have HKN:Aside0 ((wr.setCell ⟨wo.heap.size,2,none⟩ (.int .i64 (rd cl (pl o (rd row ((1:Nat):Int)))))).heap[wo.heap.size]? = some (.cells #[.int .i64 ci,.int .i64 (pk cl o row 0 2),.int .i64 (pk cl o row 1 2),.int .i64 (pk cl o row 2 2)] 120 (0,0))):=⟨by
                  rw [hset]
                  simp [pk]⟩
                 have HBN:Aside0 (Below wo.heap.size wo (wr.setCell ⟨wo.heap.size,2,none⟩ (.int .i64 (rd cl (pl o (rd row ((1:Nat):Int))))))):=⟨below_set HBK.out (Nat.le_refl _)⟩
                 generalize rd cl (pl o (rd row ((1:Nat):Int)))=vv at hcc HKN HBN
                 have hxj':=hxj
                 simp [Addr.add] at hxj'
                 have p1:((0:Int)≤(1:Int))=True:=by simp
                 have q1:((1:Int)<(3:Int))=True:=by simp
                 clear hj hjz hxj hset
                 go_wp2_with (first
                  | ((with_reducible refine gate_dst (N:=128) rfl ?_);refine wp_look mapInt rfl _ _ rfl _ _ _ HMP.out rfl y rfl HWY.out ?_;rw [HPL.out])
                  | ((with_reducible refine gate_store (t:=3) (p:=131) rfl ?_);refine store_event (t:=3) (p:=131) (v:=?vo_m2k1) (w1:=(wr.setCell ⟨wo.heap.size,2,none⟩ (.int .i64 vv))) ?hg ?ho ?hn ?hr ?_;(case ho=>rfl);(case hg=>rfl);(case hn=>rfl);(case hr=>first | (go_simp;done) | (go_simp;rfl));intro w17 hw;rw [← hw] at HKN HBN;clear hw))
                 go_roundg g6
                 case measure=>omega
                 case rel=>exact ⟨2,2,rfl,⟨rfl⟩,⟨by omega⟩,⟨by have:=HGJ.out;omega⟩,HKN,HBN⟩
               · have hjz0:jz=2:=by omega
                 subst hjz0
                 have hk1:wr.cell? ⟨wo.heap.size,3,none⟩=_:=(blk_cell HKEY.out 3).trans rfl
                 have hk2:=blk_frozen HKEY.out 3
                 have hset:=blk_set HKEY.out 3 (.int .i64 (rd cl (pl o (rd row ((2:Nat):Int)))))
                 have HKN:Aside0 ((wr.setCell ⟨wo.heap.size,3,none⟩ (.int .i64 (rd cl (pl o (rd row ((2:Nat):Int)))))).heap[wo.heap.size]? = some (.cells #[.int .i64 ci,.int .i64 (pk cl o row 0 3),.int .i64 (pk cl o row 1 3),.int .i64 (pk cl o row 2 3)] 120 (0,0))):=⟨by
                  rw [hset]
                  simp [pk]⟩
                 have HBN:Aside0 (Below wo.heap.size wo (wr.setCell ⟨wo.heap.size,3,none⟩ (.int .i64 (rd cl (pl o (rd row ((2:Nat):Int))))))):=⟨below_set HBK.out (Nat.le_refl _)⟩
                 generalize rd cl (pl o (rd row ((2:Nat):Int)))=vv at hcc HKN HBN
                 have hxj':=hxj
                 simp [Addr.add] at hxj'
                 have p1:((0:Int)≤(2:Int))=True:=by simp
                 have q1:((2:Int)<(3:Int))=True:=by simp
                 clear hj hjz hxj hset
                 go_wp2_with (first
                  | ((with_reducible refine gate_dst (N:=128) rfl ?_);refine wp_look mapInt rfl _ _ rfl _ _ _ HMP.out rfl y rfl HWY.out ?_;rw [HPL.out])
                  | ((with_reducible refine gate_store (t:=3) (p:=131) rfl ?_);refine store_event (t:=3) (p:=131) (v:=?vo_m2k2) (w1:=(wr.setCell ⟨wo.heap.size,3,none⟩ (.int .i64 vv))) ?hg ?ho ?hn ?hr ?_;(case ho=>rfl);(case hg=>rfl);(case hn=>rfl);(case hr=>first | (go_simp;done) | (go_simp;rfl));intro w17 hw;rw [← hw] at HKN HBN;clear hw))
                 go_roundg g6
                 case measure=>omega
                 case rel=>exact ⟨3,3,rfl,⟨rfl⟩,⟨by omega⟩,⟨by have:=HGJ.out;omega⟩,HKN,HBN⟩
             ·
               have ej:j=3:=by have:=HJ.out;omega
               subst ej
               have ejz:=HJZ.out
               subst ejz
               have d3:decide (((3:Nat):Int)<3)=false:=by decide
               have hx0:pk cl o row 0 3=rd cl (pl o (rd row 0)):=rfl
               have hx1:pk cl o row 1 3=rd cl (pl o (rd row 1)):=rfl
               have hx2:pk cl o row 2 3=rd cl (pl o (rd row 2)):=rfl
               rw [hx0,hx1,hx2] at HKEY
               have hb0:=rd_bound (by omega) HCB.out (pl o (rd row 0))
               have hb1:=rd_bound (by omega) HCB.out (pl o (rd row 1))
               have hb2:=rd_bound (by omega) HCB.out (pl o (rd row 2))
               have hnm:=HNM2.out
               generalize rd cl (pl o (rd row 0))=x0 at HKEY hb0 hnm
               generalize rd cl (pl o (rd row 1))=x1 at HKEY hb1 hnm
               generalize rd cl (pl o (rd row 2))=x2 at HKEY hb2 hnm
               have HWF:Aside0 (wf4 (ci,x0,x1,x2)):=⟨wf_of HCBI.out,wf_of hb0,wf_of hb1,wf_of hb2⟩
               have hz0:wr.cell? ⟨wo.heap.size,0,none⟩=some (.int .i64 ci):=(blk_cell HKEY.out 0).trans rfl
               have hz1:wr.cell? ⟨wo.heap.size,1,none⟩=some (.int .i64 x0):=(blk_cell HKEY.out 1).trans rfl
               have hz2:wr.cell? ⟨wo.heap.size,2,none⟩=some (.int .i64 x1):=(blk_cell HKEY.out 2).trans rfl
               have hz3:wr.cell? ⟨wo.heap.size,3,none⟩=some (.int .i64 x2):=(blk_cell HKEY.out 3).trans rfl
               have HMN:=am_ (HM4.out.below HBK.out)
               have HCM:=am_ (Kd.R_below HC17.out HBK.out)
               have HBM:=am_ (below_then HB17.out HB17.out.size HBK.out)
               have HGK:Aside0 (gm4<wo.heap.size∧wo.heap.size<wr.heap.size):=⟨HM4.out.lt,blk_lt HKEY.out⟩
               have hset:∀ nv:Int,(nl ++ List.replicate (o.length - i) 0).set i nv=(nl ++ [nv]) ++ List.replicate (o.length - (i+1)) 0:=fun nv=>by
                 have:=set_mid nl (0:Int) nv (List.replicate (o.length - (i+1)) 0)
                 rw [HNL.out] at this
                 rw [show o.length - i=(o.length - (i+1))+1 by have:=HI2.out;omega,List.replicate_succ]
                 exact this
               have HSET:=am_ hset
               have p1:((0:Int)≤(i:Int))=True:=eq_true (by omega)
               have q1:((i:Int)<(o.length:Int))=True:=eq_true (by have:=HI2.out;omega)
               clear hx0 hx1 hx2 hb0 hb1 hb2 hset hj
               by_cases hmem:(ci,x0,x1,x2) ∈ ks
               · rw [add_in hmem] at hnm
                 have hsome:=idx_in hmem
                 rw [idx_val hmem] at hnm
                 generalize hnv:(idx ks (ci,x0,x1,x2)).getD 0=nv at hnm
                 have HNV:=am_ hnv
                 have HNM3:=am_ hnm
                 have HKS2:Aside0 (ks.length≤i+1):=⟨by have:=HKS.out;omega⟩
                 obtain ⟨hc17,hf17⟩:=Kd.R_celln 0 HCM.out (i:Int) (by omega) (by have:=HI2.out;omega)
                 rw [Int.toNat_natCast] at hc17 hf17
                 have HPP:=am_ (Kd.R_putg HCM.out (i:Int) nv)
                 rw [Int.toNat_natCast,HSET.out] at HPP
                 clear hmem hnm hnv
                 go_wp2_with (first
                  | ((with_reducible refine gate_dst (N:=136) rfl ?_);refine wp_look_ok map4 rfl _ _ rfl _ _ _ HMN.out rfl (ci,x0,x1,x2) rfl HWF.out ?_;rw [hsome])
                  | ((with_reducible refine gate_dst (N:=149) rfl ?_);refine wp_look map4 rfl _ _ rfl _ _ _ HMN.out rfl (ci,x0,x1,x2) rfl HWF.out ?_;rw [HNV.out])
                  | ((with_reducible refine gate_store (t:=3) (p:=150) rfl ?_);refine store_event (t:=3) (p:=150) (v:=?vo_m3) (w1:=(wr.setCell ⟨g17,i,none⟩ (.int .i64 nv))) ?hg ?ho ?hn ?hr ?_;(case ho=>rfl);(case hg=>rfl);(case hn=>rfl);(case hr=>first | (go_simp;done) | (go_simp;rfl));intro w17 hw;have HCN2:Aside0 (Kd.R (Kd.int .i64) 3 w17 WC.heap.size (fun _=>True) (.slice (some ⟨g17,0,none⟩) o.length c17) ((nl ++ [nv]) ++ List.replicate (o.length - (i+1)) 0)):=⟨by rw [hw];exact HPP.out.1⟩;have HMN2:Aside0 (IsM4 w17 gm4 (idx ks) ks.length):=⟨by rw [hw];exact HMN.out.kept HPP.out.2 (HMN.out.not_row (Kd.R_typed HCM.out))⟩;have HBN2:Aside0 (Below WC.heap.size WC w17):=⟨by rw [hw];exact below_set HBM.out HG17.out⟩;clear hw))
                 go_roundg g5
                 case measure=>omega
                 case rel=>exact ⟨ks,nl ++ [nv],i+1,by rw [up1 (by have:=HI2.out;have:=HOM.out;omega)],⟨HI2.out⟩,⟨by have:=HG5.out;omega⟩,HNM3,⟨by rw [List.length_append,HNL.out];rfl⟩,HKS2,HMN2,HCN2,HBN2⟩
               · rw [add_out hmem] at hnm
                 have hsome:=idx_out hmem
                 rw [idx_val (show (ci,x0,x1,x2) ∈ ks ++ [(ci,x0,x1,x2)] by simp)] at hnm
                 generalize hnv:(idx (ks ++ [(ci,x0,x1,x2)]) (ci,x0,x1,x2)).getD 0=nv at hnm
                 have HNV:=am_ hnv
                 have HNM3:=am_ hnm
                 have HKS2:Aside0 ((ks ++ [(ci,x0,x1,x2)]).length≤i+1):=⟨by rw [List.length_append];have:=HKS.out;simp;omega⟩
                 have HKL2:Aside0 ((ks.length:Int)≤1100000):=⟨by have:=HKS.out;have:=HI2.out;have:=HOM.out;omega⟩
                 have HU:=am_ (idx_upd hmem)
                 clear hmem hnm hnv
                 go_wp2_with (first
                  | ((with_reducible refine gate_dst (N:=136) rfl ?_);refine wp_look_ok map4 rfl _ _ rfl _ _ _ HMN.out rfl (ci,x0,x1,x2) rfl HWF.out ?_;rw [hsome])
                  | ((with_reducible refine gate_dst (N:=144) rfl ?_);refine wp_len map4 rfl _ rfl _ _ _ HMN.out rfl ?_)
                  | ((with_reducible refine gate_dst (N:=149) rfl ?_);refine wp_look map4 rfl _ _ rfl _ _ _ HMU.out rfl (ci,x0,x1,x2) rfl HWF.out ?_;rw [HNV.out])
                  | ((with_reducible refine gate_store (t:=3) (p:=150) rfl ?_);refine store_event (t:=3) (p:=150) (v:=?vo_m4) (w1:=(w8.setCell ⟨g17,i,none⟩ (.int .i64 nv))) ?hg ?ho ?hn ?hr ?_;(case ho=>rfl);(case hg=>rfl);(case hn=>rfl);(case hr=>first | (go_simp;done) | (go_simp;rfl));intro w17 hw;have HCN2:Aside0 (Kd.R (Kd.int .i64) 3 w17 WC.heap.size (fun _=>True) (.slice (some ⟨g17,0,none⟩) o.length c17) ((nl ++ [nv]) ++ List.replicate (o.length - (i+1)) 0)):=⟨by rw [hw];exact HPP.out.1⟩;have HMN2:Aside0 (IsM4 w17 gm4 (idx (ks ++ [(ci,x0,x1,x2)])) (ks ++ [(ci,x0,x1,x2)]).length):=⟨by rw [hw];exact HMU.out.kept HPP.out.2 (HMU.out.not_row (Kd.R_typed HCU.out))⟩;have HBN2:Aside0 (Below WC.heap.size WC w17):=⟨by rw [hw];exact below_set HBU.out HG17.out⟩;clear hw)
                  | (refine wp_update map4 rfl _ _ _ rfl _ _ _ HMN.out (by have:=HKL2.out;unfold maxLen;omega) rfl (ci,x0,x1,x2) rfl HWF.out (ks.length:Int) rfl (by have:=HKL2.out;simp [Lit.wf,IntKind.min,IntKind.max,IntKind.signed,IntKind.bits];omega) ?_;intro w8 hm hgr;rw [HU.out,if_neg (by rw [hsome];decide)] at hm;have HMU:Aside0 (IsM4 w8 gm4 (idx (ks ++ [(ci,x0,x1,x2)])) (ks ++ [(ci,x0,x1,x2)]).length):=⟨by rw [List.length_append];exact hm⟩;have HCU:=am_ (R_over_map HCM.out HMN.out hgr);have HBU:=am_ (below_map HBM.out hgr HGM4.out);have hy0:=cell_kept4 hgr (a:=⟨wo.heap.size,0,none⟩) HGK.out.2 (fun h_=>absurd (Option.some.inj h_) (by have:=HGK.out.1;show ¬ wo.heap.size=gm4;omega)) hz0;have hy1:=cell_kept4 hgr (a:=⟨wo.heap.size,1,none⟩) HGK.out.2 (fun h_=>absurd (Option.some.inj h_) (by have:=HGK.out.1;show ¬ wo.heap.size=gm4;omega)) hz1;have hy2:=cell_kept4 hgr (a:=⟨wo.heap.size,2,none⟩) HGK.out.2 (fun h_=>absurd (Option.some.inj h_) (by have:=HGK.out.1;show ¬ wo.heap.size=gm4;omega)) hz2;have hy3:=cell_kept4 hgr (a:=⟨wo.heap.size,3,none⟩) HGK.out.2 (fun h_=>absurd (Option.some.inj h_) (by have:=HGK.out.1;show ¬ wo.heap.size=gm4;omega)) hz3;obtain ⟨hc17,hf17⟩:=Kd.R_celln 0 HCU.out (i:Int) (by omega) (by have:=HI2.out;omega);rw [Int.toNat_natCast] at hc17 hf17;have HPP:=am_ (Kd.R_putg HCU.out (i:Int) nv);rw [Int.toNat_natCast,HSET.out] at HPP;clear hm hgr))
                 go_roundg g5
                 case measure=>omega
                 case rel=>exact ⟨ks ++ [(ci,x0,x1,x2)],nl ++ [nv],i+1,by rw [up1 (by have:=HI2.out;have:=HOM.out;omega)],⟨HI2.out⟩,⟨by have:=HG5.out;omega⟩,HNM3,⟨by rw [List.length_append,HNL.out];rfl⟩,HKS2,HMN2,HCN2,HBN2⟩
          ·
            have ei:i=o.length:=by have:=HI.out;omega
            subst ei
            have q1:((o.length:Int)<(o.length:Int))=False:=eq_false (by omega)
            have hnm:=HNM.out
            rw [List.drop_eq_nil_of_le (by have:=HKL.out;omega),nmF] at hnm
            injection hnm with e1 e2
            subst e1
            subst e2
            have HC17:Aside0 (Kd.R (Kd.int .i64) 3 wr WC.heap.size (fun _=>True) (.slice (some ⟨g17,0,none⟩) o.length c17) nl):=⟨by simpa using HC17.out⟩
            have HCA:=am_ (Kd.R_lower HC17.out HB12.out.size)
            have HBA2:=am_ (below_then HB12.out HB12.out.size HB17.out)
            clear hi HI HG5 HNM HKS
            by_cases hk:ks.length=c
            ·have hcff:=HCFF.out
             rw [if_pos hk] at hcff
             have kq:((ks.length:Int) == (c:Int))=true:=by rw [beq_iff_eq];omega
             have HCFF:=am_ hcff
             clear hcff hk
             go_wp2_with (first
               | ((with_reducible refine gate_dst (N:=154) rfl ?_);refine wp_len map4 rfl _ rfl _ _ _ HM4.out rfl ?_)
               | ((with_reducible refine gate_dst (N:=160) rfl ?_);refine wp_make (t:=118) (k:=3) (e:=3) (q:=.i64) (enc:=Value.int .i64) (ok:=wfI) rfl rfl ?_;intro w3 hm hb;rw [idx_nil] at hm;have HNUM:=am_ hm;have HB3:=am_ hb;clear hm hb)
               | ((with_reducible refine gate_dst (N:=161) rfl ?_);refine Kd.R_lit (Kd.int .i64) _ 3 ?hg (N:=161) ?hd (xs:=([]:List Int)) (inner:=[]) (ok:=fun _=>True) (okp:=fun _=>True) ?hr ?hp (fun _ hk=>hk) trivial (Below.refl _ _) (Nat.le_refl _) (by simp) ?_;(case hd=>rfl);(case hg=>rfl);(case hr=>first | (go_simp;done) | (go_simp;rfl));(case hp=>exact (Reps.none _ _));intro v27 w6 ho hb hg_ hnew_;clear hg_ hnew_;have HL27:=am_ ho;have HB6:=am_ hb;clear ho hb))
             have HOUT:Aside0 (w6.heap[wr.heap.size]? = some (.cells #[.slice none 0 0,.slice none 0 0] 27 (0,0))):=⟨by
               have hlt:wr.heap.size<(wr.alloc (Obj.cells #[Value.slice none 0 0,Value.slice none 0 0] 27)).heap.size:=by simp
               have h3:=HB3.out.size
               rw [HB6.out.block _ (by omega),HB3.out.block _ hlt]
               exact blk_new wr _⟩
             have HBN:Aside0 (Below wr.heap.size wr w6):=⟨by
               have hA:=below_alloc (Below.refl wr.heap.size wr) (Obj.cells #[Value.slice none 0 0,Value.slice none 0 0] 27)
               have hB:=below_then hA hA.size HB3.out
               exact below_then hB hB.size HB6.out⟩
             have HNU2:=am_ (HNUM.out.below HB6.out)
             clear HNUM
             have HGN:Aside0 (wr.heap.size<(wr.alloc (Obj.cells #[Value.slice none 0 0,Value.slice none 0 0] 27)).heap.size):=⟨by simp⟩
             have HL27:=am_ (Kd.R_lower HL27.out (Nat.le_trans (Nat.le_of_lt HGN.out) HB3.out.size))
             clear HB6 HB3
             have hsz:(wr.alloc (Obj.cells #[Value.slice none 0 0,Value.slice none 0 0] 27)).heap.size=wr.heap.size+1:=by simp
             rw [hsz] at HNU2 HGN
             clear hsz
             generalize wr.heap.size+1=gN at HNU2 HGN ⊢
             obtain ⟨WD,rfl⟩:∃ wo:World,wo=wr:=⟨_,rfl⟩
             have HR:=HR.out
             rw [← HCFF.out] at HR
             unfold outD at HR
             generalize hld:ldF nl 0 [] []=fin at HR
             obtain ⟨nsF,lsF⟩:=fin
             have HLD:=am_ hld
             have HR:=am_ HR
             clear hld q1 kq HM4 HB17 HC17
             try clear ks
             go_loopg [27,164] o.length (fun gg v27 af w'=>∃ (ns ls:List Int) (i:Nat),af = .int .i64 (i:Int)∧Aside0 (i≤o.length)∧Aside0 (o.length≤gg+i)∧Aside0 (ldF (nl.drop i) i ns ls=(nsF,lsF))∧Aside0 (ns.length=ls.length)∧Aside0 (ls.length≤i)∧Aside0 (∀ x ∈ ls,0≤x∧x<(o.length:Int))∧Aside0 (IsM w' gN (idx ns) ns.length)∧Aside0 (Kd.R (Kd.int .i64) 3 w' WD.heap.size (fun _=>True) v27 ls)∧Aside0 (w'.heap[WD.heap.size]? = some (.cells #[.slice none 0 0,.slice none 0 0] 27 (0,0)))∧Aside0 (Below WD.heap.size WD w'))
             case atStart=>exact ⟨[],[],0,rfl,⟨Nat.zero_le _⟩,⟨by omega⟩,HLD,⟨rfl⟩,⟨Nat.le_refl _⟩,⟨fun x hx=>by cases hx⟩,HNU2,HL27,HOUT,HBN⟩
             case round =>
               clear HNU2 HL27 HOUT HBN HLD
               obtain ⟨ns,ls,i,rfl,HI,HG7,HLD,HNSL,HLSL,HLSB,HNUM,HL27,HOUT,HBN⟩:=hrel
               obtain ⟨A27,c27,e27⟩:=Kd.R_slice HL27.out
               subst e27
               by_cases hi:i<o.length
               ·
                 cases gk with
                 | zero=>exact absurd HG7.out (by omega)
                 | succ g7 =>
                 have hin:i<nl.length:=by have:=HNF.out;omega
                 obtain ⟨hc17,_⟩:=Kd.R_celln 0 (Kd.R_below HCA.out HBN.out) (i:Int) (by omega) (by omega)
                 rw [show rdOf (0:Int) nl (i:Int)=rd nl (i:Int) from rfl,rd_get nl i hin,Int.toNat_natCast] at hc17
                 have hzb:=HNB.out _ (List.getElem_mem hin)
                 have hld:=HLD.out
                 rw [List.drop_eq_getElem_cons hin,ldF] at hld
                 generalize nl[i]=z at hc17 hzb hld
                 have HWZ:Aside0 (wfI z):=⟨wf_of hzb⟩
                 have p1:((0:Int)≤(i:Int))=True:=eq_true (by omega)
                 have q1:((i:Int)<(o.length:Int))=True:=eq_true (by omega)
                 have HI2:=am_ hi
                 have HIM:Aside0 (i<1100000):=⟨by have:=HOM.out;omega⟩
                 clear hi hin hzb HLD HI
                 by_cases hm:z ∈ ns
                 ·rw [if_pos hm] at hld
                  have HLD:=am_ hld
                  have hsome:=idx_in hm
                  clear hm hld
                  go_wp2_with ((with_reducible refine gate_dst (N:=173) rfl ?_);refine wp_look_ok mapInt rfl _ _ rfl _ _ _ HNUM.out rfl z rfl HWZ.out ?_;rw [hsome])
                  go_roundg g7
                  case measure=>omega
                  case rel=>exact ⟨ns,ls,i+1,by rw [up1 (by have:=HIM.out;omega)],⟨HI2.out⟩,⟨by have:=HG7.out;omega⟩,HLD,HNSL,⟨by have:=HLSL.out;omega⟩,HLSB,HNUM,HL27,HOUT,HBN⟩
                 ·rw [if_neg hm] at hld
                  have HLD:=am_ hld
                  have hsome:=idx_out hm
                  have HU:=am_ (idx_upd hm)
                  have HUL:Aside0 (upd (idx ns) z (ls.length:Int)=idx (ns ++ [z])):=⟨by rw [← HNSL.out];exact HU.out⟩
                  have HLEN:Aside0 ((ls.length:Int)≤1100000):=⟨by have:=HLSL.out;have:=HIM.out;omega⟩
                  clear hm hld HU
                  go_wp2_with (first
                    | ((with_reducible refine gate_dst (N:=173) rfl ?_);refine wp_look_ok mapInt rfl _ _ rfl _ _ _ HNUM.out rfl z rfl HWZ.out ?_;rw [hsome])
                    | (refine wp_update mapInt rfl _ _ _ rfl _ _ _ HNUM.out (by have:=HLEN.out;have:=HNSL.out;unfold maxLen;omega) rfl z rfl HWZ.out (ls.length:Int) rfl (by have:=HLEN.out;simp [Lit.wf,IntKind.min,IntKind.max,IntKind.signed,IntKind.bits];omega) ?_;intro w3 hm hgr;rw [HUL.out,if_neg (by rw [hsome];decide)] at hm;have HL3:=am_ (R_over_map HL27.out HNUM.out hgr);have HB3:=am_ (below_map HBN.out hgr (Nat.le_of_lt HGN.out));have HM3:=am_ hm;have HO3:=am_ ((hgr.block WD.heap.size (blk_lt HOUT.out) (fun h_=>absurd (Option.some.inj h_) (Nat.ne_of_lt HGN.out))).trans HOUT.out);clear hm hgr)
                    | (at_builtin;refine Kd.R_append (Kd.int .i64) (w0:=WD) WD.heap.size rfl (.tmp 185) (.tmp 187) 67 3 (.int .i64 0) 8 rfl Try.underlying67 info3 rfl (by decide) (by omega) (.slice A27 ls.length c27) ls (i:Int) [.int .i64 (i:Int)] (fun _=>True) (fun _=>False) rfl rfl ?aP (fun _ hk=>hk.elim) ?aF ?aO ?aB ?aS ?aL ?_;(case aP=>exact rfl);(case aF=>exact (fun _ _=>trivial));(case aO=>exact HL3.out);(case aB=>exact HB3.out);(case aS=>exact HB3.out.size);(case aL=>have:=HLEN.out;omega);intro v5n w4 ho hb hg hat;have HMN:Aside0 (IsM w4 gN (idx (ns ++ [z])) (ns ++ [z]).length):=⟨by have h0:=HM3.out.kept hg (HM3.out.not_row (Kd.R_typed HL3.out));rw [List.length_append];exact h0⟩;have HON2:=am_ ((hg.block WD.heap.size (blk_lt HO3.out) (Kd.R_ne HL3.out HO3.out (by decide))).trans HO3.out);have HLN:=am_ ho;have HBN2:=am_ hb;clear ho hb hg hat))
                  go_roundg g7
                  case measure=>omega
                  case rel=>exact ⟨ns ++ [z],ls ++ [(i:Int)],i+1,by rw [up1 (by have:=HIM.out;omega)],⟨HI2.out⟩,⟨by have:=HG7.out;omega⟩,HLD,⟨by simp [HNSL.out]⟩,⟨by have:=HLSL.out;simp;omega⟩,⟨fun x hx=>by
                    rcases List.mem_append.mp hx with h | h
                    ·exact HLSB.out x h
                    ·rw [List.mem_singleton] at h;subst h;have:=HI2.out;omega⟩,HMN,HLN,HON2,HBN2⟩
               ·
                 have ei:i=o.length:=by have:=HI.out;omega
                 subst ei
                 have hld:=HLD.out
                 rw [List.drop_eq_nil_of_le (by have:=HNF.out;omega),ldF] at hld
                 injection hld with e1 e2
                 subst e1
                 subst e2
                 have q1:((o.length:Int)<(o.length:Int))=False:=eq_false (by omega)
                 have HLL:Aside0 (ls.length≤o.length):=⟨HLSL.out⟩
                 have HR:=HR.out
                 dsimp only at HR
                 have HGB:Aside0 (wr.grownBy wr (some WD.heap.size)):=⟨gb_refl _ _⟩
                 have HGE:Aside0 (WD.heap.size<wr.heap.size):=⟨blk_lt HOUT.out⟩
                 obtain ⟨WE,rfl⟩:∃ wo:World,wo=wr:=⟨_,rfl⟩
                 have HOUTE:=HOUT
                 have HRA:Aside0 (Kd.R Kd.bool 4 WE WD.heap.size (fun b=>WE.heap.size≤b) (.slice none 0 0) []):=⟨Kd.R_nil _ _ _ _ _⟩
                 have HRY:Aside0 (Kd.S (Kd.slice 3 (Kd.int .i64)) 67 WE WD.heap.size (fun b=>WE.heap.size≤b) (.slice none 0 0) []):=⟨Kd.S_nil _ _ _ _ _⟩
                 have HR:=am_ HR
                 clear hi HI HG7 HLD HLSL
                 go_wp2
                 go_loopg [192] ls.length (fun gg ag w'=>∃ (k:Nat) (ra ry:Value) (xa:List Bool) (xy:List (List Int)),ag = .int .i64 (k:Int)∧Aside0 (k≤ls.length)∧Aside0 (ls.length≤gg+k)∧Aside0 (xa=(ls.take k).map (fun i=>rdOf false l0 (rd o i)))∧Aside0 (xy=(ls.take k).map (outRow l1 o nl ns))∧Aside0 (w'.heap[WD.heap.size]? = some (.cells #[ra,ry] 27 (0,0)))∧Aside0 (Kd.R Kd.bool 4 w' WD.heap.size (fun b=>WE.heap.size≤b) ra xa)∧Aside0 (Kd.S (Kd.slice 3 (Kd.int .i64)) 67 w' WD.heap.size (fun b=>WE.heap.size≤b) ry xy)∧Aside0 (Below WD.heap.size WD w')∧Aside0 (WE.grownBy w' (some WD.heap.size)))
                 case atStart=>exact ⟨0,.slice none 0 0,.slice none 0 0,[],[],rfl,⟨Nat.zero_le _⟩,⟨by omega⟩,⟨by simp⟩,⟨by simp⟩,HOUT,HRA,HRY,HBN,HGB⟩
                 case round =>
                  clear HOUT HRA HRY HBN HGB q1
                  obtain ⟨k,ra,ry,xa,xy,rfl,HK8,HG8,HXA,HXY,HOUT,HRA,HRY,HBN,HGB⟩:=hrel
                  obtain ⟨Aa,ca,ea⟩:=Kd.R_slice HRA.out
                  subst ea
                  obtain ⟨Ay,cy,ey⟩:=Kd.S_slice HRY.out
                  subst ey
                  by_cases hk:k<ls.length
                  ·
                    cases gk with
                    | zero=>exact absurd HG8.out (by omega)
                    | succ g8 =>
                    have HLW:=Kd.R_grown (Kd.R_types HL27.out HOUTE.out (by decide)) HGB.out (fun k hk he=>hk.2 (Option.some.inj he))
                    obtain ⟨a27,ea27,hx27⟩:=Kd.at_int (Kd.R_reads' HLW).2.2 (k:Int) (by omega) (by omega)
                    subst ea27
                    rw [rd_get ls k hk,Int.toNat_natCast] at hx27
                    have hqb:=HLSB.out _ (List.getElem_mem hk)
                    have hsn:ls.take (k+1)=ls.take k ++ [ls[k]]:=List.take_succ_eq_append_getElem hk
                    generalize ls[k]=q at hx27 hqb hsn
                    have HBAW:=am_ (below_then HBA2.out HBA2.out.size HBN.out)
                    have HBW0:=am_ (below_then HBA.out HBA.out.size HBAW.out)
                    obtain ⟨a5',ea5,hx5⟩:=Kd.at_int (Kd.R_reads' (Kd.R_below HLA.out HBAW.out)).2.2 q hqb.1 hqb.2
                    cases ea5
                    have hqt:q.toNat<o.length:=by omega
                    have hrd:rd o q=o[q.toNat]:=by
                     have:=rd_get o q.toNat hqt
                     rwa [Int.toNat_of_nonneg hqb.1] at this
                    have hpb:=HALL.out _ (List.getElem_mem hqt)
                    rw [← hrd] at hpb
                    have hrow0:outRow l1 o nl ns q=(rowOf l1 (rd o q)).map fun x=>(idx ns (rd nl (pl o x))).getD 0:=rfl
                    have HSN:=am_ hsn
                    have hbt:(fun i=>rdOf false l0 (rd o i)) q=rdOf false l0 (rd o q):=rfl
                    have HBT:=am_ hbt
                    generalize rd o q=pz at hx5 hpb hrow0 HBT
                    obtain ⟨hr3,hrq⟩:=HROW.out pz hpb
                    obtain ⟨a1',ea1,hcell⟩:=cellsRows HR1.out (by have:=HPOS.out;have:=HN.out;omega)
                    cases ea1
                    obtain ⟨Ar,cr,hxr,hCr⟩:=hcell pz.toNat (by have:=HN.out;omega)
                    have erow:l1.getD pz.toNat []=rowOf l1 pz:=rfl
                    rw [erow] at hxr hCr
                    generalize rowOf l1 pz=row at hxr hCr hr3 hrq hrow0
                    rw [hr3] at hxr hCr
                    have HCR:=am_ hCr
                    have HRQ:=am_ hrq
                    have HR3:=am_ hr3
                    have HROW0:=am_ hrow0
                    have HPB:=am_ hpb
                    have HQB:=am_ hqb
                    have HK2:=am_ hk
                    have hxb:=pw_cell_below HBW0.out HBX1.out
                    have hxr:=pw_cell_below HBW0.out hxr
                    have p1:((0:Int)≤(k:Int))=True:=eq_true (by omega)
                    have q1:((k:Int)<(ls.length:Int))=True:=eq_true (by omega)
                    have p2:((0:Int)≤q)=True:=eq_true hqb.1
                    have q2:(q<(o.length:Int))=True:=eq_true hqb.2
                    have p3:((0:Int)≤pz)=True:=eq_true hpb.1
                    have q3:(pz<(l1.length:Int))=True:=eq_true (by have:=HN.out;omega)
                    clear hk HLW hqb hsn hqt hrd hpb hrow0 hbt hr3 hrq hcell hCr
                    go_wp2_with ((with_reducible refine gate_dst (N:=196) rfl ?_);refine Kd.R_lit (Kd.int .i64) _ 3 ?hg (N:=196) ?hd (xs:=([]:List Int)) (inner:=[]) (ok:=fun _=>True) (okp:=fun _=>True) ?hr ?hp (fun _ hk=>hk) trivial (Below.refl _ _) (Nat.le_refl _) (by simp) ?_;(case hd=>rfl);(case hg=>rfl);(case hr=>first | (go_simp;done) | (go_simp;rfl));(case hp=>exact (Reps.none _ _));intro v33 w6 ho hb hg_ hnew_;clear hg_ hnew_;have HL33:=am_ ho;have HB6:=am_ hb;clear ho hb)
                    have hxb:=pw_cell_below HB6.out hxb
                    have hxr:=pw_cell_below HB6.out hxr
                    have HX5:=am_ hx5
                    have hx5:=pw_cell_below HB6.out hx5
                    refine start_ (n:=10) (S:=(fun w'=>w'.cell? ⟨w.heap.size,1,none⟩=some (.slice (some ad1) l1.length c1)∧w'.cell? (ad5.add q.toNat)=some (.int .i64 pz)∧w'.cell? (ad1.add pz.toNat)=some (.slice Ar 3 cr))) (ds:=[]) (bl 10 0) (by kernel_rfl) rfl rfl (⟨hxb,hx5,hxr⟩) (fun hHeld=>?_);refine with_tabW tab56m bits56m (fun HT_ HW_=>?_)
                    refine ph_ 0 197 (bl 10 1) HT_ ?_
                    refine ph_ 2 199 (bl 10 5) HT_ ?_
                    refine ph_ 3 200 (bl 10 13) HT_ ?_
                    refine ph_ 4 201 (bl 10 29) HT_ ?_
                    refine ph_ 9 206 (bl 10 541) HT_ ?_
                    refine th_ 1 198 (bl 10 543) HT_ HW_ hHeld ?_
                    refine th_ 5 202 (bl 10 575) HT_ HW_ hHeld ?_
                    refine ph_ 6 203 (bl 10 639) HT_ ?_
                    refine th_ 7 204 (bl 10 767) HT_ HW_ hHeld ?_
                    refine ph_ 8 205 (bl 10 1023) HT_ ?_
                    refine done_ (done_of HT_.out (by kernel_rfl)) ?_
                    clear HT_ HW_ hHeld hxb hx5 hxr p2 q2 p3 q3
                    go_wp2
                    have HL33:=am_ (Kd.R_drew HL33.out)
                    have HB6:=am_ (below_drew1 HB6.out)
                    generalize World.drew w6=w7 at HL33 HB6 ⊢
                    obtain ⟨W1,rfl⟩:∃ wo:World,wo=wr:=⟨_,rfl⟩
                    go_loopg [33,206] 3 (fun gg v33 ah w'=>∃ (ro:List Int) (j:Nat),ah = .int .i64 (j:Int)∧Aside0 (j≤3)∧Aside0 (3≤gg+j)∧Aside0 (ro=(row.take j).map (fun x=>(idx ns (rd nl (pl o x))).getD 0))∧Aside0 (Kd.R (Kd.int .i64) 3 w' W1.heap.size (fun _=>True) v33 ro)∧Aside0 (Below W1.heap.size W1 w'))
                    case atStart=>exact ⟨[],0,rfl,⟨by omega⟩,⟨by omega⟩,⟨by simp⟩,HL33,HB6⟩
                    case round =>
                     clear HL33 HB6 p1 q1
                     obtain ⟨ro,j,rfl,HJ,HGJ,HRO,HL33,HB6⟩:=hrel
                     obtain ⟨A33,c33,e33⟩:=Kd.R_slice HL33.out
                     subst e33
                     have HBDW:=am_ (below_then HBN.out HBN.out.size HB6.out)
                     have HB0W:=am_ (below_then HBW0.out HBW0.out.size HB6.out)
                     by_cases hj:j<3
                     ·
                       cases gk with
                       | zero=>exact absurd HGJ.out (by omega)
                       | succ g9 =>
                       have hjr:j<row.length:=by have:=HR3.out;omega
                       obtain ⟨adr,ear,hxj⟩:=Kd.at_int (Kd.C_below HCR.out HB0W.out) (j:Int) (by omega) (by have:=HR3.out;omega)
                       subst ear
                       have hy:=HRQ.out _ (List.getElem_mem hjr)
                       rw [rd_get row j hjr,Int.toNat_natCast] at hxj
                       have hnx:(row.take (j+1)).map (fun x=>(idx ns (rd nl (pl o x))).getD 0)=ro ++ [(idx ns (rd nl (pl o row[j]))).getD 0]:=by
                        rw [HRO.out,List.take_succ_eq_append_getElem hjr,List.map_append,List.map_singleton]
                       generalize row[j]=y at hxj hy hnx
                       have HWY:Aside0 (wfI y):=⟨by have:=HBD.out;simp [wfI,Lit.wf,IntKind.min,IntKind.max,IntKind.signed,IntKind.bits];omega⟩
                       have HMP:=am_ (HMA.out.below (below_then HBAW.out HBAW.out.size HB6.out))
                       have hpb:=pl_bound HON.out y
                       have hpl:(idx o y).getD 0=pl o y:=rfl
                       have HPL:=am_ hpl
                       generalize pl o y=py at hpb hnx HPL
                       obtain ⟨hcc,_⟩:=Kd.R_celln 0 (Kd.R_below HCA.out HBDW.out) py hpb.1 hpb.2
                       have hval:rdOf (0:Int) nl py=rd nl py:=rfl
                       rw [hval] at hcc
                       have hzb:=rd_bound (by omega) HNB.out py
                       generalize rd nl py=z at hcc hzb hnx
                       have HWZ:Aside0 (wfI z):=⟨wf_of hzb⟩
                       have HNP:=am_ ((HNUM.out.kept HGB.out (fun h_=>absurd (Option.some.inj h_) (Nat.ne_of_gt HGN.out))).below HB6.out)
                       generalize hnv:(idx ns z).getD 0=nv at hnx
                       have HNV:=am_ hnv
                       have HNX:=am_ hnx
                       have HROL:Aside0 (ro.length≤3):=⟨by rw [HRO.out];simp;omega⟩
                       have HJ3:=am_ hj
                       have p1:((0:Int)≤(j:Int))=True:=eq_true (by omega)
                       have q1:((j:Int)<(3:Int))=True:=eq_true (by omega)
                       have q3:((j:Int)<((3:Nat):Int))=True:=eq_true (by omega)
                       have p4:((0:Int)≤py)=True:=eq_true hpb.1
                       have q4:(py<(o.length:Int))=True:=eq_true hpb.2
                       clear hj hjr hy hnx hpb hpl hval hzb hnv
                       go_wp2_with (first
                        | ((with_reducible refine gate_dst (N:=215) rfl ?_);refine wp_look mapInt rfl _ _ rfl _ _ _ HMP.out rfl y rfl HWY.out ?_;rw [HPL.out])
                        | ((with_reducible refine gate_dst (N:=218) rfl ?_);refine wp_look mapInt rfl _ _ rfl _ _ _ HNP.out rfl z rfl HWZ.out ?_;rw [HNV.out])
                        | (at_builtin;refine Kd.R_append (Kd.int .i64) (w0:=W1) W1.heap.size rfl (.tmp 210) (.tmp 219) 67 3 (.int .i64 0) 8 rfl Try.underlying67 info3 rfl (by decide) (by omega) (.slice A33 ro.length c33) ro nv [.int .i64 nv] (fun _=>True) (fun _=>False) rfl rfl ?aP (fun _ hk=>hk.elim) ?aF ?aO ?aB ?aS ?aL ?_;(case aP=>exact rfl);(case aF=>exact (fun _ _=>trivial));(case aO=>exact HL33.out);(case aB=>exact HB6.out);(case aS=>exact HB6.out.size);(case aL=>have:=HROL.out;omega);intro v5n w4 ho hb hg hat;have HLN:=am_ ho;have HBN2:=am_ hb;clear ho hb hg hat))
                       go_roundg g9
                       case measure=>omega
                       case rel=>exact ⟨ro ++ [nv],j+1,by rw [up1 (by have:=HJ3.out;omega)],⟨HJ3.out⟩,⟨by have:=HGJ.out;omega⟩,⟨HNX.out.symm⟩,HLN,HBN2⟩
                     ·
                       have ej:j=3:=by have:=HJ.out;omega
                       subst ej
                       have d3:decide (((3:Nat):Int)<3)=false:=by decide
                       have hro:ro=outRow l1 o nl ns q:=by rw [HROW0.out,HRO.out,List.take_of_length_le (by have:=HR3.out;omega)]
                       have HROQ:=am_ hro
                       have hout:wr.heap[WD.heap.size]? = some (.cells #[.slice Aa xa.length ca,.slice Ay xy.length cy] 27 (0,0)):=(HB6.out.block _ (blk_lt HOUT.out)).trans HOUT.out
                       have hryb:=Kd.S_mono (ok':=fun b=>WE.heap.size≤b∧b<W1.heap.size) (Kd.S_bound HRY.out) (fun b hb=>⟨hb.1,hb.2.2.1⟩)
                       have HRYL:=am_ (Kd.S_lt HRY.out)
                       have HXYL:Aside0 (xy.length≤1100000∧xa.length≤1100000):=⟨by rw [HXY.out,HXA.out];simp;have:=HLL.out;have:=HOM.out;omega⟩
                       have HSZE:Aside0 (WE.heap.size≤wr.heap.size∧WE.heap.size≤W1.heap.size):=⟨Nat.le_trans HGB.out.size HB6.out.size,HGB.out.size⟩
                       have HRA5:=am_ (Kd.R_drew (Kd.R_below HRA.out HB6.out))
                       have HRY5:=am_ (Kd.S_drew (Kd.S_below hryb HB6.out))
                       have HL5:=am_ (Kd.R_drew HL33.out)
                       have HB5:=am_ (below_drew1 HBDW.out)
                       have HO5:=am_ (blk_drew hout)
                       have HG5:=am_ (gb_below (gb_below HGB.out HB6.out) (below_drew1 (Below.refl _ _)))
                       have HSZ5:Aside0 (WE.heap.size≤wr.drew.heap.size):=⟨HSZE.out.1⟩
                       have hya:wr.cell? ⟨WD.heap.size,0,none⟩=some (.slice Aa xa.length ca):=(blk_cell hout 0).trans rfl
                       have hx0:=pw_cell_below HB0W.out HBX0.out
                       have hx5:=pw_cell_below HB6.out HX5.out
                       obtain ⟨ad0',ead,hxa⟩:=Kd.at_bool (Kd.C_below HR0.out HB0W.out) pz HPB.out.1 HPB.out.2
                       cases ead
                       have p2:((0:Int)≤q)=True:=eq_true HQB.out.1
                       have q2:(q<(o.length:Int))=True:=eq_true HQB.out.2
                       have p3:((0:Int)≤pz)=True:=eq_true HPB.out.1
                       have q3:(pz<(l0.length:Int))=True:=eq_true HPB.out.2
                       have HBTZ:=HBT
                       generalize hbz:rdOf false l0 pz=bz at hxa
                       have HBZ:=am_ hbz
                       clear hro hryb hj hbz HL33 HRA HRY HOUT
                       go_wp2
                       refine start_ (n:=14) (S:=(fun w'=>w'.cell? ⟨WD.heap.size,0,none⟩=some (.slice Aa xa.length ca)∧w'.cell? ⟨w.heap.size,0,none⟩=some (.slice (some ad0) l0.length c0)∧w'.cell? (ad5.add q.toNat)=some (.int .i64 pz)∧w'.cell? (ad0.add pz.toNat)=some (.bool bz))) (ds:=[11,13]) (bl 14 0) (by kernel_rfl) rfl rfl (⟨hya,hx0,hx5,hxa⟩) (fun hHeld=>?_);refine with_tabW tab61m bits61m (fun HT_ HW_=>?_)
                       clear hya hx0 hx5 hxa hout
                       generalize wr.drew=w8 at HRA5 HRY5 HL5 HB5 HO5 HG5 HSZ5 hHeld ⊢
                       refine ph_ 0 222 (bl 14 1) HT_ ?_
                       refine ph_ 2 224 (bl 14 5) HT_ ?_
                       refine ph_ 4 226 (bl 14 21) HT_ ?_
                       refine ph_ 5 227 (bl 14 53) HT_ ?_
                       refine ph_ 6 228 (bl 14 117) HT_ ?_
                       refine th_ 1 223 (bl 14 119) HT_ HW_ hHeld ?_
                       refine th_ 3 225 (bl 14 127) HT_ HW_ hHeld ?_
                       refine th_ 7 229 (bl 14 255) HT_ HW_ hHeld ?_
                       refine ph_ 8 230 (bl 14 511) HT_ ?_
                       refine th_ 9 231 (bl 14 1023) HT_ HW_ hHeld ?_
                       refine on_ 10 (some 232) (bl 14 2047) HT_ (fun K hK=>?_)
                       refine value_ (w1:=?_) (v:=?_) (by rfl) rfl ?_ ?_
                       rotate_left 2
                       ·go_simp
                        constructor
                        ·rfl
                        ·rfl
                       refine hK.out _ _ (⟨cell_al _ hHeld.1,cell_al _ hHeld.2.1,cell_al _ hHeld.2.2.1,cell_al _ hHeld.2.2.2⟩) (fun hHeld=>?_)
                       clear hK K
                       refine nm_ 232 ?_
                       refine last_ (i:=11) (N:=some 233) (bl 14 4095) rfl rfl (one_of HT_.out (by kernel_rfl)) (by decide) (fun K hK=>?_)
                       refine Kd.R_append_step Kd.bool (w0:=WD) WD.heap.size (by rfl) (.tmp 223) (.tmp 232) 22 4 (.bool false) 1 rfl Try.underlying22 info4 rfl (by decide) (by omega) (.slice Aa xa.length ca) xa bz [.bool bz] (fun b=>WE.heap.size≤b) (fun _=>False) rfl rfl ?aP (fun _ hk=>hk.elim) ?aF ?aO ?aB ?aS ?aL ?_
                       (case aP=>exact rfl)
                       (case aF=>exact (fun _ hk=>Nat.le_trans HSZ5.out hk))
                       (case aO=>exact HRA5.out)
                       (case aB=>exact HB5.out)
                       (case aS=>exact HB5.out.size)
                       (case aL=>have:=HXYL.out;omega)
                       intro v22 w9 ho hb hg hat
                       have HRA9:=am_ ho
                       have HRY9:=am_ (Kd.S_over' HRY5.out (Kd.R_typed HRA5.out) (by decide) hg)
                       have HL9:=am_ (Kd.R_over' HL5.out (Kd.R_typed HRA5.out) (by decide) hg)
                       have HO9:=am_ ((hg.block WD.heap.size (blk_lt HO5.out) (Kd.R_ne HRA5.out HO5.out (by decide))).trans HO5.out)
                       have HB9:=am_ hb
                       have HG9:=am_ (gb_row HG5.out hg (fun b hk=>HRA5.out.1 b hk))
                       obtain ⟨A22,c22,e22⟩:=Kd.R_slice HRA9.out
                       rw [show (xa ++ [bz]).length=xa.length+1 by simp] at e22
                       subst e22
                       clear ho hb hg hat HRA5 HRY5 HL5 HB5 HO5 HG5
                       refine hK.out _ _ ?_
                       clear hK K
                       refine nm_ 233 ?_
                       refine ph_ 12 234 (bl 14 8191) HT_ ?_
                       refine last_ (i:=13) (N:=none) (bl 14 16383) rfl rfl (one_of HT_.out (by kernel_rfl)) (by decide) (fun K hK=>?_)
                       have hs54:w9.cell? ⟨WD.heap.size,0,none⟩=some (.slice Aa xa.length ca):=(blk_cell HO9.out 0).trans rfl
                       have hfs54:=blk_frozen HO9.out 0
                       refine skip_ (w1:=?_) (by rfl) rfl ?_ ?_
                       rotate_left
                       ·go_simp
                        rfl
                       refine hK.out _ _ ?_
                       clear hK K hs54 hfs54
                       refine done_ (done_of HT_.out (by kernel_rfl)) ?_
                       have HRA1:=am_ (Kd.R_set HRA9.out HO9.out (by decide) 0 (.slice A22 (xa.length+1) c22))
                       have HRY1:=am_ (Kd.S_set HRY9.out HO9.out (by decide) 0 (.slice A22 (xa.length+1) c22))
                       have HL1:=am_ (Kd.R_set HL9.out HO9.out (by decide) 0 (.slice A22 (xa.length+1) c22))
                       have HO1:Aside0 ((w9.setCell ⟨WD.heap.size,0,none⟩ (.slice A22 (xa.length+1) c22)).heap[WD.heap.size]? = some (.cells #[.slice A22 (xa.length+1) c22,.slice Ay xy.length cy] 27 (0,0))):=⟨blk_put HO9.out 0 _ rfl⟩
                       have HB1:=am_ (below_set (j:=0) (v:=(.slice A22 (xa.length+1) c22)) HB9.out (Nat.le_refl _))
                       have HG1:=am_ (gb_set HG9.out 0 (.slice A22 (xa.length+1) c22))
                       clear HRA9 HRY9 HL9 HO9 HB9 HG9 HT_ HW_
                       generalize w9.setCell ⟨WD.heap.size,0,none⟩ (.slice A22 (xa.length+1) c22)=w1 at HRA1 HRY1 HL1 HO1 HB1 HG1 ⊢
                       have hcz0:w1.cell? ⟨WD.heap.size,0,none⟩=some (.slice A22 (xa.length+1) c22):=(blk_cell HO1.out 0).trans rfl
                       have hcz1:w1.cell? ⟨WD.heap.size,1,none⟩=some (.slice Ay xy.length cy):=(blk_cell HO1.out 1).trans rfl
                       have hfz1:=blk_frozen HO1.out 1
                       have HSZ1:Aside0 (WE.heap.size≤w1.heap.size):=⟨HG1.out.size⟩
                       go_wp2_with ((with_reducible refine gate_builtin (b:=.append) (xs:=#[.tmp 236,.tmp 238]) rfl ?_);at_builtin;refine Kd.S_append (Kd.slice 3 (Kd.int .i64)) (w0:=WD) WD.heap.size rfl (.tmp 236) (.tmp 238) 23 67 (.slice none 0 0) 24 rfl Try.underlying23 info67 rfl (by decide) (by omega) (.slice Ay xy.length cy) xy ro [.slice A33 ro.length c33] (fun b=>WE.heap.size≤b) (fun b=>some b=(.slice A33 ro.length c33:Value).ownBlock) rfl rfl ?aP ?aK ?aF ?aO ?aB ?aS ?aL ?_;(case aP=>exact Kd.M_row (Kd.R_tight rfl (Kd.R_lower HL1.out (Nat.le_trans (Nat.le_of_lt HGE.out) HSZE.out.2))));(case aK=>exact (fun b hb=>⟨by have:=Kd.R_base HL1.out b hb.symm;have:=HSZE.out.2;omega,fun he=>by have h1:=Kd.R_base HL1.out b hb.symm;have h2:=HRYL.out b he.symm;omega⟩));(case aF=>exact (fun _ hk=>Nat.le_trans HSZ1.out hk));(case aO=>exact Kd.S_mono HRY1.out (fun b hb=>⟨hb.1,fun he=>by have h1:=Kd.R_base HL1.out b he.symm;have h2:=hb.2;omega⟩));(case aB=>exact HB1.out);(case aS=>exact HB1.out.size);(case aL=>have:=HXYL.out;omega);intro v23 w2 ho hb hg hat;have HRY2:=am_ ho;have HRA2:=am_ (Kd.R_over' HRA1.out (Kd.S_typed HRY1.out) (by decide) hg);have HO2:=am_ ((hg.block WD.heap.size (blk_lt HO1.out) (Kd.S_ne HRY1.out HO1.out (by decide))).trans HO1.out);have HB2:=am_ hb;have HG2:=am_ (gb_row HG1.out hg (fun b hk=>((Kd.S_R HRY1.out).1 b hk).1));obtain ⟨A23,c23,e23⟩:=Kd.S_slice HRY2.out;rw [show (xy ++ [ro]).length=xy.length+1 by simp] at e23;subst e23;clear ho hb hg hat hcz0 hcz1 hfz1;have hcz1:w2.cell? ⟨WD.heap.size,1,none⟩=some (.slice Ay xy.length cy):=(blk_cell HO2.out 1).trans rfl;have hfz1:=blk_frozen HO2.out 1)
                       go_roundg g8
                       case measure=>omega
                       case rel =>
                        refine ⟨k+1,.slice A22 (xa.length+1) c22,.slice A23 (xy.length+1) c23,xa ++ [bz],xy ++ [ro],by rw [up1 (by have:=HK2.out;have:=HLL.out;have:=HOM.out;omega)],⟨HK2.out⟩,⟨by have:=HG8.out;omega⟩,⟨?_⟩,⟨?_⟩,⟨blk_put HO2.out 1 _ rfl⟩,⟨Kd.R_set HRA2.out HO2.out (by decide) 1 _⟩,⟨Kd.S_set HRY2.out HO2.out (by decide) 1 _⟩,⟨below_set HB2.out (Nat.le_refl _)⟩,⟨gb_set HG2.out 1 _⟩⟩
                        ·rw [HSN.out,List.map_append,← HXA.out,List.map_singleton,HBT.out,HBZ.out]
                        ·rw [HSN.out,List.map_append,← HXY.out,List.map_singleton,HROQ.out]
                  ·
                    have ek:k=ls.length:=by have:=HK8.out;omega
                    subst ek
                    have q1:((ls.length:Int)<(ls.length:Int))=False:=eq_false (by omega)
                    have HBAW:=am_ (below_then HBA2.out HBA2.out.size HBN.out)
                    have HBW0:=am_ (below_then HBA.out HBA.out.size HBAW.out)
                    have HB4:Aside0 (wr.heap[w.heap.size+1]? = some (.cells #[.slice none 0 0,.slice none 0 0] 27 (0,0))):=⟨(HBW0.out.block _ (by rw [HSZ0.out];omega)).trans HG4.out⟩
                    have HBW:Aside0 (Below w.heap.size w wr):=⟨below_then HW0.out HW0.out.size HBW0.out⟩
                    have HWD:Aside0 (w.heap.size≤WD.heap.size):=⟨Nat.le_trans HW0.out.size (Nat.le_trans HBA.out.size HBA2.out.size)⟩
                    have hcz0:wr.cell? ⟨WD.heap.size,0,none⟩=some (.slice Aa xa.length ca):=(blk_cell HOUT.out 0).trans rfl
                    have hcz1:wr.cell? ⟨WD.heap.size,1,none⟩=some (.slice Ay xy.length cy):=(blk_cell HOUT.out 1).trans rfl
                    have hcy0:wr.cell? ⟨w.heap.size+1,0,none⟩=some (.slice none 0 0):=(blk_cell HB4.out 0).trans rfl
                    have hcy1:wr.cell? ⟨w.heap.size+1,1,none⟩=some (.slice none 0 0):=(blk_cell HB4.out 1).trans rfl
                    have hfy0:=blk_frozen HB4.out 0
                    have hfy1:=blk_frozen HB4.out 1
                    have hxa:xa=r.1:=by rw [HXA.out,List.take_length,← HR.out]
                    have hxy:xy=r.2:=by rw [HXY.out,List.take_length,← HR.out]
                    have HXA:=am_ hxa
                    have HXY:=am_ hxy
                    clear hk hxa hxy
                    have HT4:Aside0 (((wr.setCell ⟨w.heap.size+1,0,none⟩ (.slice Aa xa.length ca)).setCell ⟨w.heap.size+1,1,none⟩ (.slice Ay xy.length cy)).heap[w.heap.size+1]? = some (.cells #[.slice Aa xa.length ca,.slice Ay xy.length cy] 27 (0,0))):=⟨blk_put (blk_put (cs':=#[.slice Aa xa.length ca,.slice none 0 0]) HB4.out 0 _ rfl) 1 _ rfl⟩
                    have HB4':Aside0 ((wr.setCell ⟨w.heap.size+1,0,none⟩ (.slice Aa xa.length ca)).heap[w.heap.size+1]? = some (.cells #[.slice Aa xa.length ca,.slice none 0 0] 27 (0,0))):=⟨blk_put HB4.out 0 _ rfl⟩
                    go_wp2
                    refine bodyPost_ret (results_cell_row rfl _ _ (w.heap.size+1) 27 #[.slice Aa xa.length ca,.slice Ay xy.length cy] (0,0) _ rfl HT4.out Try.underlying27 rfl (by kernel_rfl)) rfl ?_
                    refine ⟨_,_,rfl,?_,?_,below_set (below_set HBW.out (Nat.le_succ _)) (Nat.le_succ _)⟩
                    ·rw [← HXA.out]
                     exact Kd.R_mono (Kd.R_set (Kd.R_set (Kd.R_lower HRA.out HWD.out) HB4.out (by decide) 0 _) HB4'.out (by decide) 1 _) (fun _ _=>trivial)
                    ·rw [← HXY.out]
                     exact Kd.S_mono (Kd.S_set (Kd.S_set (Kd.S_lower HRY.out HWD.out) HB4.out (by decide) 0 _) HB4'.out (by decide) 1 _) (fun _ _=>trivial)
            ·have hcff:=HCFF.out
             rw [if_neg hk] at hcff
             have kq:((ks.length:Int) == (c:Int))=false:=by rw [beq_eq_false_iff_ne];omega
             have HCFF:=am_ hcff
             have HKN:=am_ hk
             clear hcff hk
             go_wp2_with (first | ((with_reducible refine gate_dst (N:=154) rfl ?_);refine wp_len map4 rfl _ rfl _ _ _ HM4.out rfl ?_) | ((with_reducible refine gate_dst (N:=158) rfl ?_);refine wp_len map4 rfl _ rfl _ _ _ HM4.out rfl ?_))
             go_roundg g
             case measure=>omega
             case rel=>exact ⟨nl,ks.length,rfl,HNF,HNB,⟨by have:=HKF.out;omega⟩,⟨by have:=HKF.out;have:=HG.out;have:=HKN.out;omega⟩,HCFF,HCA,HBA2⟩
end Go.Proofs.Ytogamkblkoobkaa.Wk
end
