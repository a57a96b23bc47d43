/- Texts of the proof of FnDivided, put together. No condition. -/
import Derived.Test.YtogamkblkoobkaaQFnDivided2
set_option linter.unusedVariables false
set_option linter.unusedSimpArgs false
section
namespace Go.Proofs.Ytogamkblkoobkaa.Can
open Go.RowKit Go.Proofs.Ytogamkblkoobkaa Go.Proofs.Ytogamkblkoobkaa.Lg Go.Proofs.Ytogamkblkoobkaa.Pl Go.Proofs.Ytogamkblkoobkaa.Mp Go.Proofs.Ytogamkblkoobkaa.Bf Go.Proofs.Ytogamkblkoobkaa.Mn Go.Proofs.YtogamkblkoobkaaW.PrintWords Go.Proofs.YtogamkblkoobkaaW.PrintLast Go.Proofs.YtogamkblkoobkaaW.PrintMore
def Lan:=List (Fin 3)→Bool
noncomputable instance decLan:DecidableEq Lan:=fun _ _=>Classical.propDecidable _
instance:Inhabited Lan:=⟨fun _=>false⟩
def der (L:Lan) (k:Fin 3):Lan:=fun w=>L (k :: w)
def lsucc (L:Lan):List Lan:=[der L 0,der L 1,der L 2]
def eps (L:Lan):Bool:=L []
noncomputable def outL (R:List Lan):List Bool × List (List Int):=(R.map eps,R.map (fun X=>(lsucc X).map (fun Y=>(R.idxOf Y:Int))))
def IsCan (L:Lan) (out:List Bool × List (List Int)):Prop:=∃ R,Runs lsucc [L] 0 R∧out=outL R
theorem IsCan.det {L:Lan} {a b:List Bool × List (List Int)} (h:IsCan L a) (h':IsCan L b):a=b:=by
 obtain ⟨R,hR,rfl⟩:=h
 obtain ⟨R',hR',rfl⟩:=h'
 rw [hR.det hR']
structure Fits (acc:List Bool) (nx:List (List Int)):Prop where
 len:nx.length=acc.length
 row:∀ q:Int,0≤q∧q<(acc.length:Int)→(rowOf nx q).length=3∧∀ x ∈ rowOf nx q,0≤x∧x<(acc.length:Int)
def run (acc:List Bool) (nx:List (List Int)):List (Fin 3)→Int→Bool
 | [],q=>rdOf false acc q
 | k :: w,q=>run acc nx w (rd (rowOf nx q) (k.val:Int))
def lang (acc:List Bool) (nx:List (List Int)) (q:Int):Lan:=fun w=>run acc nx w q
theorem three {r:List Int} (h:r.length=3):r = [rd r 0,rd r 1,rd r 2]:=by
 match r,h with
 | [a,b,c],_=>rfl
theorem succ_lang {acc:List Bool} {nx:List (List Int)} (hf:Fits acc nx) {q:Int} (hq:0≤q∧q<(acc.length:Int)):(rowOf nx q).map (lang acc nx)=lsucc (lang acc nx q):=by
 rw [three (hf.row q hq).1]
 rfl
section
variable {α β:Type} [DecidableEq α] [DecidableEq β]
theorem dd_map2 (f:α→β) (l:List α):dd (l.map f)=dd ((dd l).map f):=(dd_adds f l []).symm
theorem dd_inj (g:α→β) (A:List α) (hg:∀ a ∈ A,∀ b ∈ A,g a=g b→a=b):dd (A.map g)=(dd A).map g:=by
 rw [dd_map2]
 refine dd_id ?_
 rw [List.nodup_iff_pairwise_ne,List.pairwise_map]
 refine (List.nodup_iff_pairwise_ne.mp (dd_nodup A)).imp_of_mem ?_
 intro a b ha hb hne h
 exact hne (hg a (mem_dd.mp ha) b (mem_dd.mp hb) h)
theorem idxOf_inj (g:α→β):∀ (R:List α) (a:α),(∀ b ∈ R,g b=g a→b=a)→(R.map g).idxOf (g a)=R.idxOf a
 | [],a,_=>rfl
 | b :: R,a,h=>by
  rw [List.map_cons,List.idxOf_cons,List.idxOf_cons]
  rw [idxOf_inj g R a (fun c hc=>h c (List.mem_cons_of_mem _ hc))]
  by_cases e:b=a
  ·subst e
   rw [beq_self_eq_true,beq_self_eq_true]
  ·have e2:g b ≠ g a:=fun h2=>e (h b List.mem_cons_self h2)
   rw [beq_eq_false_iff_ne.mpr e,beq_eq_false_iff_ne.mpr e2]
theorem nodup_of_dd:∀ (l:List α),(dd l).length=l.length→l.Nodup:=by
 intro l
 suffices H:∀ (m k:List α),(adds k m).length=k.length+m.length→m.Nodup∧∀ x ∈ m,x ∉ k by
  intro h
  exact (H l [] (by simpa [dd] using h)).1
 intro m
 induction m with
 | nil=>intro k _;simp
 | cons y m ih =>
  intro k hk
  rw [adds_cons] at hk
  have hle:∀ (m k:List α),(adds k m).length≤k.length+m.length:=by
   intro m
   induction m with
   | nil=>intro k;simp [adds_nil]
   | cons z m ih2 =>
    intro k
    rw [adds_cons]
    have:=ih2 (add k z)
    have h2:(add k z).length≤k.length+1:=by unfold add;split <;> simp
    simp only [List.length_cons]
    omega
  by_cases hy:y ∈ k
  ·rw [add_in hy] at hk
   have:=hle m k
   simp only [List.length_cons] at hk
   omega
  ·rw [add_out hy] at hk
   obtain ⟨h1,h2⟩:=ih (k ++ [y]) (by rw [hk];simp;omega)
   refine ⟨List.nodup_cons.mpr ⟨fun hm=>h2 y hm (by simp),h1⟩,fun x hx=>?_⟩
   rcases List.mem_cons.mp hx with rfl | hx
   ·exact hy
   ·exact fun hk=>h2 x hx (by simp [hk])
theorem inj_of_len (f:α→β) (K:List α) (h:(dd (K.map f)).length=(dd K).length):∀ a ∈ K,∀ b ∈ K,f a=f b→a=b:=by
 rw [dd_map2] at h
 have h2:=nodup_of_dd ((dd K).map f) (by rw [h,List.length_map])
 intro a ha b hb hab
 obtain ⟨i,hi,rfl⟩:=List.mem_iff_getElem.mp (mem_dd.mpr ha)
 obtain ⟨j,hj,rfl⟩:=List.mem_iff_getElem.mp (mem_dd.mpr hb)
 have e1:=h2.idxOf_getElem i (by simpa using hi)
 have e2:=h2.idxOf_getElem j (by simpa using hj)
 rw [List.getElem_map] at e1 e2
 rw [hab,e2] at e1
 subst e1
 rfl
end
def Cf (os cl:List Int) (x:Int):Int:=rd cl (pl os x)
theorem pl_at {os:List Int} (hn:os.Nodup) (i:Nat) (hi:i<os.length):pl os os[i]=(i:Int):=by
 have hm:os[i] ∈ os:=List.getElem_mem hi
 show (idx os os[i]).getD 0=_
 rw [← idx_val hm,hn.idxOf_getElem]
theorem Cf_at {os cl:List Int} (hn:os.Nodup) (hl:cl.length=os.length) (i:Nat) (hi:i<os.length):Cf os cl os[i]=cl[i]:=by
 unfold Cf
 rw [pl_at hn i hi,rd_get cl i (by omega)]
theorem cl_map {os cl:List Int} (hn:os.Nodup) (hl:cl.length=os.length):os.map (Cf os cl)=cl:=by
 apply List.ext_getElem
 ·simp [hl]
 ·intro i h1 h2
  rw [List.getElem_map,Cf_at hn hl]
def Kx (l1:List (List Int)) (os cl:List Int) (x:Int):K4:=(Cf os cl x,Cf os cl (rd (rowOf l1 x) 0),Cf os cl (rd (rowOf l1 x) 1),Cf os cl (rd (rowOf l1 x) 2))
theorem keys_map {l1:List (List Int)} {os cl:List Int} (hn:os.Nodup) (hl:cl.length=os.length):keys l1 os cl=os.map (Kx l1 os cl):=by
 apply List.ext_getElem
 ·simp [keys]
 ·intro i h1 h2
  have hi:i<os.length:=by simpa [keys] using h1
  simp only [keys,List.getElem_map,List.getElem_range,keyAt,Kx]
  rw [Cf_at hn hl i hi]
  simp only [List.getD_eq_getElem?_getD,List.getElem?_eq_getElem hi,List.getElem?_eq_getElem (show i<cl.length by omega),Option.getD_some]
  rfl
def nmOf {α:Type} [DecidableEq α] (D:List α) (k:α):Int:=(D.idxOf k:Int)
theorem nm_snd {α:Type} [DecidableEq α] (K:List α):(nmF K [] []).2=K.map (nmOf (dd K)):=by rw [nm_eq];rfl
theorem nm_fst {α:Type} [DecidableEq α] (K:List α):(nmF K [] []).1=dd K:=by rw [nm_eq]
theorem idxOf_eq_iff {α:Type} [DecidableEq α] {l:List α} {a b:α} (ha:a ∈ l) (hb:b ∈ l):l.idxOf a=l.idxOf b↔a=b:=by
 constructor
 ·intro h
  have h1:=List.getElem_idxOf (List.idxOf_lt_length_of_mem ha)
  have h2:=List.getElem_idxOf (List.idxOf_lt_length_of_mem hb)
  rw [← h1,← h2]
  congr 1
 ·rintro rfl;rfl
theorem nmOf_iff {α:Type} [DecidableEq α] {l:List α} {a b:α} (ha:a ∈ l) (hb:b ∈ l):nmOf l a=nmOf l b↔a=b:=by
 rw [← idxOf_eq_iff ha hb]
 unfold nmOf
 omega
theorem Cf_next {l1:List (List Int)} {os cl:List Int} (hn:os.Nodup) (hl:cl.length=os.length) {x:Int} (hx:x ∈ os):Cf os (nmF (keys l1 os cl) [] []).2 x=nmOf (dd (os.map (Kx l1 os cl))) (Kx l1 os cl x):=by
 obtain ⟨i,hi,rfl⟩:=List.mem_iff_getElem.mp hx
 rw [Cf_at hn (by rw [nm_snd];simp [keys]) i hi]
 simp only [nm_snd,keys_map hn hl,List.getElem_map]
theorem next_iff {l1:List (List Int)} {os cl:List Int} (hn:os.Nodup) (hl:cl.length=os.length) {x y:Int} (hx:x ∈ os) (hy:y ∈ os) :
  Cf os (nmF (keys l1 os cl) [] []).2 x=Cf os (nmF (keys l1 os cl) [] []).2 y↔Kx l1 os cl x=Kx l1 os cl y:=by
 rw [Cf_next hn hl hx,Cf_next hn hl hy]
 exact nmOf_iff (mem_dd.mpr (List.mem_map_of_mem hx)) (mem_dd.mpr (List.mem_map_of_mem hy))
theorem ref_good {acc:List Bool} {l1:List (List Int)} {os:List Int} (hf:Fits acc l1) (hn:os.Nodup) (hpos:1≤os.length) (hdom:∀ x ∈ os,0≤x∧x<(acc.length:Int)) (hcl:∀ x ∈ os,∀ y ∈ rowOf l1 x,y ∈ os) :
  ∀ (d:Nat) (cl:List Int) (c:Nat),cl.length=os.length→(∀ x ∈ os,∀ y ∈ os,lang acc l1 x=lang acc l1 y→Cf os cl x=Cf os cl y)→(∀ x ∈ os,∀ y ∈ os,Cf os cl x=Cf os cl y→rdOf false acc x=rdOf false acc y) →
   (c=0∨c=(dd cl).length)→os.length+2≤d+c→∀ cf,refF l1 os d cl c=cf→cf.length=os.length∧∀ x ∈ os,∀ y ∈ os,(Cf os cf x=Cf os cf y↔lang acc l1 x=lang acc l1 y):=by
 intro d
 induction d with
 | zero =>
  intro cl c hl h1 h2 hc hd cf
  have:=dd_len_le cl
  omega
 | succ d ih =>
  intro cl c hl h1 h2 hc hd cf hcf
  have mem3:∀ x ∈ os,rd (rowOf l1 x) 0 ∈ os∧rd (rowOf l1 x) 1 ∈ os∧rd (rowOf l1 x) 2 ∈ os:=fun x hx=>by
   have h3:=three (hf.row x (hdom x hx)).1
   have:=hcl x hx
   rw [h3] at this
   exact ⟨this _ (by simp),this _ (by simp),this _ (by simp)⟩
  have g1:∀ x ∈ os,∀ y ∈ os,lang acc l1 x=lang acc l1 y→Cf os (nmF (keys l1 os cl) [] []).2 x=Cf os (nmF (keys l1 os cl) [] []).2 y:=fun x hx y hy h=>by
   rw [next_iff hn hl hx hy]
   unfold Kx
   rw [h1 x hx y hy h,h1 _ (mem3 x hx).1 _ (mem3 y hy).1 (congrArg (fun L=>der L 0) h),h1 _ (mem3 x hx).2.1 _ (mem3 y hy).2.1 (congrArg (fun L=>der L 1) h),h1 _ (mem3 x hx).2.2 _ (mem3 y hy).2.2 (congrArg (fun L=>der L 2) h)]
  have g2:∀ x ∈ os,∀ y ∈ os,Cf os (nmF (keys l1 os cl) [] []).2 x=Cf os (nmF (keys l1 os cl) [] []).2 y→rdOf false acc x=rdOf false acc y:=fun x hx y hy h=>by
   rw [next_iff hn hl hx hy] at h
   exact h2 x hx y hy (congrArg (fun k:K4=>k.1) h)
  have gl:(nmF (keys l1 os cl) [] []).2.length=os.length:=by rw [nm_snd];simp [keys]
  have hK1:(nmF (keys l1 os cl) [] []).1.length=(dd (os.map (Kx l1 os cl))).length:=by rw [nm_fst,keys_map hn hl]
  rw [refF] at hcf
  by_cases he:(nmF (keys l1 os cl) [] []).1.length=c
  ·rw [if_pos he] at hcf
   subst hcf
   refine ⟨gl,fun x hx y hy=>⟨fun h=>?_,g1 x hx y hy⟩⟩
   have hpos2:0<(dd (os.map (Kx l1 os cl))).length:=by
    have:os ≠ []:=fun e=>by rw [e] at hpos;simp at hpos
    obtain ⟨a,ha⟩:=List.exists_mem_of_ne_nil os this
    exact List.length_pos_of_mem (mem_dd.mpr (List.mem_map_of_mem ha))
   have hcd:c=(dd cl).length:=by
    rcases hc with hc | hc
    ·omega
    ·exact hc
   have hfst:(os.map (Kx l1 os cl)).map (fun k:K4=>k.1)=cl:=by
    rw [List.map_map]
    exact cl_map hn hl
   have hinj:=inj_of_len (fun k:K4=>k.1) (os.map (Kx l1 os cl)) (by rw [hfst];omega)
   have hst:∀ x ∈ os,∀ y ∈ os,Cf os cl x=Cf os cl y→Kx l1 os cl x=Kx l1 os cl y:=fun x hx y hy h=>hinj _ (List.mem_map_of_mem hx) _ (List.mem_map_of_mem hy) h
   have hrun:∀ w:List (Fin 3),∀ x ∈ os,∀ y ∈ os,Cf os cl x=Cf os cl y→run acc l1 w x=run acc l1 w y:=by
    intro w
    induction w with
    | nil=>exact h2
    | cons k w ihw =>
     intro x hx y hy hxy
     have hk:=hst x hx y hy hxy
     unfold Kx at hk
     injection hk with _ hk
     injection hk with hk0 hk
     injection hk with hk1 hk2
     match k with
     | 0=>exact ihw _ (mem3 x hx).1 _ (mem3 y hy).1 hk0
     | 1=>exact ihw _ (mem3 x hx).2.1 _ (mem3 y hy).2.1 hk1
     | 2=>exact ihw _ (mem3 x hx).2.2 _ (mem3 y hy).2.2 hk2
   rw [next_iff hn hl hx hy] at h
   have h0:Cf os cl x=Cf os cl y:=congrArg (fun k:K4=>k.1) h
   exact funext fun w=>hrun w x hx y hy h0
  ·rw [if_neg he] at hcf
   have hmore:=keys_more (l1:=l1) hl
   rw [keys_map hn hl] at hmore
   have hlen2:(nmF (keys l1 os cl) [] []).1.length=(dd (nmF (keys l1 os cl) [] []).2).length:=by rw [nm_classes,nm_fst]
   refine ih _ _ gl g1 g2 (Or.inr hlen2) ?_ cf hcf
   rcases hc with hc | hc
   ·have hpos2:0<(dd (os.map (Kx l1 os cl))).length:=by
     have:os ≠ []:=fun e=>by rw [e] at hpos;simp at hpos
     obtain ⟨a,ha⟩:=List.exists_mem_of_ne_nil os this
     exact List.length_pos_of_mem (mem_dd.mpr (List.mem_map_of_mem ha))
    omega
   ·omega
theorem card_n (n:Nat) (s:List Int) (hn:s.Nodup) (h:∀ x ∈ s,0≤x∧x<n):s.length≤n:=by
 have:=nodup_len s ((List.range n).map fun (i:Nat)=>(i:Int)) hn (fun x hx=>by
  have:=h x hx
  exact List.mem_map.mpr ⟨x.toNat,List.mem_range.mpr (by omega),by omega⟩)
 simpa using this
theorem ord_runs {acc:List Bool} {l1:List (List Int)} (hf:Fits acc l1):∀ (d:Nat) (L:List Int) (i:Nat),L.Nodup→(∀ x ∈ L,0≤x∧x<(acc.length:Int))→acc.length≤d+i→Runs (rowOf l1) L i (ordF l1 d L i)
 | 0,L,i,hn,ha,hd=>.stop (by have:=card_n acc.length L hn ha;omega)
 | d+1,L,i,hn,ha,hd=>by
  rw [ordF]
  by_cases h:i<L.length
  ·rw [dif_pos h]
   refine .step h (ord_runs hf d _ _ (nodup_adds _ hn) (fun x hx=>?_) (by omega))
   rcases mem_adds.mp hx with q | q
   ·exact ha x q
   ·exact (hf.row _ (ha _ (List.getElem_mem h))).2 x q
  ·rw [dif_neg h]
   exact .stop (by omega)
theorem ld_good (cl:List Int):∀ (m:List Int) (i:Nat) (ns ls:List Int),m=cl.drop i→ns=dd (cl.take i)→ls.map (rd cl)=ns→(∀ x ∈ ls,0≤x∧x<(cl.length:Int)) →
  (ldF m i ns ls).1=dd cl∧(ldF m i ns ls).2.map (rd cl)=dd cl∧∀ x ∈ (ldF m i ns ls).2,0≤x∧x<(cl.length:Int)
 | [],i,ns,ls,hm,hns,hls,hb=>by
  have hi:cl.length≤i:=by
   have:=congrArg List.length hm
   simp only [List.length_nil,List.length_drop] at this
   omega
  rw [List.take_of_length_le hi] at hns
  rw [ldF,← hns]
  exact ⟨rfl,hls,hb⟩
 | c :: m,i,ns,ls,hm,hns,hls,hb=>by
  have hi:i<cl.length:=by
   have:=congrArg List.length hm
   simp only [List.length_cons,List.length_drop] at this
   omega
  rw [List.drop_eq_getElem_cons hi] at hm
  injection hm with hc hm
  have ht:dd (cl.take (i+1))=add ns c:=by rw [List.take_succ_eq_append_getElem hi,dd_snoc,← hns,hc]
  rw [ldF]
  by_cases h:c ∈ ns
  ·rw [if_pos h]
   exact ld_good cl m (i+1) ns ls hm (by rw [ht,add_in h]) hls hb
  ·rw [if_neg h]
   refine ld_good cl m (i+1) _ _ hm (by rw [ht,add_out h]) ?_ ?_
   ·rw [List.map_append,hls,List.map_singleton,rd_get cl i hi,hc]
   ·intro x hx
    rcases List.mem_append.mp hx with q | q
    ·exact hb x q
    ·rw [List.mem_singleton] at q;subst q;omega
theorem min_can {acc:List Bool} {l1:List (List Int)} (hf:Fits acc l1) {st:Int} (hst:0≤st∧st<(acc.length:Int)):IsCan (lang acc l1 st) (minD acc l1 st):=by
 have h0:∀ x ∈ [st],0≤x∧x<(acc.length:Int):=fun x hx=>by rw [List.mem_singleton] at hx;subst hx;exact hst
 have hR:=ord_runs hf (acc.length+2) [st] 0 (by simp) h0 (by omega)
 unfold minD minT
 generalize ordF l1 (acc.length+2) [st] 0=os at hR
 have hn:os.Nodup:=hR.nodup (by simp)
 have hdom:=hR.all (p:=fun x=>0≤x∧x<(acc.length:Int)) (fun x hx y hy=>(hf.row x hx).2 y hy) h0
 have hcl:=hR.closed (fun j _ hj=>by omega)
 have hpos:1≤os.length:=hR.pre.length_le
 have hcan:=hR.map0 (dom:=fun x=>0≤x∧x<(acc.length:Int)) (succ':=lsucc) (f:=lang acc l1) (fun x hx y hy=>(hf.row x hx).2 y hy) (fun x hx=>succ_lang hf hx) hst
 have hl0:(os.map (cls0 acc)).length=os.length:=by simp
 have hc0:∀ x ∈ os,Cf os (os.map (cls0 acc)) x=cls0 acc x:=fun x hx=>by
  obtain ⟨i,hi,rfl⟩:=List.mem_iff_getElem.mp hx
  rw [Cf_at hn hl0 i hi,List.getElem_map]
 obtain ⟨hcl2,hiff⟩:=ref_good hf hn hpos hdom hcl (os.length+2) (os.map (cls0 acc)) 0 hl0 (fun x hx y hy h=>by
  rw [hc0 x hx,hc0 y hy]
  have:rdOf false acc x=rdOf false acc y:=congrFun h []
  unfold cls0
  rw [this]) (fun x hx y hy h=>by
  rw [hc0 x hx,hc0 y hy] at h
  unfold cls0 at h
  cases hx:rdOf false acc x <;> cases hy:rdOf false acc y <;> simp [hx,hy] at h ⊢) (Or.inl rfl) (by omega) _ rfl
 generalize refF l1 os (os.length+2) (os.map (cls0 acc)) 0=cf at hcl2 hiff
 obtain ⟨e1,e2,e3⟩:=ld_good cf cf 0 [] [] rfl rfl rfl (fun x hx=>by cases hx)
 unfold outD
 generalize hns:(ldF cf 0 [] []).1=ns at e1
 generalize hls:(ldF cf 0 [] []).2=ls at e2 e3
 have hg:∃ g:Int→Lan,∀ x ∈ os,g (Cf os cf x)=lang acc l1 x:=by
  refine ⟨fun c=>lang acc l1 (rd os ((cf.idxOf c:Nat):Int)),fun x hx=>?_⟩
  obtain ⟨i,hi,rfl⟩:=List.mem_iff_getElem.mp hx
  rw [Cf_at hn hcl2 i hi]
  have hm:cf[i] ∈ cf:=List.getElem_mem (by omega)
  have hlt:=List.idxOf_lt_length_of_mem hm
  have hat:cf[cf.idxOf cf[i]]=cf[i]:=List.getElem_idxOf hlt
  show lang acc l1 (rd os ((cf.idxOf cf[i]:Nat):Int))=_
  rw [rd_get os _ (by omega)]
  refine (hiff _ (List.getElem_mem _) _ (List.getElem_mem hi)).mp ?_
  rw [Cf_at hn hcl2,Cf_at hn hcl2 i hi,hat]
 obtain ⟨g,hg⟩:=hg
 have hgc:cf.map g=os.map (lang acc l1):=by
  conv=>lhs;rw [← cl_map hn hcl2]
  rw [List.map_map]
  exact List.map_congr_left fun x hx=>hg x hx
 have hmem:∀ c ∈ cf,∃ x ∈ os,c=Cf os cf x:=fun c hc=>by
  rw [← cl_map hn hcl2] at hc
  obtain ⟨x,hx,rfl⟩:=List.mem_map.mp hc
  exact ⟨x,hx,rfl⟩
 have hinj:∀ a ∈ cf,∀ b ∈ cf,g a=g b→a=b:=fun a ha b hb h=>by
  obtain ⟨x,hx,rfl⟩:=hmem a ha
  obtain ⟨y,hy,rfl⟩:=hmem b hb
  rw [hg x hx,hg y hy] at h
  exact (hiff x hx y hy).mpr h
 have hdd:dd (os.map (lang acc l1))=(dd cf).map g:=by rw [← hgc];exact dd_inj g cf hinj
 have hgi:∀ i ∈ ls,rd os i ∈ os∧g (rd cf i)=lang acc l1 (rd os i):=fun i hi=>by
  have hb:=e3 i hi
  have ht:i.toNat<os.length:=by omega
  have h1:=rd_get os i.toNat ht
  have h2:=rd_get cf i.toNat (by omega)
  rw [Int.toNat_of_nonneg hb.1] at h1 h2
  rw [h1,h2,← Cf_at hn hcl2 i.toNat ht]
  exact ⟨List.getElem_mem ht,hg _ (List.getElem_mem ht)⟩
 have hR2:dd (os.map (lang acc l1))=ls.map (fun i=>lang acc l1 (rd os i)):=by
  rw [hdd,← e2,List.map_map]
  exact List.map_congr_left fun i hi=>(hgi i hi).2
 refine ⟨_,hcan,?_⟩
 unfold outL
 refine Prod.ext ?_ ?_
 ·show ls.map _=_
  rw [hR2,List.map_map]
  rfl
 ·have hh:∀ F:Lan→List Int,(dd (os.map (lang acc l1))).map F=ls.map (fun i=>F (lang acc l1 (rd os i))):=fun F=>by rw [hR2,List.map_map];rfl
  show ls.map (outRow l1 os cf ns)=(dd (os.map (lang acc l1))).map _
  rw [hh]
  refine List.map_congr_left fun i hi=>?_
  have hx:=(hgi i hi).1
  show outRow l1 os cf ns i=(lsucc (lang acc l1 (rd os i))).map _
  rw [← succ_lang hf (hdom _ hx),List.map_map]
  unfold outRow
  refine List.map_congr_left fun y hy=>?_
  have hyo:=hcl _ hx y hy
  show (idx ns (Cf os cf y)).getD 0=((dd (os.map (lang acc l1))).idxOf (lang acc l1 y):Int)
  have hcm:Cf os cf y ∈ cf:=by
   have h1:Cf os cf y ∈ os.map (Cf os cf):=List.mem_map_of_mem hyo
   rw [cl_map hn hcl2] at h1
   exact h1
  rw [e1,← idx_val (mem_dd.mpr hcm),hdd,← hg y hyo,idxOf_inj g (dd cf) _ (fun b hb h=>hinj b (mem_dd.mp hb) _ hcm h)]
def trunc (r:Nat) (L:Lan):Lan:=fun w=>if w.length≤r then L w else false
theorem trunc_trunc (r:Nat) (L:Lan):trunc r (trunc (r+1) L)=trunc r L:=by
 funext w
 unfold trunc
 by_cases h:w.length≤r
 ·rw [if_pos h,if_pos h,if_pos (by omega)]
 ·rw [if_neg h,if_neg h]
theorem trunc_zero {L M:Lan}:trunc 0 L=trunc 0 M↔eps L=eps M:=by
 constructor
 ·intro h
  exact congrFun h []
 ·intro h
  funext w
  unfold trunc
  by_cases hw:w.length≤0
  ·rw [if_pos hw,if_pos hw]
   have:w = []:=List.length_eq_zero_iff.mp (by omega)
   subst this
   exact h
  ·rw [if_neg hw,if_neg hw]
theorem trunc_succ {r:Nat} {L M:Lan}:trunc (r+1) L=trunc (r+1) M↔eps L=eps M∧∀ k,trunc r (der L k)=trunc r (der M k):=by
 constructor
 ·intro h
  refine ⟨congrFun h [],fun k=>funext fun w=>?_⟩
  have:=congrFun h (k :: w)
  unfold trunc at this ⊢
  by_cases hw:w.length≤r
  ·rw [if_pos (by simp;omega),if_pos (by simp;omega)] at this
   rw [if_pos hw,if_pos hw]
   exact this
  ·rw [if_neg hw,if_neg hw]
 ·rintro ⟨h0,h⟩
  funext w
  cases w with
  | nil=>exact h0
  | cons k w =>
   have:=congrFun (h k) w
   unfold trunc at this ⊢
   by_cases hw:w.length≤r
   ·rw [if_pos hw,if_pos hw] at this
    rw [if_pos (by simp;omega),if_pos (by simp;omega)]
    exact this
   ·rw [if_neg (by simp;omega),if_neg (by simp;omega)]
theorem lan_of_trunc {L M:Lan} (h:∀ r,trunc r L=trunc r M):L=M:=by
 funext w
 have:=congrFun (h w.length) w
 unfold trunc at this
 rw [if_pos (Nat.le_refl _),if_pos (Nat.le_refl _)] at this
 exact this
section
variable {acc:List Bool} {nx:List (List Int)}
def sig (acc:List Bool) (nx:List (List Int)) (r:Nat) (q:Int):Lan:=trunc r (lang acc nx q)
theorem sig_zero {p q:Int}:sig acc nx 0 p=sig acc nx 0 q↔rdOf false acc p=rdOf false acc q:=trunc_zero
theorem sig_succ {r:Nat} {p q:Int}:sig acc nx (r+1) p=sig acc nx (r+1) q↔rdOf false acc p=rdOf false acc q∧∀ k:Fin 3,sig acc nx r (rd (rowOf nx p) (k.val:Int))=sig acc nx r (rd (rowOf nx q) (k.val:Int)):=trunc_succ
theorem sig_down {r:Nat} {p q:Int} (h:sig acc nx (r+1) p=sig acc nx (r+1) q):sig acc nx r p=sig acc nx r q:=by
 have:=congrArg (trunc r) h
 unfold sig at this ⊢
 rw [trunc_trunc,trunc_trunc] at this
 exact this
def states (n:Nat):List Int:=(List.range n).map fun (i:Nat)=>(i:Int)
theorem mem_states {n:Nat} {q:Int}:q ∈ states n↔0≤q∧q<(n:Int):=by
 unfold states
 rw [List.mem_map]
 constructor
 ·rintro ⟨i,hi,rfl⟩
  rw [List.mem_range] at hi
  omega
 ·intro h
  exact ⟨q.toNat,List.mem_range.mpr (by omega),by omega⟩
theorem rd_mem {r:List Int} (h:r.length=3) (k:Fin 3):rd r (k.val:Int) ∈ r:=by
 rw [rd_get r k.val (by omega)]
 exact List.getElem_mem _
theorem sig_stable (hf:Fits acc nx) {r:Nat} (h:∀ p ∈ states acc.length,∀ q ∈ states acc.length,sig acc nx r p=sig acc nx r q→sig acc nx (r+1) p=sig acc nx (r+1) q) :
  ∀ d:Nat,∀ p ∈ states acc.length,∀ q ∈ states acc.length,sig acc nx r p=sig acc nx r q→sig acc nx (r+d) p=sig acc nx (r+d) q:=by
 have hstep:∀ d:Nat,∀ p ∈ states acc.length,∀ q ∈ states acc.length,sig acc nx (r+d) p=sig acc nx (r+d) q→sig acc nx (r+d+1) p=sig acc nx (r+d+1) q:=by
  intro d
  induction d with
  | zero=>exact h
  | succ d ih =>
   intro p hp q hq hpq
   rw [sig_succ]
   have h1:=sig_succ.mp hpq
   refine ⟨h1.1,fun k=>?_⟩
   have hp3:=hf.row p (mem_states.mp hp)
   have hq3:=hf.row q (mem_states.mp hq)
   exact ih _ (mem_states.mpr (hp3.2 _ (rd_mem hp3.1 k))) _ (mem_states.mpr (hq3.2 _ (rd_mem hq3.1 k))) (h1.2 k)
 intro d
 induction d with
 | zero=>exact fun p hp q hq h=>h
 | succ d ih=>exact fun p hp q hq h=>hstep d p hp q hq (ih p hp q hq h)
theorem sig_all (hf:Fits acc nx) {m:Nat} (hm:acc.length≤m) {p q:Int} (hp:0≤p∧p<(acc.length:Int)) (hq:0≤q∧q<(acc.length:Int)):sig acc nx m p=sig acc nx m q↔lang acc nx p=lang acc nx q:=by
 constructor
 ·intro h
  have hex:∃ r,r≤m∧∀ p ∈ states acc.length,∀ q ∈ states acc.length,sig acc nx r p=sig acc nx r q→sig acc nx (r+1) p=sig acc nx (r+1) q:=by
   refine Classical.byContradiction fun hno=>?_
   have hlt:∀ r,r≤m→(dd ((states acc.length).map (sig acc nx r))).length<(dd ((states acc.length).map (sig acc nx (r+1)))).length:=by
    intro r hr
    have e:(states acc.length).map (sig acc nx r)=((states acc.length).map (sig acc nx (r+1))).map (trunc r):=by
     rw [List.map_map]
     exact List.map_congr_left fun x _=>(trunc_trunc r (lang acc nx x)).symm
    have hle:=dd_map_le (trunc r) ((states acc.length).map (sig acc nx (r+1)))
    rw [← e] at hle
    refine Nat.lt_of_le_of_ne hle fun heq=>hno ⟨r,hr,fun p hp q hq hpq=>?_⟩
    refine inj_of_len (trunc r) _ (by rw [← e];exact heq) _ (List.mem_map_of_mem hp) _ (List.mem_map_of_mem hq) ?_
    show trunc r (trunc (r+1) _)=trunc r (trunc (r+1) _)
    rw [trunc_trunc,trunc_trunc]
    exact hpq
   have hge:∀ r,r≤m+1→r≤(dd ((states acc.length).map (sig acc nx r))).length:=by
    intro r
    induction r with
    | zero=>intro _;exact Nat.zero_le _
    | succ r ih =>
     intro hr
     have:=hlt r (by omega)
     have:=ih (by omega)
     omega
   have h1:=hge (m+1) (Nat.le_refl _)
   have h2:=dd_len_le ((states acc.length).map (sig acc nx (m+1)))
   have h3:((states acc.length).map (sig acc nx (m+1))).length=acc.length:=by simp [states]
   omega
  obtain ⟨r,hr,hst⟩:=hex
  have h0:sig acc nx r p=sig acc nx r q:=by
   obtain ⟨d,rfl⟩:∃ d,m=r+d:=⟨m - r,by omega⟩
   clear hst hr hm
   induction d with
   | zero=>exact h
   | succ d ih=>exact ih (sig_down h)
  refine lan_of_trunc fun s=>?_
  have h1:=sig_stable hf hst s p (mem_states.mpr hp) q (mem_states.mpr hq) h0
  have hdown:∀ d t:Nat,sig acc nx (t+d) p=sig acc nx (t+d) q→sig acc nx t p=sig acc nx t q:=by
   intro d
   induction d with
   | zero=>exact fun t h=>h
   | succ d ih=>exact fun t h=>ih t (sig_down h)
  exact hdown r s (by rw [Nat.add_comm];exact h1)
 ·intro h
  unfold sig
  rw [h]
end
end Go.Proofs.Ytogamkblkoobkaa.Can
end
section
namespace Go.Proofs.Ytogamkblkoobkaa.P
open Go.RowKit Go.Proofs.YtogamkblkoobkaaW.PrintWords Go.Proofs.YtogamkblkoobkaaW.PrintLast Go.Proofs.YtogamkblkoobkaaW.PrintMore
attribute [local go_sem] max2_int min2_int max_two min_two max_three min_three max_four min_four
def spec_l5Find.l0:Nat→List Int→Int→Int→Option (Int)
 | 0,_,_,_=>none
 | k+1,x0,x1,x5=>if x5<(x0.length:Int) then (if 0≤x5 then (if (rd x0 x5)=x1 then (some x5) else (spec_l5Find.l0 k x0 x1 (wrap64 (x5+1)))) else (none)) else (some (-1))
def spec_l5Find.f (k:Nat) (l0:List Int) (a1:Int):Option (Int):=spec_l5Find.l0 k l0 a1 0
theorem spec_l5Find.mono_l:∀ k,(∀ y0 y1 y2,LeO (spec_l5Find.l0 k y0 y1 y2) (spec_l5Find.l0 (k+1) y0 y1 y2))
 | 0=>fun _ _ _ r h=>by simp [spec_l5Find.l0] at h
 | k+1=>by
  have ih0:=spec_l5Find.mono_l k
  ·intro y0 y1 y2
   unfold spec_l5Find.l0
   repeat' first
   | (with_reducible exact ih0 _ _ _)
   | (with_reducible exact LeO.refl _)
   | (with_reducible exact LeO.none _)
   | (with_reducible refine LeO.ite ?_ ?_)
   | (with_reducible refine LeO.bind ?_ (fun _=>?_))
   | exact ih0 _ _ _
   | exact LeO.none _
   | refine LeO.ite ?_ ?_
   | refine LeO.bind ?_ (fun _=>?_)
theorem spec_l5Find.mono:∀ a0 a1 k,LeO (spec_l5Find.f k a0 a1) (spec_l5Find.f (k+1) a0 a1):=by
 intro a0 a1 k
 have ih0:=spec_l5Find.mono_l k
 unfold spec_l5Find.f
 repeat' first
  | (with_reducible exact ih0 _ _ _)
  | (with_reducible exact LeO.refl _)
  | (with_reducible exact LeO.none _)
  | (with_reducible refine LeO.ite ?_ ?_)
  | (with_reducible refine LeO.bind ?_ (fun _=>?_))
  | exact ih0 _ _ _
  | exact LeO.none _
  | refine LeO.ite ?_ ?_
  | refine LeO.bind ?_ (fun _=>?_)
set_option maxHeartbeats 8000000 in
set_option maxRecDepth 100000 in
theorem spec_l5Find.calls (k:Nat) (A0:Option Addr) (c0:Nat) (l0:List Int) (a1:Int) (r:Int) (w:World) (hr0:Kd.C (Kd.int .i64) w A0 l0.length l0) (hc0:l0.length≤c0) (h:spec_l5Find.f k l0 a1=some r) :
  Calls Try.prog 63 #[.slice A0 l0.length c0,.int .i64 a1] w fun e w'=>e = .returned (.int .i64 r)∧Drawn0 w w':=by
 have HR0:=am_ hr0
 have HC0:=am_ hc0
 clear hr0 hc0
 have H:(spec_l5Find.l0 k l0 a1 0)=some r:=h
 clear h
 have H':=am_ H
 clear H
 go_enter Try.func63,Try.ntmps63
 go_wp2
 go_loopg [5] k (fun kq v5 w'=>∃ (af:Int),v5 = .int .i64 af∧Aside0 (spec_l5Find.l0 kq l0 a1 af=some r)∧Aside0 (kq≤k)∧Drawn0 w w')
 case atStart=>exact ⟨(0),(by first | rfl | (simp;done) | (simp [*];done)),H',⟨Nat.le_refl _⟩,by repeat (first | exact Drawn0.refl _ | apply Drawn0.step)⟩
 case round =>
  clear H'
  try clear p2
  obtain ⟨af,rfl,HA,HK1,⟨m1,rfl⟩⟩:=hrel
  cases gk with
  | zero=>exact absurd HA.out (by simp [spec_l5Find.l0])
  | succ k1 =>
   have H:=HA.out
   clear HA
   simp only [spec_l5Find.l0] at H
   by_cases c3:af<(l0.length:Int)
   ·rw [if_pos c3] at H
    have c3b0:decide (af<(l0.length:Int))=true:=decide_eq_true c3
    clear c3
    by_cases c4:0≤af
    ·rw [if_pos c4] at H
     have c4b0:decide (0≤af)=true:=decide_eq_true c4
     clear c4
     by_cases c5:(rd l0 af)=a1
     ·rw [if_pos c5] at H
      have c5b0:((rd l0 af) == a1)=true:=beq_iff_eq.mpr c5
      have c5b1:((rd l0 af) != a1)=false:=bne_eq_false_iff_eq.mpr c5
      clear c5
      obtain rfl:=Option.some.inj H
      simp only [Option.some.injEq,Prod.mk.injEq] at H
      obtain ⟨rfl⟩:=H
      have p136:0≤(af:Int):=of_decide_eq_true ah_
      have q136:af<(l0.length:Int):=of_decide_eq_true ah_
      obtain ⟨aA,e136,ax⟩:=Kd.at_int HR0.out af p136 q136
      cases e136
      replace p136:=eq_true p136
      replace q136:=eq_true q136
      go_wp2
      go_ret
      exact ⟨by first | rfl | (simp;done) | (simp [*];done),by repeat (first | exact Drawn0.refl _ | apply Drawn0.step)⟩
     ·rw [if_neg c5] at H
      have c5b0:((rd l0 af) == a1)=false:=beq_eq_false_iff_ne.mpr c5
      have c5b1:((rd l0 af) != a1)=true:=bne_iff_ne.mpr c5
      have H':=am_ H
      clear H
      have p136:0≤(af:Int):=of_decide_eq_true ah_
      have q136:af<(l0.length:Int):=of_decide_eq_true ah_
      obtain ⟨aA,e136,ax⟩:=Kd.at_int HR0.out af p136 q136
      cases e136
      replace p136:=eq_true p136
      replace q136:=eq_true q136
      go_wp2
      go_roundg k1
      case measure=>have:=HK1.out;omega
      case rel=>exact ⟨(wrap64 (af+1)),(by first | rfl | (simp;done) | (simp [*];done)),H',⟨by have:=HK1.out;omega⟩,by repeat (first | exact Drawn0.refl _ | apply Drawn0.step)⟩
    ·rw [if_neg c4] at H
     exact absurd H (by simp)
   ·rw [if_neg c3] at H
    have c3b0:decide (af<(l0.length:Int))=false:=decide_eq_false c3
    clear c3
    obtain rfl:=Option.some.inj H
    simp only [Option.some.injEq,Prod.mk.injEq] at H
    obtain ⟨rfl⟩:=H
    go_wp2
    go_ret
    exact ⟨by first | rfl | (simp;done) | (simp [*];done),by repeat (first | exact Drawn0.refl _ | apply Drawn0.step)⟩
def spec_l5Same.l0:Nat→List Int→Int→Int→Bool→Int→List Bool→List (List Int)→Option (Bool)
 | 0,_,_,_,_,_,_,_=>none
 | k+1,x1,x2,x3,x9,x10,ar,ab=>if x10<3 then (if x9=true then (if 0≤x2 then (if x2<(ab.length:Int) then (if 0≤x10 then (if x10<((rd_L1 ab x2).length:Int) then (if 0≤(rd (rd_L1 ab x2) x10) then (if (rd (rd_L1 ab x2) x10)<(x1.length:Int) then (if 0≤x3 then (if x3<(ab.length:Int) then (if x10<((rd_L1 ab x3).length:Int) then (if 0≤(rd (rd_L1 ab x3) x10) then (if (rd (rd_L1 ab x3) x10)<(x1.length:Int) then (spec_l5Same.l0 k x1 x2 x3 ((rd x1 (rd (rd_L1 ab x2) x10)) == (rd x1 (rd (rd_L1 ab x3) x10))) (wrap64 (x10+1)) ar ab) else (none)) else (none)) else (none)) else (none)) else (none)) else (none)) else (none)) else (none)) else (none)) else (none)) else (none)) else (spec_l5Same.l0 k x1 x2 x3 false (wrap64 (x10+1)) ar ab)) else (some x9)
def spec_l5Same.f (k:Nat) (l0_0:List Bool) (l0_1:List (List Int)) (l1:List Int) (a2:Int) (a3:Int):Option (Bool):=if 0≤a2 then (if a2<(l1.length:Int) then (if 0≤a3 then (if a3<(l1.length:Int) then (spec_l5Same.l0 k l1 a2 a3 ((rd l1 a2) == (rd l1 a3)) 0 l0_0 l0_1) else (none)) else (none)) else (none)) else (none)
theorem spec_l5Same.mono_l:∀ k,(∀ y0 y1 y2 y3 y4 y5 y6,LeO (spec_l5Same.l0 k y0 y1 y2 y3 y4 y5 y6) (spec_l5Same.l0 (k+1) y0 y1 y2 y3 y4 y5 y6))
 | 0=>fun _ _ _ _ _ _ _ r h=>by simp [spec_l5Same.l0] at h
 | k+1=>by
  have ih0:=spec_l5Same.mono_l k
  ·intro y0 y1 y2 y3 y4 y5 y6
   unfold spec_l5Same.l0
   repeat' first
   | (with_reducible exact ih0 _ _ _ _ _ _ _)
   | (with_reducible exact LeO.refl _)
   | (with_reducible exact LeO.none _)
   | (with_reducible refine LeO.ite ?_ ?_)
   | (with_reducible refine LeO.bind ?_ (fun _=>?_))
   | exact ih0 _ _ _ _ _ _ _
   | exact LeO.none _
   | refine LeO.ite ?_ ?_
   | refine LeO.bind ?_ (fun _=>?_)
theorem spec_l5Same.mono:∀ a0 a1 a2 a3 a4 k,LeO (spec_l5Same.f k a0 a1 a2 a3 a4) (spec_l5Same.f (k+1) a0 a1 a2 a3 a4):=by
 intro a0 a1 a2 a3 a4 k
 have ih0:=spec_l5Same.mono_l k
 unfold spec_l5Same.f
 repeat' first
  | (with_reducible exact ih0 _ _ _ _ _ _ _)
  | (with_reducible exact LeO.refl _)
  | (with_reducible exact LeO.none _)
  | (with_reducible refine LeO.ite ?_ ?_)
  | (with_reducible refine LeO.bind ?_ (fun _=>?_))
  | exact ih0 _ _ _ _ _ _ _
  | exact LeO.none _
  | refine LeO.ite ?_ ?_
  | refine LeO.bind ?_ (fun _=>?_)
theorem zp5_0_ {p q g1:Prop} (h:p) (h1:g1) (c:p→g1→q:=by intro h_ h1_;repeat (first | (with_reducible first | exact h_ | apply below_alloc | apply pw_below_drewN | apply below_drew1 | refine below_set ?_ h1_) | exact h_)):q:=c h h1
set_option maxHeartbeats 8000000 in
set_option maxRecDepth 100000 in
theorem spec_l5Same.calls (k:Nat) (A0_0:Option Addr) (c0_0:Nat) (l0_0:List Bool) (A0_1:Option Addr) (c0_1:Nat) (l0_1:List (List Int)) (A1:Option Addr) (c1:Nat) (l1:List Int) (a2:Int) (a3:Int) (r:Bool) (w:World) (hr0_0:Kd.C Kd.bool w A0_0 l0_0.length l0_0) (hc0_0:l0_0.length≤c0_0) (hr0_1:Kd.C (Kd.slice 3 (Kd.int .i64)) w A0_1 l0_1.length l0_1) (hc0_1:l0_1.length≤c0_1) (hr1:Kd.C (Kd.int .i64) w A1 l1.length l1) (hc1:l1.length≤c1) (h:spec_l5Same.f k l0_0 l0_1 l1 a2 a3=some r) :
  Calls Try.prog 133 #[.agg #[.slice A0_0 l0_0.length c0_0,.slice A0_1 l0_1.length c0_1],.slice A1 l1.length c1,.int .i64 a2,.int .i64 a3] w fun e w'=>e = .returned (.bool r)∧Below w.heap.size w w':=by
 have hu27:=Try.underlying27
 have aL:=am_ hr0_0
 have aM:=am_ hc0_0
 clear hr0_0 hc0_0
 have av:=am_ hr0_1
 have aN:=am_ hc0_1
 clear hr0_1 hc0_1
 have HR1:=am_ hr1
 have HC1:=am_ hc1
 clear hr1 hc1
 have HB:=am_ (Below.refl w.heap.size w)
 have H:(if 0≤a2 then (if a2<(l1.length:Int) then (if 0≤a3 then (if a3<(l1.length:Int) then (spec_l5Same.l0 k l1 a2 a3 ((rd l1 a2) == (rd l1 a3)) 0 l0_0 l0_1) else (none)) else (none)) else (none)) else (none))=some r:=h
 clear h
 by_cases c5:0≤a2
 ·rw [if_pos c5] at H
  have c5b0:decide (0≤a2)=true:=decide_eq_true c5
  clear c5
  by_cases c6:a2<(l1.length:Int)
  ·rw [if_pos c6] at H
   have c6b0:decide (a2<(l1.length:Int))=true:=decide_eq_true c6
   clear c6
   by_cases c7:0≤a3
   ·rw [if_pos c7] at H
    have c7b0:decide (0≤a3)=true:=decide_eq_true c7
    clear c7
    by_cases c8:a3<(l1.length:Int)
    ·rw [if_pos c8] at H
     have c8b0:decide (a3<(l1.length:Int))=true:=decide_eq_true c8
     clear c8
     have H':=am_ H
     clear H
     go_enter Try.func133,Try.ntmps133
     go_wp2_with (first | ((with_reducible refine gate_dst (N:=4) rfl ?_);refine box_event ?hg (N:=4) ?hd (cs:=#[.slice A0_0 l0_0.length c0_0,.slice A0_1 l0_1.length c0_1]) (t:=27) ?hr ?_;(case hd=>rfl);(case hg=>rfl);(case hr=>first | (go_simp;done) | (go_simp;rfl));intro ah hg w9 hbox hb;replace ag:=am_ (hbox);replace aw:=am_ ((by rw [hg];exact (below_size (b0_ HB.out)):w.heap.size≤ah));replace aj:=am_ ((by rw [hg];exact (below_size (b0_ HB.out)):w.heap.size≤ah));replace HB:=am_ (below_step (b0_ HB.out) hb);clear hb hbox hg;have p138:0≤(a2:Int):=of_decide_eq_true ah_;have q138:a2<(l1.length:Int):=of_decide_eq_true ah_;obtain ⟨ai,e138,ad⟩:=Kd.at_int HR1.out a2 p138 q138;cases e138;replace ad:=(HB.out.cell (World.block_lt_of_cell? w _ ad)).trans ad;replace p138:=eq_true p138;replace q138:=eq_true q138;have p139:0≤(a3:Int):=of_decide_eq_true ah_;have q139:a3<(l1.length:Int):=of_decide_eq_true ah_;obtain ⟨ak,e139,ae⟩:=Kd.at_int HR1.out a3 p139 q139;obtain rfl:ai=ak:=(by injection e139);replace ae:=(HB.out.cell (World.block_lt_of_cell? w _ ae)).trans ae;replace p139:=eq_true p139;replace q139:=eq_true q139))
     repeat (go_quiet (first | ((with_reducible refine gate_dst (N:=4) rfl ?_);refine box_event ?hg (N:=4) ?hd (cs:=#[.slice A0_0 l0_0.length c0_0,.slice A0_1 l0_1.length c0_1]) (t:=27) ?hr ?_;(case hd=>rfl);(case hg=>rfl);(case hr=>first | (go_simp;done) | (go_simp;rfl));intro ah hg w9 hbox hb;replace ag:=am_ (hbox);replace aw:=am_ ((by rw [hg];exact (below_size (b0_ HB.out)):w.heap.size≤ah));replace aj:=am_ ((by rw [hg];exact (below_size (b0_ HB.out)):w.heap.size≤ah));replace HB:=am_ (below_step (b0_ HB.out) hb);clear hb hbox hg;have p138:0≤(a2:Int):=of_decide_eq_true ah_;have q138:a2<(l1.length:Int):=of_decide_eq_true ah_;obtain ⟨ai,e138,ad⟩:=Kd.at_int HR1.out a2 p138 q138;cases e138;replace ad:=(HB.out.cell (World.block_lt_of_cell? w _ ad)).trans ad;replace p138:=eq_true p138;replace q138:=eq_true q138;have p139:0≤(a3:Int):=of_decide_eq_true ah_;have q139:a3<(l1.length:Int):=of_decide_eq_true ah_;obtain ⟨ak,e139,ae⟩:=Kd.at_int HR1.out a3 p139 q139;obtain rfl:ai=ak:=(by injection e139);replace ae:=(HB.out.cell (World.block_lt_of_cell? w _ ae)).trans ae;replace p139:=eq_true p139;replace q139:=eq_true q139));try go_wp2_with (first | ((with_reducible refine gate_dst (N:=4) rfl ?_);refine box_event ?hg (N:=4) ?hd (cs:=#[.slice A0_0 l0_0.length c0_0,.slice A0_1 l0_1.length c0_1]) (t:=27) ?hr ?_;(case hd=>rfl);(case hg=>rfl);(case hr=>first | (go_simp;done) | (go_simp;rfl));intro ah hg w9 hbox hb;replace ag:=am_ (hbox);replace aw:=am_ ((by rw [hg];exact (below_size (b0_ HB.out)):w.heap.size≤ah));replace aj:=am_ ((by rw [hg];exact (below_size (b0_ HB.out)):w.heap.size≤ah));replace HB:=am_ (below_step (b0_ HB.out) hb);clear hb hbox hg;have p138:0≤(a2:Int):=of_decide_eq_true ah_;have q138:a2<(l1.length:Int):=of_decide_eq_true ah_;obtain ⟨ai,e138,ad⟩:=Kd.at_int HR1.out a2 p138 q138;cases e138;replace ad:=(HB.out.cell (World.block_lt_of_cell? w _ ad)).trans ad;replace p138:=eq_true p138;replace q138:=eq_true q138;have p139:0≤(a3:Int):=of_decide_eq_true ah_;have q139:a3<(l1.length:Int):=of_decide_eq_true ah_;obtain ⟨ak,e139,ae⟩:=Kd.at_int HR1.out a3 p139 q139;obtain rfl:ai=ak:=(by injection e139);replace ae:=(HB.out.cell (World.block_lt_of_cell? w _ ae)).trans ae;replace p139:=eq_true p139;replace q139:=eq_true q139)))
     go_loopg [9,10] k (fun kq v9 v10 w'=>∃ (au:Bool) (aa:Int),v9 = .bool au∧v10 = .int .i64 aa∧Aside0 (spec_l5Same.l0 kq l1 a2 a3 au aa l0_0 l0_1=some r)∧Aside0 (kq≤k)∧Aside0 (w'.heap[ah]? = some (.cells #[(.slice A0_0 l0_0.length c0_0),(.slice A0_1 l0_1.length c0_1)] 27 (0,0)))∧Aside0 (Below w.heap.size w w'))
     case atStart=>exact ⟨(((rd l1 a2) == (rd l1 a3))),(0),(by first | rfl | (simp;done) | (simp [*];done)),(by first | rfl | (simp;done) | (simp [*];done)),H',⟨Nat.le_refl _⟩,⟨by refine rb_ ?_;exact ag.out⟩,⟨by exact zp5_0_ HB.out aj.out⟩⟩
     case round =>
      clear H'
      try clear c1
      try clear p1
      try clear q1
      try clear hx1
      try clear p2
      try clear c5
      try clear c5b0
      try clear c6
      try clear c6b0
      try clear c7
      try clear c7b0
      try clear c8
      try clear c8b0
      try clear ad
      try clear ae
      try clear p138
      try clear p139
      try clear q138
      try clear q139
      obtain ⟨au,aa,rfl,rfl,HA,HK1,ag,HB⟩:=hrel
      cases gk with
      | zero=>exact absurd HA.out (by simp [spec_l5Same.l0])
      | succ k1 =>
       have H:=HA.out
       clear HA
       simp only [spec_l5Same.l0] at H
       by_cases c10:aa<3
       ·rw [if_pos c10] at H
        have c10b0:decide (aa<3)=true:=decide_eq_true c10
        clear c10
        by_cases c11:au=true
        ·subst c11
         have H1:(if 0≤a2 then (if a2<(l0_1.length:Int) then (if 0≤aa then (if aa<((rd_L1 l0_1 a2).length:Int) then (if 0≤(rd (rd_L1 l0_1 a2) aa) then (if (rd (rd_L1 l0_1 a2) aa)<(l1.length:Int) then (if 0≤a3 then (if a3<(l0_1.length:Int) then (if aa<((rd_L1 l0_1 a3).length:Int) then (if 0≤(rd (rd_L1 l0_1 a3) aa) then (if (rd (rd_L1 l0_1 a3) aa)<(l1.length:Int) then (spec_l5Same.l0 k1 l1 a2 a3 ((rd l1 (rd (rd_L1 l0_1 a2) aa)) == (rd l1 (rd (rd_L1 l0_1 a3) aa))) (wrap64 (aa+1)) l0_0 l0_1) else (none)) else (none)) else (none)) else (none)) else (none)) else (none)) else (none)) else (none)) else (none)) else (none)) else (none))=some r:=by rw [if_pos rfl] at H;exact H
         clear H
         have H:=H1
         clear H1
         by_cases c12:0≤a2
         ·rw [if_pos c12] at H
          have c12b0:decide (0≤a2)=true:=decide_eq_true c12
          clear c12
          by_cases c13:a2<(l0_1.length:Int)
          ·rw [if_pos c13] at H
           have c13b0:decide (a2<(l0_1.length:Int))=true:=decide_eq_true c13
           clear c13
           by_cases c14:0≤aa
           ·rw [if_pos c14] at H
            have c14b0:decide (0≤aa)=true:=decide_eq_true c14
            clear c14
            by_cases c15:aa<((rd_L1 l0_1 a2).length:Int)
            ·rw [if_pos c15] at H
             have c15b0:decide (aa<((rd_L1 l0_1 a2).length:Int))=true:=decide_eq_true c15
             clear c15
             by_cases c16:0≤(rd (rd_L1 l0_1 a2) aa)
             ·rw [if_pos c16] at H
              have c16b0:decide (0≤(rd (rd_L1 l0_1 a2) aa))=true:=decide_eq_true c16
              clear c16
              by_cases c17:(rd (rd_L1 l0_1 a2) aa)<(l1.length:Int)
              ·rw [if_pos c17] at H
               have c17b0:decide ((rd (rd_L1 l0_1 a2) aa)<(l1.length:Int))=true:=decide_eq_true c17
               clear c17
               by_cases c18:0≤a3
               ·rw [if_pos c18] at H
                have c18b0:decide (0≤a3)=true:=decide_eq_true c18
                clear c18
                by_cases c19:a3<(l0_1.length:Int)
                ·rw [if_pos c19] at H
                 have c19b0:decide (a3<(l0_1.length:Int))=true:=decide_eq_true c19
                 clear c19
                 by_cases c20:aa<((rd_L1 l0_1 a3).length:Int)
                 ·rw [if_pos c20] at H
                  have c20b0:decide (aa<((rd_L1 l0_1 a3).length:Int))=true:=decide_eq_true c20
                  clear c20
                  by_cases c21:0≤(rd (rd_L1 l0_1 a3) aa)
                  ·rw [if_pos c21] at H
                   have c21b0:decide (0≤(rd (rd_L1 l0_1 a3) aa))=true:=decide_eq_true c21
                   clear c21
                   by_cases c22:(rd (rd_L1 l0_1 a3) aa)<(l1.length:Int)
                   ·rw [if_pos c22] at H
                    have c22b0:decide ((rd (rd_L1 l0_1 a3) aa)<(l1.length:Int))=true:=decide_eq_true c22
                    clear c22
                    have H':=am_ H
                    clear H
                    have aF:=ck_ (v:=(.slice A0_0 l0_0.length c0_0)) ag 0 rfl
                    have aG:=ck_ (v:=(.slice A0_1 l0_1.length c0_1)) ag 1 rfl
                    have aH:=blk_frozen ag.out 0
                    have aI:=blk_frozen ag.out 1
                    have p140:0≤(a2:Int):=of_decide_eq_true ah_
                    have q140:a2<(l0_1.length:Int):=of_decide_eq_true ah_
                    obtain ⟨aB,A140_0,c140_0,e140,al,hl140_0,hi140_0⟩:=at_L1 av.out a2 p140 q140
                    cases e140
                    replace al:=(HB.out.cell (World.block_lt_of_cell? w _ al)).trans al
                    have ay:=am_ hi140_0
                    have aJ:=am_ hl140_0
                    clear hi140_0 hl140_0
                    replace p140:=eq_true p140
                    replace q140:=eq_true q140
                    have p141:0≤(aa:Int):=of_decide_eq_true ah_
                    have q141:aa<((rd_L1 l0_1 a2).length:Int):=of_decide_eq_true ah_
                    obtain ⟨aO,e141,am⟩:=Kd.at_int ay.out aa p141 q141
                    cases e141
                    replace am:=(HB.out.cell (World.block_lt_of_cell? w _ am)).trans am
                    replace p141:=eq_true p141
                    replace q141:=eq_true q141
                    have p142:0≤((rd (rd_L1 l0_1 a2) aa):Int):=of_decide_eq_true ah_
                    have q142:(rd (rd_L1 l0_1 a2) aa)<(l1.length:Int):=of_decide_eq_true ah_
                    obtain ⟨aC,e142,an⟩:=Kd.at_int HR1.out (rd (rd_L1 l0_1 a2) aa) p142 q142
                    obtain rfl:ai=aC:=(by injection e142)
                    replace an:=(HB.out.cell (World.block_lt_of_cell? w _ an)).trans an
                    replace p142:=eq_true p142
                    replace q142:=eq_true q142
                    have p143:0≤(a3:Int):=of_decide_eq_true ah_
                    have q143:a3<(l0_1.length:Int):=of_decide_eq_true ah_
                    obtain ⟨aD,A143_0,c143_0,e143,ao,hl143_0,hi143_0⟩:=at_L1 av.out a3 p143 q143
                    obtain rfl:aB=aD:=(by injection e143)
                    replace ao:=(HB.out.cell (World.block_lt_of_cell? w _ ao)).trans ao
                    have az:=am_ hi143_0
                    have aK:=am_ hl143_0
                    clear hi143_0 hl143_0
                    replace p143:=eq_true p143
                    replace q143:=eq_true q143
                    have p144:0≤(aa:Int):=of_decide_eq_true ah_
                    have q144:aa<((rd_L1 l0_1 a3).length:Int):=of_decide_eq_true ah_
                    obtain ⟨aP,e144,ap⟩:=Kd.at_int az.out aa p144 q144
                    cases e144
                    replace ap:=(HB.out.cell (World.block_lt_of_cell? w _ ap)).trans ap
                    replace p144:=eq_true p144
                    replace q144:=eq_true q144
                    have p145:0≤((rd (rd_L1 l0_1 a3) aa):Int):=of_decide_eq_true ah_
                    have q145:(rd (rd_L1 l0_1 a3) aa)<(l1.length:Int):=of_decide_eq_true ah_
                    obtain ⟨aE,e145,aq⟩:=Kd.at_int HR1.out (rd (rd_L1 l0_1 a3) aa) p145 q145
                    obtain rfl:ai=aE:=(by injection e145)
                    replace aq:=(HB.out.cell (World.block_lt_of_cell? w _ aq)).trans aq
                    replace p145:=eq_true p145
                    replace q145:=eq_true q145
                    go_wp2
                    repeat (go_quiet (fail);try go_wp2)
                    go_roundg k1
                    case measure=>have:=HK1.out;omega
                    case rel=>exact ⟨(((rd l1 (rd (rd_L1 l0_1 a2) aa)) == (rd l1 (rd (rd_L1 l0_1 a3) aa)))),(wrap64 (aa+1)),(by first | rfl | (simp;done) | (simp [*];done)),(by first | rfl | (simp;done) | (simp [*];done)),H',⟨by have:=HK1.out;omega⟩,⟨by refine rb_ ?_;exact ag.out⟩,⟨by exact zp5_0_ HB.out aj.out⟩⟩
                   ·rw [if_neg c22] at H
                    exact absurd H (by simp)
                  ·rw [if_neg c21] at H
                   exact absurd H (by simp)
                 ·rw [if_neg c20] at H
                  exact absurd H (by simp)
                ·rw [if_neg c19] at H
                 exact absurd H (by simp)
               ·rw [if_neg c18] at H
                exact absurd H (by simp)
              ·rw [if_neg c17] at H
               exact absurd H (by simp)
             ·rw [if_neg c16] at H
              exact absurd H (by simp)
            ·rw [if_neg c15] at H
             exact absurd H (by simp)
           ·rw [if_neg c14] at H
            exact absurd H (by simp)
          ·rw [if_neg c13] at H
           exact absurd H (by simp)
         ·rw [if_neg c12] at H
          exact absurd H (by simp)
        ·replace c11:=Bool.eq_false_iff.mpr c11
         subst c11
         have H1:(spec_l5Same.l0 k1 l1 a2 a3 false (wrap64 (aa+1)) l0_0 l0_1)=some r:=by rw [if_neg (show ¬ (false=true) by decide)] at H;exact H
         clear H
         have H:=H1
         clear H1
         have H':=am_ H
         clear H
         go_wp2
         repeat (go_quiet (fail);try go_wp2)
         go_roundg k1
         case measure=>have:=HK1.out;omega
         case rel=>exact ⟨(false),(wrap64 (aa+1)),(by first | rfl | (simp;done) | (simp [*];done)),(by first | rfl | (simp;done) | (simp [*];done)),H',⟨by have:=HK1.out;omega⟩,⟨by refine rb_ ?_;exact ag.out⟩,⟨by exact zp5_0_ HB.out aj.out⟩⟩
       ·rw [if_neg c10] at H
        have c10b0:decide (aa<3)=false:=decide_eq_false c10
        clear c10
        obtain rfl:=Option.some.inj H
        simp only [Option.some.injEq,Prod.mk.injEq] at H
        obtain ⟨rfl⟩:=H
        go_wp2
        repeat (go_quiet (fail);try go_wp2)
        go_ret
        exact ⟨by first | rfl | (simp [errW_none,errW_some] <;> rfl) | (simp [*,errW_none,errW_some] <;> rfl),by exact zp5_0_ HB.out aj.out⟩
    ·rw [if_neg c8] at H
     exact absurd H (by simp)
   ·rw [if_neg c7] at H
    exact absurd H (by simp)
  ·rw [if_neg c6] at H
   exact absurd H (by simp)
 ·rw [if_neg c5] at H
  exact absurd H (by simp)
end Go.Proofs.Ytogamkblkoobkaa.P
end
section
namespace Go.Proofs.Ytogamkblkoobkaa.P
open Go.RowKit Go.Proofs.YtogamkblkoobkaaW.PrintWords Go.Proofs.YtogamkblkoobkaaW.PrintLast Go.Proofs.YtogamkblkoobkaaW.PrintMore
attribute [local go_sem] max2_int min2_int max_two min_two max_three min_three max_four min_four
mutual
def spec_l5Classes.l0:Nat→Int→List Int→Int→List Bool→List (List Int)→Option (List Int)
 | 0,_,_,_,_,_=>none
 | k+1,x3,x4,x5,af,ah=>if x5<x3 then (if 0≤x5 then (if x5<(af.length:Int) then (if rdOf false af x5=true then (if x5<(x4.length:Int) then (spec_l5Classes.l0 k x3 (x4.set (x5:Int).toNat 1) (wrap64 (x5+1)) af ah) else (none)) else (spec_l5Classes.l0 k x3 x4 (wrap64 (x5+1)) af ah)) else (none)) else (none)) else (spec_l5Classes.l1 k x3 x4 0 af ah)
def spec_l5Classes.l1:Nat→Int→List Int→Int→List Bool→List (List Int)→Option (List Int)
 | 0,_,_,_,_,_=>none
 | k+1,x3,x4,x6,af,ah=>if x6≤x3 then (if 0≤x3 then (if (x3:Int).toNat≤35184372088832 then (spec_l5Classes.l2 k x3 x4 x6 (List.replicate (x3:Int).toNat 0) 0 af ah) else (none)) else (none)) else (some x4)
def spec_l5Classes.l2:Nat→Int→List Int→Int→List Int→Int→List Bool→List (List Int)→Option (List Int)
 | 0,_,_,_,_,_,_,_=>none
 | k+1,x3,x4,x6,x7,x8,af,ah=>if x8<x3 then (if 0≤x8 then (if x8<(x7.length:Int) then (spec_l5Classes.l3 k x3 x4 x6 (x7.set (x8:Int).toNat x8) x8 0 af ah) else (none)) else (none)) else (spec_l5Classes.l1 k x3 x7 (wrap64 (x6+1)) af ah)
def spec_l5Classes.l3:Nat→Int→List Int→Int→List Int→Int→Int→List Bool→List (List Int)→Option (List Int)
 | 0,_,_,_,_,_,_,_,_=>none
 | k+1,x3,x4,x6,x7,x8,x9,af,ah=>if x9<x8 then ((spec_l5Same.f k af ah x4 x9 x8).bind fun aI=>(if aI=true then (if 0≤x8 then (if x8<(x7.length:Int) then (spec_l5Classes.l2 k x3 x4 x6 (x7.set (x8:Int).toNat x9) (wrap64 (x8+1)) af ah) else (none)) else (none)) else (spec_l5Classes.l3 k x3 x4 x6 x7 x8 (wrap64 (x9+1)) af ah))) else (spec_l5Classes.l2 k x3 x4 x6 x7 (wrap64 (x8+1)) af ah)
end
def spec_l5Classes.f (k:Nat) (l0_0:List Bool) (l0_1:List (List Int)):Option (List Int):=if 0≤(l0_0.length:Int) then (if ((l0_0.length:Int):Int).toNat≤35184372088832 then (spec_l5Classes.l0 k (l0_0.length:Int) (List.replicate ((l0_0.length:Int):Int).toNat 0) 0 l0_0 l0_1) else (none)) else (none)
theorem spec_l5Classes.mono_l:∀ k,(∀ y0 y1 y2 y3 y4,LeO (spec_l5Classes.l0 k y0 y1 y2 y3 y4) (spec_l5Classes.l0 (k+1) y0 y1 y2 y3 y4))∧(∀ y0 y1 y2 y3 y4,LeO (spec_l5Classes.l1 k y0 y1 y2 y3 y4) (spec_l5Classes.l1 (k+1) y0 y1 y2 y3 y4))∧(∀ y0 y1 y2 y3 y4 y5 y6,LeO (spec_l5Classes.l2 k y0 y1 y2 y3 y4 y5 y6) (spec_l5Classes.l2 (k+1) y0 y1 y2 y3 y4 y5 y6))∧(∀ y0 y1 y2 y3 y4 y5 y6 y7,LeO (spec_l5Classes.l3 k y0 y1 y2 y3 y4 y5 y6 y7) (spec_l5Classes.l3 (k+1) y0 y1 y2 y3 y4 y5 y6 y7))
 | 0=>⟨fun _ _ _ _ _ r h=>by simp [spec_l5Classes.l0] at h,fun _ _ _ _ _ r h=>by simp [spec_l5Classes.l1] at h,fun _ _ _ _ _ _ _ r h=>by simp [spec_l5Classes.l2] at h,fun _ _ _ _ _ _ _ _ r h=>by simp [spec_l5Classes.l3] at h⟩
 | k+1=>by
  obtain ⟨ih0,ih1,ih2,ih3⟩:=spec_l5Classes.mono_l k
  refine ⟨?_,?_,?_,?_⟩
  ·intro y0 y1 y2 y3 y4
   unfold spec_l5Classes.l0
   repeat' first
   | (with_reducible exact ih0 _ _ _ _ _)
   | (with_reducible exact ih1 _ _ _ _ _)
   | (with_reducible exact ih2 _ _ _ _ _ _ _)
   | (with_reducible exact ih3 _ _ _ _ _ _ _ _)
   | (with_reducible exact spec_l5Same.mono _ _ _ _ _ _)
   | (with_reducible exact LeO.refl _)
   | (with_reducible exact LeO.none _)
   | (with_reducible refine LeO.ite ?_ ?_)
   | (with_reducible refine LeO.bind ?_ (fun _=>?_))
   | exact ih0 _ _ _ _ _
   | exact ih1 _ _ _ _ _
   | exact ih2 _ _ _ _ _ _ _
   | exact ih3 _ _ _ _ _ _ _ _
   | exact spec_l5Same.mono _ _ _ _ _ _
   | exact LeO.none _
   | refine LeO.ite ?_ ?_
   | refine LeO.bind ?_ (fun _=>?_)
  ·intro y0 y1 y2 y3 y4
   unfold spec_l5Classes.l1
   repeat' first
   | (with_reducible exact ih0 _ _ _ _ _)
   | (with_reducible exact ih1 _ _ _ _ _)
   | (with_reducible exact ih2 _ _ _ _ _ _ _)
   | (with_reducible exact ih3 _ _ _ _ _ _ _ _)
   | (with_reducible exact spec_l5Same.mono _ _ _ _ _ _)
   | (with_reducible exact LeO.refl _)
   | (with_reducible exact LeO.none _)
   | (with_reducible refine LeO.ite ?_ ?_)
   | (with_reducible refine LeO.bind ?_ (fun _=>?_))
   | exact ih0 _ _ _ _ _
   | exact ih1 _ _ _ _ _
   | exact ih2 _ _ _ _ _ _ _
   | exact ih3 _ _ _ _ _ _ _ _
   | exact spec_l5Same.mono _ _ _ _ _ _
   | exact LeO.none _
   | refine LeO.ite ?_ ?_
   | refine LeO.bind ?_ (fun _=>?_)
  ·intro y0 y1 y2 y3 y4 y5 y6
   unfold spec_l5Classes.l2
   repeat' first
   | (with_reducible exact ih0 _ _ _ _ _)
   | (with_reducible exact ih1 _ _ _ _ _)
   | (with_reducible exact ih2 _ _ _ _ _ _ _)
   | (with_reducible exact ih3 _ _ _ _ _ _ _ _)
   | (with_reducible exact spec_l5Same.mono _ _ _ _ _ _)
   | (with_reducible exact LeO.refl _)
   | (with_reducible exact LeO.none _)
   | (with_reducible refine LeO.ite ?_ ?_)
   | (with_reducible refine LeO.bind ?_ (fun _=>?_))
   | exact ih0 _ _ _ _ _
   | exact ih1 _ _ _ _ _
   | exact ih2 _ _ _ _ _ _ _
   | exact ih3 _ _ _ _ _ _ _ _
   | exact spec_l5Same.mono _ _ _ _ _ _
   | exact LeO.none _
   | refine LeO.ite ?_ ?_
   | refine LeO.bind ?_ (fun _=>?_)
  ·intro y0 y1 y2 y3 y4 y5 y6 y7
   unfold spec_l5Classes.l3
   repeat' first
   | (with_reducible exact ih0 _ _ _ _ _)
   | (with_reducible exact ih1 _ _ _ _ _)
   | (with_reducible exact ih2 _ _ _ _ _ _ _)
   | (with_reducible exact ih3 _ _ _ _ _ _ _ _)
   | (with_reducible exact spec_l5Same.mono _ _ _ _ _ _)
   | (with_reducible exact LeO.refl _)
   | (with_reducible exact LeO.none _)
   | (with_reducible refine LeO.ite ?_ ?_)
   | (with_reducible refine LeO.bind ?_ (fun _=>?_))
   | exact ih0 _ _ _ _ _
   | exact ih1 _ _ _ _ _
   | exact ih2 _ _ _ _ _ _ _
   | exact ih3 _ _ _ _ _ _ _ _
   | exact spec_l5Same.mono _ _ _ _ _ _
   | exact LeO.none _
   | refine LeO.ite ?_ ?_
   | refine LeO.bind ?_ (fun _=>?_)
theorem spec_l5Classes.mono:∀ a0 a1 k,LeO (spec_l5Classes.f k a0 a1) (spec_l5Classes.f (k+1) a0 a1):=by
 intro a0 a1 k
 obtain ⟨ih0,ih1,ih2,ih3⟩:=spec_l5Classes.mono_l k
 unfold spec_l5Classes.f
 repeat' first
  | (with_reducible exact ih0 _ _ _ _ _)
  | (with_reducible exact ih1 _ _ _ _ _)
  | (with_reducible exact ih2 _ _ _ _ _ _ _)
  | (with_reducible exact ih3 _ _ _ _ _ _ _ _)
  | (with_reducible exact spec_l5Same.mono _ _ _ _ _ _)
  | (with_reducible exact LeO.refl _)
  | (with_reducible exact LeO.none _)
  | (with_reducible refine LeO.ite ?_ ?_)
  | (with_reducible refine LeO.bind ?_ (fun _=>?_))
  | exact ih0 _ _ _ _ _
  | exact ih1 _ _ _ _ _
  | exact ih2 _ _ _ _ _ _ _
  | exact ih3 _ _ _ _ _ _ _ _
  | exact spec_l5Same.mono _ _ _ _ _ _
  | exact LeO.none _
  | refine LeO.ite ?_ ?_
  | refine LeO.bind ?_ (fun _=>?_)
theorem zp6_0_ {p q g1:Prop} (h:p) (h1:g1) (c:p→g1→q:=by intro h_ h1_;repeat (first | (with_reducible first | exact h_ | apply below_alloc | apply pw_below_drewN | apply below_drew1 | refine below_set ?_ h1_) | exact h_)):q:=c h h1
set_option maxHeartbeats 8000000 in
set_option maxRecDepth 100000 in
theorem spec_l5Classes.calls (k:Nat) (A0_0:Option Addr) (c0_0:Nat) (l0_0:List Bool) (A0_1:Option Addr) (c0_1:Nat) (l0_1:List (List Int)) (r:List Int) (w:World) (hr0_0:Kd.C Kd.bool w A0_0 l0_0.length l0_0) (hc0_0:l0_0.length≤c0_0) (hr0_1:Kd.C (Kd.slice 3 (Kd.int .i64)) w A0_1 l0_1.length l0_1) (hc0_1:l0_1.length≤c0_1) (h:spec_l5Classes.f k l0_0 l0_1=some r) :
  Calls Try.prog 126 #[.agg #[.slice A0_0 l0_0.length c0_0,.slice A0_1 l0_1.length c0_1]] w fun e w'=>∃ v0_:Value,e = .returned (v0_)∧Kd.R (Kd.int .i64) 3 w' w.heap.size (fun _=>True) v0_ r∧Below w.heap.size w w':=by
 have hu27:=Try.underlying27
 have aG:=am_ hr0_0
 have aM:=am_ hc0_0
 clear hr0_0 hc0_0
 have aN:=am_ hr0_1
 have aO:=am_ hc0_1
 clear hr0_1 hc0_1
 have HB:=am_ (Below.refl w.heap.size w)
 have H:(if 0≤(l0_0.length:Int) then (if ((l0_0.length:Int):Int).toNat≤35184372088832 then (spec_l5Classes.l0 k (l0_0.length:Int) (List.replicate ((l0_0.length:Int):Int).toNat 0) 0 l0_0 l0_1) else (none)) else (none))=some r:=h
 clear h
 by_cases c2:0≤(l0_0.length:Int)
 ·rw [if_pos c2] at H
  have c2b0:=eq_true c2
  have c2b1:decide (0≤(l0_0.length:Int))=true:=decide_eq_true c2
  clear c2
  by_cases c3:((l0_0.length:Int):Int).toNat≤35184372088832
  ·rw [if_pos c3] at H
   have c3b0:=eq_true c3
   have c3b1:decide (((l0_0.length:Int):Int).toNat≤35184372088832)=true:=decide_eq_true c3
   clear c3
   obtain ⟨aS,hy147⟩:∃ y_:List Int,y_=(List.replicate ((l0_0.length:Int):Int).toNat 0):=⟨_,rfl⟩
   replace H:(spec_l5Classes.l0 k (l0_0.length:Int) aS 0 l0_0 l0_1)=some r:=by first | (rw [hy147];with_reducible exact H) | (have H2_:=(Option.bind_some _ _).symm.trans H;rw [hy147];with_reducible exact H2_) | (have H2_:=(Option.bind_some _ _).symm.trans H;with_reducible exact H2_) | with_reducible exact H | (rw [hy147];exact H) | exact H
   have aP:=am_ hy147
   clear hy147
   have H':=am_ H
   clear H
   go_enter Try.func126,Try.ntmps126
   go_wp2_with (first | ((with_reducible refine gate_dst (N:=1) rfl ?_);refine box_event ?hg (N:=1) ?hd (cs:=#[.slice A0_0 l0_0.length c0_0,.slice A0_1 l0_1.length c0_1]) (t:=27) ?hr ?_;(case hd=>rfl);(case hg=>rfl);(case hr=>first | (go_simp;done) | (go_simp;rfl));intro aq hg w4 hbox hb;replace aa:=am_ (hbox);replace bx:=am_ ((by rw [hg];exact (below_size (b0_ HB.out)):w.heap.size≤aq));replace aj:=am_ ((by rw [hg];exact (below_size (b0_ HB.out)):w.heap.size≤aq));replace HB:=am_ (below_step (b0_ HB.out) hb);clear hb hbox hg;have au:=ck_ (v:=(.slice A0_0 l0_0.length c0_0)) aa 0 rfl;have av:=ck_ (v:=(.slice A0_1 l0_1.length c0_1)) aa 1 rfl;have aw:=blk_frozen aa.out 0;have ax:=blk_frozen aa.out 1) | ((with_reducible refine gate_dst (N:=14) rfl ?_);refine Kd.R_make (Kd.int .i64) _ 3 rfl (N:=14) rfl 67 _ _ rfl (l0_0.length:Int) rfl rfl Try.underlying67 (.int .i64 0) 8 info3 rfl (by decide) (by omega) 0 (ok:=fun _=>True) (okp:=fun _=>True) rfl (fun _ hk=>hk) trivial (of_decide_eq_true ah_) (Nat.le_trans (Nat.mul_le_mul_right _ (of_decide_eq_true ah_:(l0_0.length:Int).toNat≤35184372088832)) (by omega)) (Below.refl _ _) (Nat.le_refl _) ?_;intro bi w6 ho7 hb hg_ hnew_;clear hg_ hnew_;(first | rw [← aP.out] at ho7 | (simp only [Int.reduceToNat] at ho7;rw [← aP.out] at ho7));have n0_:=am_ (Kd.R_lower ho7 (below_size (b1_ HB.out aj.out)));have n1_:=am_ (blk_below (rb_ aa.out) hb);have n2_:=am_ (below_step (b1_ HB.out aj.out) hb);clear aa;clear HB;have bd:=n0_;have aa:=n1_;have HB:=n2_;clear n0_ n1_ n2_;clear hb ho7))
   go_loopg [5] k (fun kq v5 w'=>∃ (al:List Int) (ae:Int),v5 = .int .i64 ae∧Aside0 (spec_l5Classes.l0 kq (l0_0.length:Int) al ae l0_0 l0_1=some r)∧Aside0 (kq≤k)∧Aside0 (Kd.R (Kd.int .i64) 3 w' w.heap.size (fun _=>True) bi al)∧Aside0 (w'.heap[aq]? = some (.cells #[(.slice A0_0 l0_0.length c0_0),(.slice A0_1 l0_1.length c0_1)] 27 (0,0)))∧Aside0 (Below w.heap.size w w'))
   case atStart=>exact ⟨(aS),(0),(by first | rfl | (simp;done) | (simp [*];done)),H',⟨Nat.le_refl _⟩,⟨by refine rr_ ?_;exact bd.out⟩,⟨by refine rb_ ?_;exact aa.out⟩,⟨by exact zp6_0_ HB.out aj.out⟩⟩
   case round =>
    clear H'
    try clear c1
    try clear c2
    try clear c2b0
    try clear c2b1
    try clear p2
    try clear c3
    try clear c3b0
    try clear c3b1
    try clear au
    try clear av
    try clear aw
    try clear ax
    obtain ⟨al,ae,rfl,HA,HK1,ad,aa,HB⟩:=hrel
    cases gk with
    | zero=>exact absurd HA.out (by simp [spec_l5Classes.l0])
    | succ k1 =>
     have H:=HA.out
     clear HA
     simp only [spec_l5Classes.l0] at H
     by_cases c8:ae<(l0_0.length:Int)
     ·rw [if_pos c8] at H
      have c8b0:decide (ae<(l0_0.length:Int))=true:=decide_eq_true c8
      clear c8
      by_cases c9:0≤ae
      ·rw [if_pos c9] at H
       have c9b0:decide (0≤ae)=true:=decide_eq_true c9
       clear c9
       by_cases c10:ae<(l0_0.length:Int)
       ·rw [if_pos c10] at H
        have c10b0:decide (ae<(l0_0.length:Int))=true:=decide_eq_true c10
        clear c10
        obtain ⟨bq11,hbq11⟩:∃ b_:Bool,b_=(rdOf false l0_0 ae):=⟨_,rfl⟩
        replace H:(if bq11=true then (if ae<(al.length:Int) then (spec_l5Classes.l0 k1 (l0_0.length:Int) (al.set (ae:Int).toNat 1) (wrap64 (ae+1)) l0_0 l0_1) else (none)) else (spec_l5Classes.l0 k1 (l0_0.length:Int) al (wrap64 (ae+1)) l0_0 l0_1))=some r:=by rw [← hbq11] at H;exact H
        have Nbq11:=am_ hbq11
        clear hbq11
        by_cases c12:bq11=true
        ·subst c12
         have H1:(if ae<(al.length:Int) then (spec_l5Classes.l0 k1 (l0_0.length:Int) (al.set (ae:Int).toNat 1) (wrap64 (ae+1)) l0_0 l0_1) else (none))=some r:=by rw [if_pos rfl] at H;exact H
         clear H
         have H:=H1
         clear H1
         by_cases c13:ae<(al.length:Int)
         ·rw [if_pos c13] at H
          have c13b0:decide (ae<(al.length:Int))=true:=decide_eq_true c13
          clear c13
          obtain ⟨aJ,hy151⟩:∃ y_:List Int,y_=(al.set (ae:Int).toNat 1):=⟨_,rfl⟩
          replace H:(spec_l5Classes.l0 k1 (l0_0.length:Int) aJ (wrap64 (ae+1)) l0_0 l0_1)=some r:=by first | (rw [hy151];with_reducible exact H) | (have H2_:=(Option.bind_some _ _).symm.trans H;rw [hy151];with_reducible exact H2_) | (have H2_:=(Option.bind_some _ _).symm.trans H;with_reducible exact H2_) | with_reducible exact H | (rw [hy151];exact H) | exact H
          have be:=am_ hy151
          clear hy151
          have H':=am_ H
          clear H
          have ay:=ck_ (v:=(.slice A0_0 l0_0.length c0_0)) aa 0 rfl
          have az:=ck_ (v:=(.slice A0_1 l0_1.length c0_1)) aa 1 rfl
          have aA:=blk_frozen aa.out 0
          have aB:=blk_frozen aa.out 1
          have p150:0≤(ae:Int):=of_decide_eq_true ah_
          have q150:ae<(l0_0.length:Int):=of_decide_eq_true ah_
          obtain ⟨aQ,e150,ai⟩:=Kd.at_bool aG.out ae p150 q150
          (try rw [← Nbq11.out] at ai)
          cases e150
          replace ai:=(HB.out.cell (World.block_lt_of_cell? w _ ai)).trans ai
          replace p150:=eq_true p150
          replace q150:=eq_true q150
          have p14:0≤(ae:Int):=of_decide_eq_true ah_
          have q14:(ae:Int)<((al.length:Int):Int):=of_decide_eq_true ah_
          obtain ⟨go14,bj,aT,aU,gl14,cl14,HG14⟩:=Kd.R_form ad.out (by omega)
          (first | cases aT | (injection aT with ea_ en_ ec_;(first | subst ea_ | (injection ea_ with ea_;subst ea_));subst ec_;clear en_))
          have GB14:=am_ aU
          have GG14:=am_ HG14
          clear aU gl14 HG14
          obtain ⟨aH,hf14_0⟩:=Kd.R_celln 0 ad.out (ae:Int) p14 q14
          replace p14:=eq_true p14
          replace q14:=eq_true q14
          have HP16:=Kd.R_putg ad.out (ae:Int) 1
          go_wp2_with (first | ((with_reducible refine gate_store (t:=3) (p:=27) rfl ?_);refine store_event (t:=3) (p:=27) (v:=?vo_w17) (w1:=(wr.setCell ⟨go14,(ae:Int).toNat,none⟩ (.int .i64 1))) ?hg ?ho ?hn ?hr ?_;(case ho=>rfl);(case hg=>rfl);(case hn=>rfl);(case hr=>first | (go_simp;done) | (go_simp;rfl));intro w17 hw;have hg:wr.grownBy w17 (some go14):=(by rw [hw];exact HP16.2);have hp_:Kd.R (Kd.int .i64) 3 w17 w.heap.size (fun _=>True) (.slice (some ⟨go14,0,none⟩) al.length bj) aJ:=(by rw [hw,be.out];exact HP16.1);clear HP16;have n0_:=am_ (hp_);have n1_:=am_ (blk_grown (g:=aq) (o:=.cells #[.slice (some aQ) l0_0.length c0_0,.slice A0_1 l0_1.length c0_1] 27 (0,0)) (rb_ aa.out) hg (Kd.R_ne ad.out aa.out (by decide)));have n2_:=am_ ((by rw [hw];exact below_set (HB.out) GB14.out:Below w.heap.size w w17));clear ad;clear aa;clear HB;have ad:=n0_;have aa:=n1_;have HB:=n2_;clear n0_ n1_ n2_;clear hg hw hp_))
          go_roundg k1
          case measure=>have:=HK1.out;omega
          case rel=>exact ⟨(aJ),(wrap64 (ae+1)),(by first | rfl | (simp;done) | (simp [*];done)),H',⟨by have:=HK1.out;omega⟩,⟨by refine rr_ ?_;exact ad.out⟩,⟨by refine rb_ ?_;exact aa.out⟩,⟨by exact zp6_0_ HB.out aj.out⟩⟩
         ·rw [if_neg c13] at H
          exact absurd H (by simp)
        ·replace c12:=Bool.eq_false_iff.mpr c12
         subst c12
         have H1:(spec_l5Classes.l0 k1 (l0_0.length:Int) al (wrap64 (ae+1)) l0_0 l0_1)=some r:=by rw [if_neg (show ¬ (false=true) by decide)] at H;exact H
         clear H
         have H:=H1
         clear H1
         have H':=am_ H
         clear H
         have aC:=ck_ (v:=(.slice A0_0 l0_0.length c0_0)) aa 0 rfl
         have aD:=ck_ (v:=(.slice A0_1 l0_1.length c0_1)) aa 1 rfl
         have aE:=blk_frozen aa.out 0
         have aF:=blk_frozen aa.out 1
         have p150:0≤(ae:Int):=of_decide_eq_true ah_
         have q150:ae<(l0_0.length:Int):=of_decide_eq_true ah_
         obtain ⟨aQ,e150,ai⟩:=Kd.at_bool aG.out ae p150 q150
         (try rw [← Nbq11.out] at ai)
         cases e150
         replace ai:=(HB.out.cell (World.block_lt_of_cell? w _ ai)).trans ai
         replace p150:=eq_true p150
         replace q150:=eq_true q150
         go_wp2
         go_roundg k1
         case measure=>have:=HK1.out;omega
         case rel=>exact ⟨(al),(wrap64 (ae+1)),(by first | rfl | (simp;done) | (simp [*];done)),H',⟨by have:=HK1.out;omega⟩,⟨by refine rr_ ?_;exact ad.out⟩,⟨by refine rb_ ?_;exact aa.out⟩,⟨by exact zp6_0_ HB.out aj.out⟩⟩
       ·rw [if_neg c10] at H
        exact absurd H (by simp)
      ·rw [if_neg c9] at H
       exact absurd H (by simp)
     ·rw [if_neg c8] at H
      have c8b0:decide (ae<(l0_0.length:Int))=false:=decide_eq_false c8
      clear c8
      have H':=am_ H
      clear H
      go_wp2
      go_loopg [4,6] k1 (fun kq v4 v6 w'=>∃ (ak:List Int) (ao:Int),v6 = .int .i64 ao∧Aside0 (spec_l5Classes.l1 kq (l0_0.length:Int) ak ao l0_0 l0_1=some r)∧Aside0 (kq≤k1)∧Aside0 (Kd.R (Kd.int .i64) 3 w' w.heap.size (fun _=>True) v4 ak)∧Aside0 (w'.heap[aq]? = some (.cells #[(.slice A0_0 l0_0.length c0_0),(.slice A0_1 l0_1.length c0_1)] 27 (0,0)))∧Aside0 (Below w.heap.size w w'))
      case atStart=>exact ⟨(al),(0),(by first | rfl | (simp;done) | (simp [*];done)),H',⟨Nat.le_refl _⟩,⟨by refine rr_ ?_;exact ad.out⟩,⟨by refine rb_ ?_;exact aa.out⟩,⟨by exact zp6_0_ HB.out aj.out⟩⟩
      case round =>
       clear H'
       try clear c1
       try clear p1
       try clear q1
       try clear hx1
       try clear hf1
       try clear c2
       try clear c2b0
       try clear c2b1
       try clear p2
       try clear c3
       try clear c3b0
       try clear c3b1
       try clear p6
       try clear c8
       try clear c8b0
       try clear c9
       try clear c9b0
       try clear c10
       try clear c10b0
       try clear q11
       try clear c12
       try clear c13
       try clear c13b0
       try clear p14
       try clear q14
       try clear hx14
       try clear hf14
       try clear p15
       try clear q15
       try clear hx15
       try clear ay
       try clear az
       try clear aC
       try clear aD
       try clear au
       try clear av
       try clear aA
       try clear aB
       try clear aE
       try clear aF
       try clear aw
       try clear ax
       try clear aH
       try clear ai
       try clear p14
       try clear p150
       try clear p2
       try clear q14
       try clear q150
       obtain ⟨ak,ao,rfl,HA,HK2,ad,aa,HB⟩:=hrel
       cases gk with
       | zero=>exact absurd HA.out (by simp [spec_l5Classes.l1])
       | succ k2 =>
        have H:=HA.out
        clear HA
        simp only [spec_l5Classes.l1] at H
        by_cases c19:ao≤(l0_0.length:Int)
        ·rw [if_pos c19] at H
         have c19b0:decide (ao≤(l0_0.length:Int))=true:=decide_eq_true c19
         clear c19
         by_cases c20:0≤(l0_0.length:Int)
         ·rw [if_pos c20] at H
          have c20b0:=eq_true c20
          have c20b1:decide (0≤(l0_0.length:Int))=true:=decide_eq_true c20
          clear c20
          by_cases c21:((l0_0.length:Int):Int).toNat≤35184372088832
          ·rw [if_pos c21] at H
           have c21b0:=eq_true c21
           have c21b1:decide (((l0_0.length:Int):Int).toNat≤35184372088832)=true:=decide_eq_true c21
           clear c21
           obtain ⟨aV,hy152⟩:∃ y_:List Int,y_=(List.replicate ((l0_0.length:Int):Int).toNat 0):=⟨_,rfl⟩
           replace H:(spec_l5Classes.l2 k2 (l0_0.length:Int) ak ao aV 0 l0_0 l0_1)=some r:=by first | (rw [hy152];with_reducible exact H) | (have H2_:=(Option.bind_some _ _).symm.trans H;rw [hy152];with_reducible exact H2_) | (have H2_:=(Option.bind_some _ _).symm.trans H;with_reducible exact H2_) | with_reducible exact H | (rw [hy152];exact H) | exact H
           have aR:=am_ hy152
           clear hy152
           have H':=am_ H
           clear H
           go_wp2_with (first | ((with_reducible refine gate_dst (N:=34) rfl ?_);refine Kd.R_make (Kd.int .i64) _ 3 rfl (N:=34) rfl 67 _ _ rfl (l0_0.length:Int) rfl rfl Try.underlying67 (.int .i64 0) 8 info3 rfl (by decide) (by omega) 0 (ok:=fun _=>True) (okp:=fun _=>True) rfl (fun _ hk=>hk) trivial (of_decide_eq_true ah_) (Nat.le_trans (Nat.mul_le_mul_right _ (of_decide_eq_true ah_:(l0_0.length:Int).toNat≤35184372088832)) (by omega)) (Below.refl _ _) (Nat.le_refl _) ?_;intro aW w22 ho23 hb hg_ hnew_;clear hg_ hnew_;(first | rw [← aR.out] at ho23 | (simp only [Int.reduceToNat] at ho23;rw [← aR.out] at ho23));have n0_:=am_ (Kd.R_elder' (rr_ ad.out) (Kd.R_base ho23) hb);have n1_:=am_ (Kd.R_lower (Kd.R_new' ho23 (Kd.R_lt (rr_ ad.out))) (below_size (b1_ HB.out aj.out)));have n2_:=am_ (blk_below (rb_ aa.out) hb);have n3_:=am_ (below_step (b1_ HB.out aj.out) hb);clear ad;clear aa;clear HB;have ad:=n0_;have bf:=n1_;have aa:=n2_;have HB:=n3_;clear n0_ n1_ n2_ n3_;clear hb ho23))
           go_loopg [8] k2 (fun kq v8 w'=>∃ (ap:List Int) (ab:Int),v8 = .int .i64 ab∧Aside0 (spec_l5Classes.l2 kq (l0_0.length:Int) ak ao ap ab l0_0 l0_1=some r)∧Aside0 (kq≤k2)∧Aside0 (Kd.R (Kd.int .i64) 3 w' w.heap.size (fun k_=>some k_ ≠ (aW:Value).ownBlock) u4 ak)∧Aside0 (Kd.R (Kd.int .i64) 3 w' w.heap.size (fun k_=>some k_ ≠ (u4:Value).ownBlock) aW ap)∧Aside0 (w'.heap[aq]? = some (.cells #[(.slice A0_0 l0_0.length c0_0),(.slice A0_1 l0_1.length c0_1)] 27 (0,0)))∧Aside0 (Below w.heap.size w w'))
           case atStart=>exact ⟨(aV),(0),(by first | rfl | (simp;done) | (simp [*];done)),H',⟨Nat.le_refl _⟩,⟨by refine rr_ ?_;exact Kd.R_mono ad.out (fun _ hk=>hk.2)⟩,⟨by refine rr_ ?_;exact Kd.R_mono bf.out (fun _ hk=>hk.2)⟩,⟨by refine rb_ ?_;exact aa.out⟩,⟨by exact zp6_0_ HB.out aj.out⟩⟩
           case round =>
            clear H'
            try clear c1
            try clear p1
            try clear q1
            try clear hx1
            try clear hf1
            try clear c2
            try clear c2b0
            try clear c2b1
            try clear p2
            try clear c3
            try clear c3b0
            try clear c3b1
            try clear p6
            try clear c8
            try clear c8b0
            try clear c9
            try clear c9b0
            try clear c10
            try clear c10b0
            try clear q11
            try clear c12
            try clear c13
            try clear c13b0
            try clear p14
            try clear q14
            try clear hx14
            try clear hf14
            try clear p15
            try clear q15
            try clear hx15
            try clear c19
            try clear c19b0
            try clear c20
            try clear c20b0
            try clear c20b1
            try clear c21
            try clear c21b0
            try clear c21b1
            try clear ay
            try clear az
            try clear aC
            try clear aD
            try clear au
            try clear av
            try clear aA
            try clear aB
            try clear aE
            try clear aF
            try clear aw
            try clear ax
            try clear aH
            try clear ai
            try clear p1
            try clear p14
            try clear p15
            try clear p150
            try clear p2
            try clear p6
            try clear q1
            try clear q11
            try clear q14
            try clear q15
            try clear q150
            obtain ⟨ap,ab,rfl,HA,HK3,ad,ag,aa,HB⟩:=hrel
            cases gk with
            | zero=>exact absurd HA.out (by simp [spec_l5Classes.l2])
            | succ k3 =>
             have H:=HA.out
             clear HA
             simp only [spec_l5Classes.l2] at H
             by_cases c24:ab<(l0_0.length:Int)
             ·rw [if_pos c24] at H
              have c24b0:decide (ab<(l0_0.length:Int))=true:=decide_eq_true c24
              clear c24
              by_cases c25:0≤ab
              ·rw [if_pos c25] at H
               have c25b0:decide (0≤ab)=true:=decide_eq_true c25
               clear c25
               by_cases c26:ab<(ap.length:Int)
               ·rw [if_pos c26] at H
                have c26b0:decide (ab<(ap.length:Int))=true:=decide_eq_true c26
                clear c26
                obtain ⟨aK,hy155⟩:∃ y_:List Int,y_=(ap.set (ab:Int).toNat ab):=⟨_,rfl⟩
                replace H:(spec_l5Classes.l3 k3 (l0_0.length:Int) ak ao aK ab 0 l0_0 l0_1)=some r:=by first | (rw [hy155];with_reducible exact H) | (have H2_:=(Option.bind_some _ _).symm.trans H;rw [hy155];with_reducible exact H2_) | (have H2_:=(Option.bind_some _ _).symm.trans H;with_reducible exact H2_) | with_reducible exact H | (rw [hy155];exact H) | exact H
                have bg:=am_ hy155
                clear hy155
                have H':=am_ H
                clear H
                have p27:0≤(ab:Int):=of_decide_eq_true ah_
                have q27:(ab:Int)<((ap.length:Int):Int):=of_decide_eq_true ah_
                obtain ⟨go27,ar,aX,aY,gl27,cl27,HG27⟩:=Kd.R_form ag.out (by omega)
                (first | cases aX | (injection aX with ea_ en_ ec_;(first | subst ea_ | (injection ea_ with ea_;subst ea_));subst ec_;clear en_))
                have GB27:=am_ aY
                have GG27:=am_ HG27
                clear aY gl27 HG27
                obtain ⟨aZ,hf27_0⟩:=Kd.R_celln 0 ag.out (ab:Int) p27 q27
                replace p27:=eq_true p27
                replace q27:=eq_true q27
                have HP28:=Kd.R_putg ag.out (ab:Int) ab
                go_wp2_with (first | ((with_reducible refine gate_store (t:=3) (p:=43) rfl ?_);refine store_event (t:=3) (p:=43) (v:=?vo_w29) (w1:=(wr.setCell ⟨go27,(ab:Int).toNat,none⟩ (.int .i64 ab))) ?hg ?ho ?hn ?hr ?_;(case ho=>rfl);(case hg=>rfl);(case hn=>rfl);(case hr=>first | (go_simp;done) | (go_simp;rfl));intro w29 hw;have hg:wr.grownBy w29 (some go27):=(by rw [hw];exact HP28.2);have hp_:Kd.R (Kd.int .i64) 3 w29 w.heap.size (fun k_=>some k_ ≠ (u4:Value).ownBlock) (.slice (some ⟨go27,0,none⟩) ap.length ar) aK:=(by rw [hw,bg.out];exact HP28.1);clear HP28;have n0_:=am_ (Kd.R_after (v:=(.slice (some ⟨go27,0,none⟩) ap.length ar)) (v1:=(.slice (some ⟨go27,0,none⟩) ap.length ar)) (ok:=(fun _=>True)) (by refine rr_ ?_;exact Kd.R_mono ad.out (fun _ hk=>⟨trivial,hk⟩)) hg (.inl rfl));have n1_:=am_ (hp_);have n2_:=am_ (blk_grown (g:=aq) (o:=.cells #[.slice A0_0 l0_0.length c0_0,.slice A0_1 l0_1.length c0_1] 27 (0,0)) (rb_ aa.out) hg (Kd.R_ne ag.out aa.out (by decide)));have n3_:=am_ ((by rw [hw];exact below_set (HB.out) GB27.out:Below w.heap.size w w29));clear ad;clear ag;clear aa;clear HB;have ad:=n0_;have ag:=n1_;have aa:=n2_;have HB:=n3_;clear n0_ n1_ n2_ n3_;clear hg hw hp_))
                go_loopg [9] k3 (fun kq v9 w'=>∃ (an:List Int) (am:Int),v9 = .int .i64 am∧Aside0 (spec_l5Classes.l3 kq (l0_0.length:Int) ak ao an ab am l0_0 l0_1=some r)∧Aside0 (kq≤k3)∧Aside0 (Kd.R (Kd.int .i64) 3 w' w.heap.size (fun k_=>some k_ ≠ ((.slice (some ⟨go27,0,none⟩) ap.length ar):Value).ownBlock) u4 ak)∧Aside0 (Kd.R (Kd.int .i64) 3 w' w.heap.size (fun k_=>some k_ ≠ (u4:Value).ownBlock) (.slice (some ⟨go27,0,none⟩) ap.length ar) an)∧Aside0 (w'.heap[aq]? = some (.cells #[(.slice A0_0 l0_0.length c0_0),(.slice A0_1 l0_1.length c0_1)] 27 (0,0)))∧Aside0 (Below w.heap.size w w'))
                case atStart=>exact ⟨(aK),(0),(by first | rfl | (simp;done) | (simp [*];done)),H',⟨Nat.le_refl _⟩,⟨by refine rr_ ?_;exact Kd.R_mono ad.out (fun _ hk=>hk.2)⟩,⟨by refine rr_ ?_;exact ag.out⟩,⟨by refine rb_ ?_;exact aa.out⟩,⟨by exact zp6_0_ HB.out aj.out⟩⟩
                case round =>
                 clear H'
                 try clear c1
                 try clear p1
                 try clear q1
                 try clear hx1
                 try clear hf1
                 try clear c2
                 try clear c2b0
                 try clear c2b1
                 try clear p2
                 try clear q2
                 try clear hx2
                 try clear hf2
                 try clear c3
                 try clear c3b0
                 try clear c3b1
                 try clear p6
                 try clear c8
                 try clear c8b0
                 try clear c9
                 try clear c9b0
                 try clear c10
                 try clear c10b0
                 try clear q11
                 try clear c12
                 try clear c13
                 try clear c13b0
                 try clear p14
                 try clear q14
                 try clear hx14
                 try clear hf14
                 try clear p15
                 try clear q15
                 try clear hx15
                 try clear c19
                 try clear c19b0
                 try clear c20
                 try clear c20b0
                 try clear c20b1
                 try clear c21
                 try clear c21b0
                 try clear c21b1
                 try clear c24
                 try clear c24b0
                 try clear c25
                 try clear c25b0
                 try clear c26
                 try clear c26b0
                 try clear p27
                 try clear q27
                 try clear hx27
                 try clear hf27
                 try clear ay
                 try clear az
                 try clear aC
                 try clear aD
                 try clear au
                 try clear av
                 try clear aA
                 try clear aB
                 try clear aE
                 try clear aF
                 try clear aw
                 try clear ax
                 try clear aH
                 try clear ai
                 try clear aZ
                 try clear p1
                 try clear p14
                 try clear p15
                 try clear p150
                 try clear p2
                 try clear p27
                 try clear p6
                 try clear q1
                 try clear q11
                 try clear q14
                 try clear q15
                 try clear q150
                 try clear q27
                 obtain ⟨an,am,rfl,HA,HK4,ad,ag,aa,HB⟩:=hrel
                 have hl7_4:=(Kd.R_reads' ag.out).1
                 rw [hl7_4] at ag
                 (try simp only [hl7_4])
                 (try simp only [hl7_4] at aa)
                 (try simp only [hl7_4] at ad)
                 cases gk with
                 | zero=>exact absurd HA.out (by simp [spec_l5Classes.l3])
                 | succ k4 =>
                  have H:=HA.out
                  clear HA
                  simp only [spec_l5Classes.l3] at H
                  by_cases c30:am<ab
                  ·rw [if_pos c30] at H
                   have c30b0:decide (am<ab)=true:=decide_eq_true c30
                   clear c30
                   replace H:=Option.bind_eq_some_iff.mp H
                   obtain ⟨aI,ba,H⟩:=H
                   have A31:=am_ ba
                   clear ba
                   by_cases c32:aI=true
                   ·subst c32
                    have H1:(if 0≤ab then (if ab<(an.length:Int) then (spec_l5Classes.l2 k4 (l0_0.length:Int) ak ao (an.set (ab:Int).toNat am) (wrap64 (ab+1)) l0_0 l0_1) else (none)) else (none))=some r:=by rw [if_pos rfl] at H;exact H
                    clear H
                    have H:=H1
                    clear H1
                    by_cases c33:0≤ab
                    ·rw [if_pos c33] at H
                     have c33b0:decide (0≤ab)=true:=decide_eq_true c33
                     clear c33
                     by_cases c34:ab<(an.length:Int)
                     ·rw [if_pos c34] at H
                      have c34b0:decide (ab<(an.length:Int))=true:=decide_eq_true c34
                      clear c34
                      obtain ⟨aL,hy157⟩:∃ y_:List Int,y_=(an.set (ab:Int).toNat am):=⟨_,rfl⟩
                      replace H:(spec_l5Classes.l2 k4 (l0_0.length:Int) ak ao aL (wrap64 (ab+1)) l0_0 l0_1)=some r:=by first | (rw [hy157];with_reducible exact H) | (have H2_:=(Option.bind_some _ _).symm.trans H;rw [hy157];with_reducible exact H2_) | (have H2_:=(Option.bind_some _ _).symm.trans H;with_reducible exact H2_) | with_reducible exact H | (rw [hy157];exact H) | exact H
                      have bh:=am_ hy157
                      clear hy157
                      have H':=am_ H
                      clear H
                      have bo:=ck_ (v:=(.slice A0_0 l0_0.length c0_0)) aa 0 rfl
                      have bp:=ck_ (v:=(.slice A0_1 l0_1.length c0_1)) aa 1 rfl
                      have bq:=blk_frozen aa.out 0
                      have br:=blk_frozen aa.out 1
                      obtain ⟨bb,bc,bk⟩:=Kd.R_slice ad.out
                      subst bk
                      go_wp2_with (first | ((with_reducible refine gate_callee (f:=133) rfl ?_);refine gL_ (some 53) Try.func133 #[.agg #[.slice A0_0 l0_0.length c0_0,.slice A0_1 l0_1.length c0_1],.slice bb ak.length bc,.int .i64 am,.int .i64 ab] ?_;(with_reducible refine (spec_l5Same.calls k4 _ _ l0_0 _ _ l0_1 _ _ ak am ab true _ ?side1 ?side2 ?side3 ?side4 ?side5 ?side6 A31.out).mono ?_);(case side1=>exact rc_ (Kd.C_below aG.out HB.out));(case side2=>exact aM.out);(case side3=>exact rc_ (Kd.C_below aN.out HB.out));(case side4=>exact aO.out);(case side5=>exact rc_ ((Kd.R_reads' ad.out).2.2));(case side6=>exact (Kd.R_reads' ad.out).2.1);rintro e w38 ⟨rfl,hb⟩;refine ⟨_,rfl,?_⟩;have n0_:=am_ (Kd.R_below (rr_ ad.out) hb);have n1_:=am_ (Kd.R_below (rr_ ag.out) hb);have n2_:=am_ (blk_below (rb_ aa.out) hb);have n3_:=am_ (below_step (b1_ HB.out aj.out) hb);clear ad;clear ag;clear aa;clear HB;have ad:=n0_;have ag:=n1_;have aa:=n2_;have HB:=n3_;clear n0_ n1_ n2_ n3_;(try clear hb);(try clear hb2);(try clear hk);(try clear hi);have p35:0≤(ab:Int):=of_decide_eq_true ah_;have q35:(ab:Int)<((an.length:Int):Int):=of_decide_eq_true ah_;obtain ⟨bw,hf35_0⟩:=Kd.R_celln 0 ag.out (ab:Int) p35 q35;replace p35:=eq_true p35;replace q35:=eq_true q35;obtain ⟨hy39_,hz39_⟩:=Kd.R_celln 0 ag.out (ab:Int) (of_decide_eq_true ah_) (of_decide_eq_true ah_);have HP39:=Kd.R_putg ag.out (ab:Int) am) | ((with_reducible refine gate_store (t:=3) (p:=57) rfl ?_);refine store_event (t:=3) (p:=57) (v:=?vo_w40) (w1:=(w38.setCell ⟨go27,(ab:Int).toNat,none⟩ (.int .i64 am))) ?hg ?ho ?hn ?hr ?_;(case ho=>rfl);(case hg=>rfl);(case hn=>rfl);(case hr=>first | (go_simp;done) | (go_simp;rfl));intro w40 hw;have hg:w38.grownBy w40 (some go27):=(by rw [hw];exact HP39.2);have hp_:Kd.R (Kd.int .i64) 3 w40 w.heap.size (fun k_=>some k_ ≠ (.slice bb ak.length bc:Value).ownBlock) (.slice (some ⟨go27,0,none⟩) an.length ar) aL:=(by rw [hw,bh.out];exact HP39.1);clear HP39;have n0_:=am_ (Kd.R_after (v:=(.slice (some ⟨go27,0,none⟩) an.length ar)) (v1:=(.slice (some ⟨go27,0,none⟩) an.length ar)) (ok:=(fun _=>True)) (by refine rr_ ?_;exact Kd.R_mono ad.out (fun _ hk=>⟨trivial,hk⟩)) hg (.inl rfl));have n1_:=am_ (hp_);have n2_:=am_ (blk_grown (g:=aq) (o:=.cells #[.slice A0_0 l0_0.length c0_0,.slice A0_1 l0_1.length c0_1] 27 (0,0)) (rb_ aa.out) hg (Kd.R_ne ag.out aa.out (by decide)));have n3_:=am_ ((by rw [hw];exact below_set (HB.out) GB27.out:Below w.heap.size w w40));clear ad;clear ag;clear aa;clear HB;have ad:=n0_;have ag:=n1_;have aa:=n2_;have HB:=n3_;clear n0_ n1_ n2_ n3_;clear hg hw hp_))
                      (try simp only [← hl7_4])
                      go_roundg k4
                      case measure=>have:=HK1.out;have:=HK2.out;have:=HK3.out;have:=HK4.out;omega
                      case rel=>exact ⟨(aL),(wrap64 (ab+1)),(by first | rfl | (simp;done) | (simp [*];done)),H',⟨by have:=HK1.out;have:=HK2.out;have:=HK3.out;have:=HK4.out;omega⟩,⟨by (try simp only [hl7_4]);refine rr_ ?_;exact Kd.R_mono ad.out (fun _ hk=>hk.2)⟩,⟨by (try simp only [hl7_4]);refine rr_ ?_;exact ag.out⟩,⟨by (try simp only [hl7_4]);refine rb_ ?_;exact aa.out⟩,⟨by exact zp6_0_ HB.out aj.out⟩⟩
                     ·rw [if_neg c34] at H
                      exact absurd H (by simp)
                    ·rw [if_neg c33] at H
                     exact absurd H (by simp)
                   ·replace c32:=Bool.eq_false_iff.mpr c32
                    subst c32
                    have H1:(spec_l5Classes.l3 k4 (l0_0.length:Int) ak ao an ab (wrap64 (am+1)) l0_0 l0_1)=some r:=by rw [if_neg (show ¬ (false=true) by decide)] at H;exact H
                    clear H
                    have H:=H1
                    clear H1
                    have H':=am_ H
                    clear H
                    have bs:=ck_ (v:=(.slice A0_0 l0_0.length c0_0)) aa 0 rfl
                    have bt:=ck_ (v:=(.slice A0_1 l0_1.length c0_1)) aa 1 rfl
                    have bu:=blk_frozen aa.out 0
                    have bv:=blk_frozen aa.out 1
                    obtain ⟨bl,bm,bn⟩:=Kd.R_slice ad.out
                    subst bn
                    go_wp2_with (first | ((with_reducible refine gate_callee (f:=133) rfl ?_);refine gL_ (some 53) Try.func133 #[.agg #[.slice A0_0 l0_0.length c0_0,.slice A0_1 l0_1.length c0_1],.slice bl ak.length bm,.int .i64 am,.int .i64 ab] ?_;(with_reducible refine (spec_l5Same.calls k4 _ _ l0_0 _ _ l0_1 _ _ ak am ab false _ ?side1 ?side2 ?side3 ?side4 ?side5 ?side6 A31.out).mono ?_);(case side1=>exact rc_ (Kd.C_below aG.out HB.out));(case side2=>exact aM.out);(case side3=>exact rc_ (Kd.C_below aN.out HB.out));(case side4=>exact aO.out);(case side5=>exact rc_ ((Kd.R_reads' ad.out).2.2));(case side6=>exact (Kd.R_reads' ad.out).2.1);rintro e w43 ⟨rfl,hb⟩;refine ⟨_,rfl,?_⟩;have n0_:=am_ (Kd.R_below (rr_ ad.out) hb);have n1_:=am_ (Kd.R_below (rr_ ag.out) hb);have n2_:=am_ (blk_below (rb_ aa.out) hb);have n3_:=am_ (below_step (b1_ HB.out aj.out) hb);clear ad;clear ag;clear aa;clear HB;have ad:=n0_;have ag:=n1_;have aa:=n2_;have HB:=n3_;clear n0_ n1_ n2_ n3_;(try clear hb);(try clear hb2);(try clear hk);(try clear hi)))
                    (try simp only [← hl7_4])
                    go_roundg k4
                    case measure=>have:=HK1.out;have:=HK2.out;have:=HK3.out;have:=HK4.out;omega
                    case rel=>exact ⟨(an),(wrap64 (am+1)),(by first | rfl | (simp;done) | (simp [*];done)),H',⟨by have:=HK1.out;have:=HK2.out;have:=HK3.out;have:=HK4.out;omega⟩,⟨by (try simp only [hl7_4]);refine rr_ ?_;exact ad.out⟩,⟨by (try simp only [hl7_4]);refine rr_ ?_;exact ag.out⟩,⟨by (try simp only [hl7_4]);refine rb_ ?_;exact aa.out⟩,⟨by exact zp6_0_ HB.out aj.out⟩⟩
                  ·rw [if_neg c30] at H
                   have c30b0:decide (am<ab)=false:=decide_eq_false c30
                   clear c30
                   have H':=am_ H
                   clear H
                   go_wp2
                   (try simp only [← hl7_4])
                   go_roundg k4
                   case measure=>have:=HK1.out;have:=HK2.out;have:=HK3.out;have:=HK4.out;omega
                   case rel=>exact ⟨(an),(wrap64 (ab+1)),(by first | rfl | (simp;done) | (simp [*];done)),H',⟨by have:=HK1.out;have:=HK2.out;have:=HK3.out;have:=HK4.out;omega⟩,⟨by (try simp only [hl7_4]);refine rr_ ?_;exact ad.out⟩,⟨by (try simp only [hl7_4]);refine rr_ ?_;exact ag.out⟩,⟨by (try simp only [hl7_4]);refine rb_ ?_;exact aa.out⟩,⟨by exact zp6_0_ HB.out aj.out⟩⟩
               ·rw [if_neg c26] at H
                exact absurd H (by simp)
              ·rw [if_neg c25] at H
               exact absurd H (by simp)
             ·rw [if_neg c24] at H
              have c24b0:decide (ab<(l0_0.length:Int))=false:=decide_eq_false c24
              clear c24
              have H':=am_ H
              clear H
              go_wp2
              go_roundg k3
              case measure=>have:=HK1.out;have:=HK2.out;have:=HK3.out;omega
              case rel=>exact ⟨(ap),(wrap64 (ao+1)),(by first | rfl | (simp;done) | (simp [*];done)),H',⟨by have:=HK1.out;have:=HK2.out;have:=HK3.out;omega⟩,⟨by refine rr_ ?_;exact Kd.R_mono ag.out (fun _ hk=>trivial)⟩,⟨by refine rb_ ?_;exact aa.out⟩,⟨by exact zp6_0_ HB.out aj.out⟩⟩
          ·rw [if_neg c21] at H
           exact absurd H (by simp)
         ·rw [if_neg c20] at H
          exact absurd H (by simp)
        ·rw [if_neg c19] at H
         have c19b0:decide (ao≤(l0_0.length:Int))=false:=decide_eq_false c19
         clear c19
         obtain rfl:=Option.some.inj H
         simp only [Option.some.injEq,Prod.mk.injEq] at H
         obtain ⟨rfl⟩:=H
         go_wp2
         go_ret
         exact ⟨_,by first | rfl | (simp [errW_none,errW_some] <;> rfl) | (simp [*,errW_none,errW_some] <;> rfl),by refine rr_ ?_;exact ad.out,by exact zp6_0_ HB.out aj.out⟩
  ·rw [if_neg c3] at H
   exact absurd H (by simp)
 ·rw [if_neg c2] at H
  exact absurd H (by simp)
end Go.Proofs.Ytogamkblkoobkaa.P
end
section
namespace Go.Proofs.Ytogamkblkoobkaa.Can
open Go.RowKit Go.Proofs.Ytogamkblkoobkaa Go.Proofs.Ytogamkblkoobkaa.P Go.Proofs.Ytogamkblkoobkaa.Lg Go.Proofs.Ytogamkblkoobkaa.Pl Go.Proofs.Ytogamkblkoobkaa.Mp Go.Proofs.Ytogamkblkoobkaa.Bf Go.Proofs.Ytogamkblkoobkaa.Mn Go.Proofs.YtogamkblkoobkaaW.PrintWords Go.Proofs.YtogamkblkoobkaaW.PrintLast Go.Proofs.YtogamkblkoobkaaW.PrintMore
def findOf (l:List Int) (x:Int):Int:=if x ∈ l then (l.idxOf x:Int) else -1
theorem find_l0 (l:List Int) (x:Int) (hl:l.length≤2000000):∀ d i:Nat,i+d=l.length→x ∉ l.take i→Ev (fun k=>spec_l5Find.l0 k l x i) (findOf l x):=by
 intro d
 induction d with
 | zero =>
  intro i h hx
  refine next ?_
  simp only [spec_l5Find.l0,if_neg (show ¬ (i:Int)<(l.length:Int) by omega)]
  rw [List.take_of_length_le (by omega)] at hx
  exact ev_some (by unfold findOf;rw [if_neg hx])
 | succ d ih =>
  intro i h hx
  have hi:i<l.length:=by omega
  refine next ?_
  simp only [spec_l5Find.l0,if_pos (show (i:Int)<(l.length:Int) by omega),if_pos (show (0:Int)≤(i:Int) by omega),rd_get l i hi]
  by_cases e:l[i]=x
  ·simp only [if_pos e]
   refine ev_some ?_
   have hm:x ∈ l:=e ▸ List.getElem_mem hi
   unfold findOf
   rw [if_pos hm]
   have:l.idxOf x=i:=by
    conv=>lhs;rw [← List.take_append_drop i l,List.drop_eq_getElem_cons hi]
    rw [List.idxOf_append,if_neg hx,e,List.idxOf_cons_self]
    simp
    omega
   rw [this]
  ·simp only [if_neg e]
   rw [up1 (by omega)]
   refine ih (i+1) (by omega) ?_
   rw [List.take_succ_eq_append_getElem hi]
   intro hm
   rcases List.mem_append.mp hm with q | q
   ·exact hx q
   ·rw [List.mem_singleton] at q
    exact e q.symm
theorem find_ev (l:List Int) (x:Int) (hl:l.length≤2000000):Ev (fun k=>spec_l5Find.f k l x) (findOf l x):=find_l0 l x hl l.length 0 (by omega) (by simp)
def eqAt (nx:List (List Int)) (cl:List Int) (p q:Int) (j:Int):Bool:=rd cl (rd (rowOf nx p) j) == rd cl (rd (rowOf nx q) j)
def sameB (nx:List (List Int)) (cl:List Int) (p q:Int):Bool:=(((rd cl p == rd cl q) && eqAt nx cl p q 0) && eqAt nx cl p q 1) && eqAt nx cl p q 2
theorem sameB_iff {nx:List (List Int)} {cl:List Int} {p q:Int}:sameB nx cl p q=true↔rd cl p=rd cl q∧∀ k:Fin 3,rd cl (rd (rowOf nx p) (k.val:Int))=rd cl (rd (rowOf nx q) (k.val:Int)):=by
 unfold sameB eqAt
 simp only [Bool.and_eq_true,beq_iff_eq]
 constructor
 ·rintro ⟨⟨⟨h,h0⟩,h1⟩,h2⟩
  refine ⟨h,fun k=>?_⟩
  match k with
  | 0=>exact h0
  | 1=>exact h1
  | 2=>exact h2
 ·rintro ⟨h,hk⟩
  exact ⟨⟨⟨h,hk 0⟩,hk 1⟩,hk 2⟩
section
variable {acc:List Bool} {nx:List (List Int)} {cl:List Int}
theorem same_step (hf:Fits acc nx) (hcl:cl.length=acc.length) {p q:Int} (hp:0≤p∧p<(acc.length:Int)) (hq:0≤q∧q<(acc.length:Int)) (b:Bool) (j:Nat) (hj:j<3) {r:Bool}
  (h:Ev (fun k=>spec_l5Same.l0 k cl p q (b && eqAt nx cl p q j) ((j+1:Nat):Int) acc nx) r):Ev (fun k=>spec_l5Same.l0 k cl p q b (j:Int) acc nx) r:=by
 refine next ?_
 have h1:(rd_L1 nx p).length=3∧∀ x ∈ rd_L1 nx p,0≤x∧x<(acc.length:Int):=hf.row p hp
 have h2:(rd_L1 nx q).length=3∧∀ x ∈ rd_L1 nx q,0≤x∧x<(acc.length:Int):=hf.row q hq
 have hl:=hf.len
 have e1:=h1.2 _ (rd_mem h1.1 ⟨j,hj⟩)
 have e2:=h2.2 _ (rd_mem h2.1 ⟨j,hj⟩)
 dsimp only at e1 e2
 cases b with
 | true =>
  simp only [spec_l5Same.l0,if_pos (show (j:Int)<3 by omega),if_pos hp.1,if_pos hq.1,if_pos (show p<(nx.length:Int) by omega),if_pos (show q<(nx.length:Int) by omega),if_pos (show (0:Int)≤(j:Int) by omega),if_pos (show (j:Int)<((rd_L1 nx p).length:Int) by omega),if_pos (show (j:Int)<((rd_L1 nx q).length:Int) by omega),if_pos e1.1,if_pos e2.1,if_pos (show rd (rd_L1 nx p) (j:Int)<(cl.length:Int) by omega),if_pos (show rd (rd_L1 nx q) (j:Int)<(cl.length:Int) by omega),if_true]
  rw [up1 (by omega)]
  exact h
 | false =>
  simp only [spec_l5Same.l0,if_pos (show (j:Int)<3 by omega),if_neg (show ¬ false=true by decide)]
  rw [up1 (by omega)]
  exact h
theorem same_ev (hf:Fits acc nx) (hcl:cl.length=acc.length) {p q:Int} (hp:0≤p∧p<(acc.length:Int)) (hq:0≤q∧q<(acc.length:Int)):Ev (fun k=>spec_l5Same.f k acc nx cl p q) (sameB nx cl p q):=by
 have hl:=hf.len
 have h0:Ev (fun k=>spec_l5Same.l0 k cl p q (rd cl p == rd cl q) ((0:Nat):Int) acc nx) (sameB nx cl p q):=by
  refine same_step hf hcl hp hq _ 0 (by omega) (same_step hf hcl hp hq _ 1 (by omega) (same_step hf hcl hp hq _ 2 (by omega) ?_))
  refine next ?_
  simp only [spec_l5Same.l0,if_neg (show ¬ ((2+1:Nat):Int)<3 by decide)]
  exact ev_some rfl
 refine h0.congr fun k=>?_
 simp only [spec_l5Same.f,if_pos hp.1,if_pos hq.1,if_pos (show p<(cl.length:Int) by omega),if_pos (show q<(cl.length:Int) by omega)]
 rfl
def cl0 (acc:List Bool):List Int:=acc.map fun b=>if b=true then 1 else 0
def leastF (nx:List (List Int)) (cl:List Int) (q:Nat):Int:=(((List.range q).find? (fun p:Nat=>sameB nx cl (p:Int) (q:Int))).getD q:Nat)
def refS (nx:List (List Int)) (cl:List Int):List Int:=(List.range cl.length).map (leastF nx cl)
def iterS (nx:List (List Int)):Nat→List Int→List Int
 | 0,cl=>cl
 | d+1,cl=>iterS nx d (refS nx cl)
theorem set_at {n i:Nat} (hi:i<n) (A:List Int) (hA:A.length=i) (y:Int):(A ++ List.replicate (n - i) (0:Int)).set i y=(A ++ [y]) ++ List.replicate (n - (i+1)) 0:=by
 have:=set_mid A (0:Int) y (List.replicate (n - (i+1)) 0)
 rw [hA] at this
 rw [show n - i=(n - (i+1))+1 by omega,List.replicate_succ]
 exact this
theorem cls_l3 (hf:Fits acc nx) (hcl:cl.length=acc.length) (hb:acc.length≤1100000) (t:Int) (X:List Int) (hX:X.length=acc.length) (i:Nat) (hi:i<acc.length) {r:List Int}
  (h:Ev (fun k=>spec_l5Classes.l2 k (acc.length:Int) cl t (X.set i (leastF nx cl i)) ((i+1:Nat):Int) acc nx) r) :
  ∀ d p:Nat,p+d=i→(∀ p':Nat,p' < p→sameB nx cl p' i=false)→Ev (fun k=>spec_l5Classes.l3 k (acc.length:Int) cl t (X.set i (i:Int)) (i:Int) (p:Int) acc nx) r:=by
 intro d
 induction d with
 | zero =>
  intro p hp hno
  refine next ?_
  simp only [spec_l5Classes.l3,if_neg (show ¬ (p:Int)<(i:Int) by omega)]
  rw [up1 (by omega)]
  have e:leastF nx cl i=(i:Int):=by
   unfold leastF
   have:(List.range i).find? (fun p:Nat=>sameB nx cl (p:Int) (i:Int))=none:=by
    rw [List.find?_eq_none]
    intro x hx
    rw [List.mem_range] at hx
    rw [hno x (by omega)]
    decide
   rw [this]
   rfl
  rw [← e]
  exact h
 | succ d ih =>
  intro p hp hno
  refine next ?_
  simp only [spec_l5Classes.l3,if_pos (show (p:Int)<(i:Int) by omega)]
  refine (same_ev hf hcl (p:=(p:Int)) (q:=(i:Int)) (by omega) (by omega)).bind ?_
  cases hs:sameB nx cl (p:Int) (i:Int) with
  | true =>
   simp only [if_true,if_pos (show (0:Int)≤(i:Int) by omega),if_pos (show (i:Int)<((X.set i (i:Int)).length:Int) by rw [List.length_set];omega),Int.toNat_natCast,List.set_set]
   rw [up1 (by omega)]
   have e:leastF nx cl i=(p:Int):=by
    unfold leastF
    have:(List.range i).find? (fun p:Nat=>sameB nx cl (p:Int) (i:Int))=some p:=by
     rw [List.find?_eq_some_iff_getElem]
     refine ⟨hs,p,by simp;omega,by simp,fun j hj=>?_⟩
     rw [List.getElem_range,hno j hj]
     rfl
    rw [this]
    rfl
   rw [← e]
   exact h
  | false =>
   simp only [if_neg (show ¬ false=true by decide)]
   rw [up1 (by omega)]
   refine ih (p+1) (by omega) fun p' hp'=>?_
   by_cases e:p' = p
   ·subst e;exact hs
   ·exact hno p' (by omega)
theorem cls_l2 (hf:Fits acc nx) (hcl:cl.length=acc.length) (hb:acc.length≤1100000) (t:Nat) (ht:t≤1100000) {r:List Int}
  (h:Ev (fun k=>spec_l5Classes.l1 k (acc.length:Int) (refS nx cl) ((t+1:Nat):Int) acc nx) r) :
  ∀ d i:Nat,i+d=acc.length→Ev (fun k=>spec_l5Classes.l2 k (acc.length:Int) cl (t:Int) ((List.range i).map (leastF nx cl) ++ List.replicate (acc.length - i) 0) (i:Int) acc nx) r:=by
 intro d
 induction d with
 | zero =>
  intro i hi
  refine next ?_
  simp only [spec_l5Classes.l2,if_neg (show ¬ (i:Int)<(acc.length:Int) by omega)]
  rw [up1 (by omega)]
  have e:(List.range i).map (leastF nx cl) ++ List.replicate (acc.length - i) 0=refS nx cl:=by
   unfold refS
   rw [hcl,show i=acc.length by omega]
   simp
  rw [e]
  exact h
 | succ d ih =>
  intro i hi
  refine next ?_
  have hlen:((List.range i).map (leastF nx cl) ++ List.replicate (acc.length - i) (0:Int)).length=acc.length:=by simp;omega
  simp only [spec_l5Classes.l2,if_pos (show (i:Int)<(acc.length:Int) by omega),if_pos (show (0:Int)≤(i:Int) by omega),if_pos (show (i:Int)<(((List.range i).map (leastF nx cl) ++ List.replicate (acc.length - i) (0:Int)).length:Int) by omega),Int.toNat_natCast]
  refine cls_l3 hf hcl hb (t:Int) _ hlen i (by omega) ?_ i 0 (by omega) (fun _ h=>by omega)
  rw [set_at (by omega) _ (by simp),← List.map_singleton,← List.map_append,← List.range_succ]
  exact ih (i+1) (by omega)
theorem refS_len (nx:List (List Int)) (cl:List Int):(refS nx cl).length=cl.length:=by simp [refS]
theorem cls_l1 (hf:Fits acc nx) (hb:acc.length≤1100000):∀ (d t:Nat) (cl:List Int),cl.length=acc.length→t+d=acc.length+1→Ev (fun k=>spec_l5Classes.l1 k (acc.length:Int) cl (t:Int) acc nx) (iterS nx d cl):=by
 intro d
 induction d with
 | zero =>
  intro t cl hcl ht
  refine next ?_
  simp only [spec_l5Classes.l1,if_neg (show ¬ (t:Int)≤(acc.length:Int) by omega)]
  exact ev_some rfl
 | succ d ih =>
  intro t cl hcl ht
  refine next ?_
  simp only [spec_l5Classes.l1,if_pos (show (t:Int)≤(acc.length:Int) by omega),if_pos (show (0:Int)≤(acc.length:Int) by omega),Int.toNat_natCast,if_pos (show acc.length≤35184372088832 by omega)]
  show Ev _ (iterS nx d (refS nx cl))
  have:=cls_l2 hf hcl hb t (by omega) (ih (t+1) (refS nx cl) (by rw [refS_len];exact hcl) (by omega)) acc.length 0 (by omega)
  simpa using this
theorem cls_l0 (hf:Fits acc nx) (hb:acc.length≤1100000) {r:List Int} (h:Ev (fun k=>spec_l5Classes.l1 k (acc.length:Int) (cl0 acc) 0 acc nx) r) :
  ∀ d i:Nat,i+d=acc.length→Ev (fun k=>spec_l5Classes.l0 k (acc.length:Int) ((acc.take i).map (fun b=>if b=true then (1:Int) else 0) ++ List.replicate (acc.length - i) 0) (i:Int) acc nx) r:=by
 intro d
 induction d with
 | zero =>
  intro i hi
  refine next ?_
  simp only [spec_l5Classes.l0,if_neg (show ¬ (i:Int)<(acc.length:Int) by omega)]
  rw [List.take_of_length_le (by omega),show acc.length - i=0 by omega]
  simpa [cl0] using h
 | succ d ih =>
  intro i hi
  refine next ?_
  have hii:i<acc.length:=by omega
  have hlen:(((acc.take i).map (fun b=>if b=true then (1:Int) else 0) ++ List.replicate (acc.length - i) (0:Int)).length:Int)=(acc.length:Int):=by simp;omega
  have hs:∀ y,((acc.take i).map (fun b=>if b=true then (1:Int) else 0) ++ List.replicate (acc.length - i) (0:Int)).set i y=((acc.take i).map (fun b=>if b=true then (1:Int) else 0) ++ [y]) ++ List.replicate (acc.length - (i+1)) 0:=fun y=>set_at hii _ (by simp;omega) y
  have hz:=hs 0
  have hsame:((acc.take i).map (fun b=>if b=true then (1:Int) else 0) ++ List.replicate (acc.length - i) (0:Int)).set i 0=(acc.take i).map (fun b=>if b=true then (1:Int) else 0) ++ List.replicate (acc.length - i) (0:Int):=by
   rw [hz,show acc.length - i=(acc.length - (i+1))+1 by omega,List.replicate_succ]
   simp
  have IH:=ih (i+1) (by omega)
  rw [List.take_succ_eq_append_getElem hii,List.map_append,List.map_singleton] at IH
  simp only [spec_l5Classes.l0,if_pos (show (i:Int)<(acc.length:Int) by omega),if_pos (show (0:Int)≤(i:Int) by omega),rdOf_get false acc i hii]
  rw [up1 (by omega)]
  cases hb2:acc[i] with
  | true =>
   rw [hb2] at IH
   simp only [if_true] at IH ⊢
   simp only [hlen,if_pos (show (i:Int)<(acc.length:Int) by omega),Int.toNat_natCast,hs]
   exact IH
  | false =>
   rw [hb2] at IH
   simp only [if_neg (show ¬ false=true by decide)] at IH ⊢
   rw [← hsame,hz]
   exact IH
theorem cls_ev (hf:Fits acc nx) (hb:acc.length≤1100000):Ev (fun k=>spec_l5Classes.f k acc nx) (iterS nx (acc.length+1) (cl0 acc)):=by
 have h1:=cls_l1 hf hb (acc.length+1) 0 (cl0 acc) (by simp [cl0]) (by omega)
 have h0:=cls_l0 hf hb h1 acc.length 0 (by omega)
 refine h0.congr fun k=>?_
 simp only [spec_l5Classes.f,if_pos (show (0:Int)≤(acc.length:Int) by omega),Int.toNat_natCast,if_pos (show acc.length≤35184372088832 by omega)]
 simp
end
end Go.Proofs.Ytogamkblkoobkaa.Can
end
