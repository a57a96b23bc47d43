/- Texts of the proof of FnDivided, put together. No condition. -/
import Derived.Test.YtogamkblkoobkaaQFnDivided7
import Derived.Test.YtogamkblkoobkaaQFnDivided2
import Derived.Shelf.Abstract
import Derived.Lib.Walk
import Derived.Test.YtogamkblkoobkaaQFnDivided6
import Derived.Test.YtogamkblkoobkaaQFnDivided4
set_option linter.unusedVariables false
set_option linter.unusedSimpArgs false
section
namespace Go.Proofs.Ytogamkblkoobkaa.Can
open Go.RowKit Go.Proofs.Ytogamkblkoobkaa Go.Proofs.Ytogamkblkoobkaa.P Go.Proofs.Ytogamkblkoobkaa.Wk Go.Proofs.Ytogamkblkoobkaa.Lg Go.Proofs.Ytogamkblkoobkaa.Pl Go.Proofs.Ytogamkblkoobkaa.Mp Go.Proofs.Ytogamkblkoobkaa.Bf Go.Proofs.Ytogamkblkoobkaa.Mn Go.Proofs.YtogamkblkoobkaaW.PrintWords Go.Proofs.YtogamkblkoobkaaW.PrintLast Go.Proofs.YtogamkblkoobkaaW.PrintMore
def putI (q:Int):List Int→List Int
 | []=>[q]
 | y :: t=>if y<q then y :: putI q t else if y=q then y :: t else q :: y :: t
abbrev Asc (l:List Int):Prop:=l.Pairwise (· < ·)
theorem putI_mem (q:Int):∀ (l:List Int) (y:Int),y ∈ putI q l↔y ∈ l∨y=q
 | [],y=>by simp [putI]
 | x :: t,y=>by
  rw [putI]
  split
  ·rw [List.mem_cons,List.mem_cons,putI_mem q t y,or_assoc]
  ·split
   ·rename_i h;subst h;simp only [List.mem_cons];constructor
    ·exact Or.inl
    ·rintro (h | h)
     ·exact h
     ·exact Or.inl h
   ·simp only [List.mem_cons];constructor
    ·rintro (h | h | h)
     ·exact Or.inr h
     ·exact Or.inl (Or.inl h)
     ·exact Or.inl (Or.inr h)
    ·rintro ((h | h) | h)
     ·exact Or.inr (Or.inl h)
     ·exact Or.inr (Or.inr h)
     ·exact Or.inl h
theorem putI_asc (q:Int):∀ (l:List Int),Asc l→Asc (putI q l)
 | [],_=>by simp [putI]
 | x :: t,h=>by
  obtain ⟨h1,h2⟩:=List.pairwise_cons.mp h
  rw [putI]
  split
  ·refine List.pairwise_cons.mpr ⟨fun y hy=>?_,putI_asc q t h2⟩
   rcases (putI_mem q t y).mp hy with hy | rfl
   ·exact h1 y hy
   ·assumption
  ·split
   ·exact h
   ·refine List.pairwise_cons.mpr ⟨fun y hy=>?_,h⟩
    rcases List.mem_cons.mp hy with rfl | hy
    ·omega
    ·have:=h1 y hy
     omega
theorem putI_len (q:Int):∀ (l:List Int),(putI q l).length≤l.length+1
 | []=>by simp [putI]
 | x :: t=>by
  have:=putI_len q t
  rw [putI]
  split
  ·simp only [List.length_cons];omega
  ·split <;> simp only [List.length_cons] <;> omega
theorem asc_ext:∀ {a b:List Int},Asc a→Asc b→(∀ y,y ∈ a↔y ∈ b)→a=b
 | [],[],_,_,_=>rfl
 | [],y :: t,_,_,h=>absurd ((h y).mpr (by simp)) (by simp)
 | y :: t,[],_,_,h=>absurd ((h y).mp (by simp)) (by simp)
 | x :: s,y :: t,ha,hb,h=>by
  obtain ⟨a1,a2⟩:=List.pairwise_cons.mp ha
  obtain ⟨b1,b2⟩:=List.pairwise_cons.mp hb
  have e:x=y:=by
   rcases List.mem_cons.mp ((h x).mp (by simp)) with e | e
   ·exact e
   ·rcases List.mem_cons.mp ((h y).mpr (by simp)) with e2 | e2
    ·exact e2.symm
    ·have:=b1 x e
     have:=a1 y e2
     omega
  subst e
  congr 1
  refine asc_ext a2 b2 fun z=>?_
  constructor
  ·intro hz
   rcases List.mem_cons.mp ((h z).mp (List.mem_cons_of_mem _ hz)) with e | e
   ·have:=a1 z hz;omega
   ·exact e
  ·intro hz
   rcases List.mem_cons.mp ((h z).mpr (List.mem_cons_of_mem _ hz)) with e | e
   ·have:=b1 z hz;omega
   ·exact e
theorem put_l0 (l:List Int) (q:Int) (hl:l.length≤100000):∀ d i:Nat,i+d=l.length→Ev (fun k=>spec_l6Put.l0 k l q (i:Int)) (l.take i ++ putI q (l.drop i))
 | 0,i,hi=>by
  refine next ?_
  have hd:l.drop i = []:=List.drop_eq_nil_of_le (by omega)
  have ht:l.take i=l:=List.take_of_length_le (by omega)
  simp only [spec_l6Put.l0,if_neg (show ¬ (i:Int)<(l.length:Int) by omega),if_pos (show (0:Int)≤(i:Int) by omega),if_pos (show (i:Int)≤(l.length:Int) by omega),Option.bind_some,Int.toNat_natCast,hd,ht,List.nil_append,List.append_nil,List.length_nil,Nat.zero_add,List.length_append,List.length_cons,Nat.add_zero,if_pos (show l.length<17592186044416 by omega),if_pos (show l.length+1<17592186044416 by omega),putI]
  exact Ev.now _
 | d+1,i,hi=>by
  have h:i<l.length:=by omega
  refine next ?_
  have hd:l.drop i=l[i] :: l.drop (i+1):=List.drop_eq_getElem_cons h
  simp only [spec_l6Put.l0,if_pos (show (i:Int)<(l.length:Int) by omega),if_pos (show (0:Int)≤(i:Int) by omega),rd_get l i h]
  rw [hd,putI]
  by_cases h1:l[i]<q
  ·simp only [if_pos h1]
   rw [up1 (by omega)]
   refine ev_eq (put_l0 l q hl d (i+1) (by omega)) ?_
   rw [List.take_succ_eq_append_getElem h,List.append_assoc,List.singleton_append]
  ·simp only [if_neg h1]
   by_cases h2:l[i]=q
   ·simp only [if_pos h2]
    refine ev_some ?_
    rw [← hd]
    simp
   ·have ht:(l.take i).length=i:=by rw [List.length_take];omega
    simp only [if_neg h2,if_pos (show (i:Int)≤(l.length:Int) by omega),Option.bind_some,Int.toNat_natCast,List.nil_append,List.length_nil,Nat.zero_add,ht,List.length_append,List.length_cons,List.length_drop,if_pos (show i<17592186044416 by omega),if_pos (show i+1+(l.length - i)<17592186044416 by omega)]
    refine ev_some ?_
    rw [← hd]
    simp
theorem put_ev (l:List Int) (q:Int) (hl:l.length≤100000):Ev (fun k=>spec_l6Put.f k l q) (putI q l):=by
 simp only [spec_l6Put.f]
 have:=put_l0 l q hl l.length 0 (by omega)
 simpa using this
def sl (s:Int):List Int:=((List.range 40).filter (fun q=>bit s q)).map (fun q:Nat=>(q:Int))
def Low (m:Nat) (s:Int):Prop:=U64 s∧∀ p,bit s p=true→p<m
theorem sl_mem {m:Nat} {s:Int} (hm:m≤40) (h:Low m s) (y:Int):y ∈ sl s↔∃ q:Nat,bit s q=true∧y=(q:Int):=by
 unfold sl
 rw [List.mem_map]
 constructor
 ·rintro ⟨q,hq,rfl⟩
  exact ⟨q,(List.mem_filter.mp hq).2,rfl⟩
 ·rintro ⟨q,hq,rfl⟩
  exact ⟨q,List.mem_filter.mpr ⟨List.mem_range.mpr (Nat.lt_of_lt_of_le (h.2 q hq) hm),hq⟩,rfl⟩
theorem sl_asc (s:Int):Asc (sl s):=by
 unfold sl Asc
 rw [List.pairwise_map]
 refine List.Pairwise.imp (fun h=>?_) (List.Pairwise.filter _ List.pairwise_lt_range)
 omega
theorem sl_len (s:Int):(sl s).length≤40:=by
 unfold sl
 rw [List.length_map]
 exact Nat.le_trans (List.length_filter_le _ _) (by simp)
theorem sl_inj {m:Nat} {s t:Int} (hm:m≤40) (hs:Low m s) (ht:Low m t) (h:sl s=sl t):s=t:=by
 refine bit_ext hs.1 ht.1 fun p=>?_
 have e:bit s p=true↔bit t p=true:=by
  have h1:=sl_mem hm hs (p:Int)
  have h2:=sl_mem hm ht (p:Int)
  rw [h] at h1
  constructor
  ·intro hb
   obtain ⟨q,hq,e⟩:=h2.mp (h1.mpr ⟨p,hb,rfl⟩)
   have:p=q:=by omega
   rw [this];exact hq
  ·intro hb
   obtain ⟨q,hq,e⟩:=h1.mp (h2.mpr ⟨p,hb,rfl⟩)
   have:p=q:=by omega
   rw [this];exact hq
 cases h1:bit s p <;> cases h2:bit t p <;> simp_all
theorem sl_one:sl 1 = [0]:=by
 unfold sl bit
 decide
theorem sl_zero:sl 0 = []:=by
 unfold sl bit
 decide
theorem low_one {m:Nat} (h:1≤m):Low m 1:=⟨⟨by omega,by omega⟩,fun p hp=>by
 unfold bit at hp
 have:(1:Int).toNat=1:=rfl
 rw [this,Nat.testBit_one_eq_true_iff_self_eq_zero] at hp
 omega⟩
theorem low_zero {m:Nat}:Low m 0:=⟨⟨by omega,by omega⟩,fun p hp=>by unfold bit at hp;simp at hp⟩
section
variable {a:List Bool} {n:List (List Int)} {s:Int}
theorem low_mv (hf:Fits a n) (ha:a.length≤40) (j:Nat) (hj:j<3):Low a.length (mvS n s (j:Int)):=by
 obtain ⟨h1,h2⟩:=mvS_bits (s:=s) hf ha j hj
 refine ⟨h1,fun p hp=>?_⟩
 obtain ⟨z,h3,_,h4⟩:=(h2 p).mp hp
 obtain ⟨g1,g2⟩:=hf.row (z:Int) (by have:=hf.len;omega)
 have:=(g2 (rd (rowOf n (z:Int)) (j:Int)) (by rw [rd_get _ j (by omega)];exact List.getElem_mem _)).2
 omega
theorem low_or (h:Low a.length s) (h1:1≤a.length):Low a.length (Go.bits .or .u64 s 1):=by
 obtain ⟨h2,h3⟩:=bit_one h.1
 refine ⟨h2,fun p hp=>?_⟩
 rw [h3,Bool.or_eq_true,decide_eq_true_iff] at hp
 rcases hp with hp | rfl
 ·exact h.2 p hp
 ·omega
theorem sl_or (ha:a.length≤40) (h1:1≤a.length) (h:Low a.length s):putI 0 (sl s)=sl (Go.bits .or .u64 s 1):=by
 refine asc_ext (putI_asc 0 _ (sl_asc s)) (sl_asc _) fun y=>?_
 rw [putI_mem,sl_mem ha h,sl_mem ha (low_or h h1)]
 obtain ⟨_,h3⟩:=bit_one h.1
 constructor
 ·rintro (⟨q,hq,rfl⟩ | rfl)
  ·exact ⟨q,by rw [h3,hq,Bool.true_or],rfl⟩
  ·exact ⟨0,by rw [h3];simp,rfl⟩
 ·rintro ⟨q,hq,rfl⟩
  rw [h3,Bool.or_eq_true,decide_eq_true_iff] at hq
  rcases hq with hq | rfl
  ·exact Or.inl ⟨q,hq,rfl⟩
  ·exact Or.inr rfl
def mvL (n:List (List Int)) (j:Int):List Int→List Int→List Int
 | [],out=>out
 | z :: t,out=>mvL n j t (putI (rd (rowOf n z) j) out)
theorem mvL_asc (n:List (List Int)) (j:Int):∀ (l out:List Int),Asc out→Asc (mvL n j l out)
 | [],out,h=>h
 | z :: t,out,h=>mvL_asc n j t _ (putI_asc _ _ h)
theorem mvL_mem (n:List (List Int)) (j:Int):∀ (l out:List Int) (y:Int),y ∈ mvL n j l out↔y ∈ out∨∃ z ∈ l,rd (rowOf n z) j=y
 | [],out,y=>by simp [mvL]
 | z :: t,out,y=>by
  rw [mvL,mvL_mem n j t _ y,putI_mem]
  constructor
  ·rintro ((h | h) | ⟨w,hw,h⟩)
   ·exact Or.inl h
   ·exact Or.inr ⟨z,by simp,h.symm⟩
   ·exact Or.inr ⟨w,List.mem_cons_of_mem _ hw,h⟩
  ·rintro (h | ⟨w,hw,h⟩)
   ·exact Or.inl (Or.inl h)
   ·rcases List.mem_cons.mp hw with rfl | hw
    ·exact Or.inl (Or.inr h.symm)
    ·exact Or.inr ⟨w,hw,h⟩
theorem mvL_sl (hf:Fits a n) (ha:a.length≤40) (h:Low a.length s) (j:Nat) (hj:j<3):mvL n (j:Int) (sl s) []=sl (mvS n s (j:Int)):=by
 refine asc_ext (mvL_asc n _ _ _ List.Pairwise.nil) (sl_asc _) fun y=>?_
 have hm:=low_mv (s:=s) hf ha j hj
 rw [mvL_mem,sl_mem ha hm]
 obtain ⟨_,h2⟩:=mvS_bits (s:=s) hf ha j hj
 have hl:=hf.len
 constructor
 ·rintro (h3 | ⟨z,hz,hy⟩)
  ·cases h3
  ·obtain ⟨q,hq,rfl⟩:=(sl_mem ha h z).mp hz
   have hq2:=h.2 q hq
   obtain ⟨g1,g2⟩:=hf.row (q:Int) (by omega)
   have:=(g2 (rd (rowOf n (q:Int)) (j:Int)) (by rw [rd_get _ j (by omega)];exact List.getElem_mem _)).1
   refine ⟨y.toNat,(h2 _).mpr ⟨q,by omega,hq,by omega⟩,by omega⟩
 ·rintro ⟨q,hq,rfl⟩
  obtain ⟨z,h3,h4,h5⟩:=(h2 q).mp hq
  exact Or.inr ⟨(z:Int),(sl_mem ha h _).mpr ⟨z,h4,rfl⟩,h5⟩
theorem move_l0 (hf:Fits a n) (ha:a.length≤40) (l:List Int) (hl:∀ z ∈ l,0≤z∧z<(a.length:Int)) (hn:l.length≤40) (j:Nat) (hj:j<3):∀ (d i:Nat) (out:List Int),i+d=l.length→out.length≤i→Ev (fun k=>spec_l6Move.l0 k l (j:Int) out (i:Int) a n) (mvL n (j:Int) (l.drop i) out)
 | 0,i,out,hi,ho=>by
  refine next ?_
  rw [List.drop_eq_nil_of_le (by omega)]
  simp only [spec_l6Move.l0,if_neg (show ¬ (i:Int)<(l.length:Int) by omega),mvL]
  exact Ev.now _
 | d+1,i,out,hi,ho=>by
  have h:i<l.length:=by omega
  refine next ?_
  rw [List.drop_eq_getElem_cons h]
  obtain ⟨z1,z2⟩:=hl l[i] (List.getElem_mem h)
  have hln:=hf.len
  obtain ⟨g1,_⟩:=hf.row l[i] ⟨z1,z2⟩
  have hrow:rd_L1 n l[i]=rowOf n l[i]:=rfl
  simp only [spec_l6Move.l0,if_pos (show (i:Int)<(l.length:Int) by omega),if_pos (show (0:Int)≤(i:Int) by omega),rd_get l i h,if_pos z1,if_pos (show l[i]<(n.length:Int) by omega),if_pos (show (0:Int)≤(j:Int) by omega),hrow,if_pos (show (j:Int)<((rowOf n l[i]).length:Int) by omega),mvL]
  refine Ev.bind (put_ev out _ (by omega)) ?_
  rw [up1 (by omega)]
  exact move_l0 hf ha l hl hn j hj d (i+1) _ (by omega) (by have:=putI_len (rd (rowOf n l[i]) (j:Int)) out;omega)
theorem sl_range (ha:a.length≤40) (h:Low a.length s):∀ z ∈ sl s,0≤z∧z<(a.length:Int):=fun z hz=>by
 obtain ⟨q,hq,rfl⟩:=(sl_mem ha h z).mp hz
 have:=h.2 q hq
 omega
theorem move_ev (hf:Fits a n) (ha:a.length≤40) (h:Low a.length s) (j:Nat) (hj:j<3):Ev (fun k=>spec_l6Move.f k a n (sl s) (j:Int)) (sl (mvS n s (j:Int))):=by
 simp only [spec_l6Move.f]
 rw [← mvL_sl hf ha h j hj]
 have:=move_l0 hf ha (sl s) (sl_range ha h) (sl_len s) j hj (sl s).length 0 [] (by omega) (by simp)
 simpa using this
theorem any_l0 (ha:a.length≤40) (l:List Int) (hl:∀ z ∈ l,0≤z∧z<(a.length:Int)) (hn:l.length≤40):∀ (d i:Nat),i+d=l.length→Ev (fun k=>spec_l6Any.l0 k l (i:Int) a n) ((l.drop i).any (fun z=>rdOf false a z))
 | 0,i,hi=>by
  refine next ?_
  rw [List.drop_eq_nil_of_le (by omega)]
  simp only [spec_l6Any.l0,if_neg (show ¬ (i:Int)<(l.length:Int) by omega),List.any_nil]
  exact Ev.now _
 | d+1,i,hi=>by
  have h:i<l.length:=by omega
  refine next ?_
  rw [List.drop_eq_getElem_cons h,List.any_cons]
  obtain ⟨z1,z2⟩:=hl l[i] (List.getElem_mem h)
  simp only [spec_l6Any.l0,if_pos (show (i:Int)<(l.length:Int) by omega),if_pos (show (0:Int)≤(i:Int) by omega),rd_get l i h,if_pos z1,if_pos z2]
  cases hb:rdOf false a l[i] with
  | true =>
   simp only [if_true,Bool.true_or]
   exact Ev.now _
  | false =>
   simp only [Bool.false_eq_true,if_false,Bool.false_or]
   rw [up1 (by omega)]
   exact any_l0 ha l hl hn d (i+1) (by omega)
theorem any_ev (ha:a.length≤40) (h:Low a.length s):Ev (fun k=>spec_l6Any.f k a n (sl s)) (acS a s):=by
 simp only [spec_l6Any.f]
 have h1:=any_l0 (n:=n) ha (sl s) (sl_range ha h) (sl_len s) (sl s).length 0 (by omega)
 have e:(sl s).any (fun z=>rdOf false a z)=acS a s:=by
  have:(sl s).any (fun z=>rdOf false a z)=true↔acS a s=true:=by
   rw [List.any_eq_true,acS_iff]
   constructor
   ·rintro ⟨z,hz,hb⟩
    obtain ⟨q,hq,rfl⟩:=(sl_mem ha h z).mp hz
    exact ⟨q,h.2 q hq,hb,hq⟩
   ·rintro ⟨p,_,hb,hp⟩
    exact ⟨(p:Int),(sl_mem ha h _).mpr ⟨p,hp,rfl⟩,hb⟩
  cases h1:(sl s).any (fun z=>rdOf false a z) <;> cases h2:acS a s <;> simp_all
 rw [← e]
 simpa using h1
end
abbrev Ss:=S78
def find6 {α:Type} [DecidableEq α] (L:List α) (y:α):Int:=if y ∈ L then (L.idxOf y:Int) else -1
theorem ss_eq {x y:Ss} (h0:x.f0=y.f0) (h2:x.f2=y.f2) (h1:x.f1=y.f1):x=y:=by
 obtain ⟨a,b,c⟩:=x
 obtain ⟨a',b',c'⟩:=y
 cases h0
 cases h1
 cases h2
 rfl
theorem rd_map {α:Type} (en:α→Ss) (L:List α) (i:Nat) (h:i<L.length):rd_T78 (L.map en) (i:Int)=en L[i]:=by
 unfold rd_T78
 rw [Int.toNat_natCast,List.getD_eq_getElem?_getD,List.getElem?_eq_getElem (by simpa using h),Option.getD_some,List.getElem_map]
theorem find6_l0 {α:Type} [DecidableEq α] (en:α→Ss) (L:List α) (y:α) (hinj:∀ x ∈ L,en x=en y→x=y) (hlen:∀ x ∈ L,(en x).f1.length≤40) (hL:L.length≤100000):∀ d i:Nat,i+d=L.length→y ∉ L.take i→Ev (fun k=>spec_l6Find.l0 k (L.map en) (i:Int) (en y).f0 (en y).f1 (en y).f2) (find6 L y)
 | 0,i,h,hx=>by
  refine next ?_
  simp only [spec_l6Find.l0,if_neg (show ¬ (i:Int)<((L.map en).length:Int) by rw [List.length_map];omega)]
  rw [List.take_of_length_le (by omega)] at hx
  exact ev_some (by unfold find6;rw [if_neg hx])
 | d+1,i,h,hx=>by
  have hi:i<L.length:=by omega
  have IH:L[i] ≠ y→Ev (fun k=>spec_l6Find.l0 k (L.map en) ((i+1:Nat):Int) (en y).f0 (en y).f1 (en y).f2) (find6 L y):=fun e=>by
   refine find6_l0 en L y hinj hlen hL d (i+1) (by omega) ?_
   rw [List.take_succ_eq_append_getElem hi]
   intro hm
   rcases List.mem_append.mp hm with q | q
   ·exact hx q
   ·rw [List.mem_singleton] at q
    exact e q.symm
  refine next ?_
  simp only [spec_l6Find.l0,if_pos (show (i:Int)<((L.map en).length:Int) by rw [List.length_map];omega),if_pos (show (0:Int)≤(i:Int) by omega),rd_map en L i hi]
  rw [up1 (by omega)]
  have hne:∀ {p:Prop},(en L[i]=en y→p)→¬ p→L[i] ≠ y:=fun f hp e=>hp (f (by rw [e]))
  by_cases c0:(en L[i]).f0=(en y).f0
  ·simp only [if_pos c0]
   by_cases c2:((en L[i]).f2 == (en y).f2)=true
   ·simp only [if_pos c2]
    refine Ev.bind (spec_ints _ _ (by have:=hlen _ (List.getElem_mem hi);omega)) ?_
    by_cases c1:(en L[i]).f1=(en y).f1
    ·simp only [c1,decide_true,if_true]
     have e:L[i]=y:=hinj _ (List.getElem_mem hi) (ss_eq c0 (beq_iff_eq.mp c2) c1)
     refine ev_some ?_
     have hm:y ∈ L:=e ▸ List.getElem_mem hi
     unfold find6
     rw [if_pos hm]
     have:L.idxOf y=i:=by
      conv=>lhs;rw [← List.take_append_drop i L,List.drop_eq_getElem_cons hi]
      rw [List.idxOf_append,if_neg hx,e,List.idxOf_cons_self]
      simp
      omega
     rw [this]
    ·simp only [decide_eq_false c1,Bool.false_eq_true,if_false]
     exact IH (hne (p:=(en L[i]).f1=(en y).f1) (fun e=>by rw [e]) c1)
   ·simp only [if_neg c2]
    exact IH (hne (p:=((en L[i]).f2 == (en y).f2)=true) (fun e=>by rw [e];exact beq_self_eq_true _) c2)
  ·simp only [if_neg c0]
   exact IH (hne (p:=(en L[i]).f0=(en y).f0) (fun e=>by rw [e]) c0)
theorem find6_ev {α:Type} [DecidableEq α] (en:α→Ss) (L:List α) (y:α) (hinj:∀ x ∈ L,en x=en y→x=y) (hlen:∀ x ∈ L,(en x).f1.length≤40) (hL:L.length≤100000):Ev (fun k=>spec_l6Find.f k (L.map en) (en y).f0 (en y).f1 (en y).f2) (find6 L y):=by
 simp only [spec_l6Find.f]
 exact find6_l0 en L y hinj hlen hL L.length 0 (by omega) (by simp)
theorem find6_in {α:Type} [DecidableEq α] {L:List α} {y:α} (h:y ∈ L):find6 L y=num L y:=by
 unfold find6
 rw [if_pos h,num_eq h]
end Go.Proofs.Ytogamkblkoobkaa.Can
end
section
namespace Go.Proofs.Ytogamkblkoobkaa.Wk
open Go.RowKit Go.Shelf Go.Proofs.Ytogamkblkoobkaa.P Go.Proofs.Ytogamkblkoobkaa.Pl Go.Proofs.Ytogamkblkoobkaa.Mp Go.Proofs.Ytogamkblkoobkaa.Bf Go.Proofs.Ytogamkblkoobkaa.Mn Go.Proofs.YtogamkblkoobkaaW.PrintWords Go.Proofs.YtogamkblkoobkaaW.PrintLast Go.Proofs.YtogamkblkoobkaaW.PrintMore
theorem results_ctt {P:Program} {fn:Func} {p u v:Tmp} {ty:TypeId} (h:fn.results = #[.cell p ty,.tmp u,.tmp v]) (tmps:Array Value) (w:World) (g:Nat) (t:TypeId) (cs:Array Value) (fr:Nat × Nat) (d:TypeDesc)
  (hp:tmps.getD p undef = .pointer (some ⟨g,0,none⟩)) (hg:w.heap[g]? = some (.cells cs t fr))
  (hu:P.underlying ty=some d) (hd:(match d with | .struct _ | .array _ _=>true | _=>false)=true) (hi:(P.info? ty).map (·.size)=some cs.size) :
  (results fn tmps).run P w = .ok (.tuple #[.agg cs,tmps.getD u undef,tmps.getD v undef]) w:=by
 have hp':tmps[p]?.getD undef = .pointer (some ⟨g,0,none⟩):=by simpa using hp
 simp [results,h,hp',asAddr,run_loadVar_row w g t ty cs fr d hg hu hd hi]
theorem S_over_map {P:Program} {k e:TypeId} {q:IntKind} {α β:Type} {enc:α→Value} {okk:α→Prop} {w w':World} {b c:Nat} {m:α→Option Int} {d:Kd β} {e' base:Nat} {ok:Nat→Prop} {v:Value} {xs:List β} (h:Kd.S d e' w base ok v xs) (hM:MapIs P k e q enc okk w b m c) (hg:w.grownBy w' (some b)):Kd.S d e' w' base ok v xs:=by
 obtain ⟨f,h⟩:=h
 exact ⟨f,R_over_map h hM hg⟩
theorem map_ne {P:Program} {k e:TypeId} {q:IntKind} {α:Type} {enc:α→Value} {okk:α→Prop} {w:World} {b c g:Nat} {m:α→Option Int} {t:TypeId} {cells:Array Value} (hM:MapIs P k e q enc okk w b m c) (h:w.heap[g]? = some (.cells cells t (0,0))):some g ≠ some b:=by
 obtain ⟨D,⟨es,clock,hb,_⟩,_⟩:=hM
 intro he
 injection he with he
 subst he
 rw [h] at hb
 cases hb
section
variable {w w' w2:World} {ok:Nat→Prop} {vl:Value} {gm g8 g13:Nat} {L Lm:List Pr} {A:List Bool} {M:List (List Int)} {u0 u1 b0 b1:Value}
theorem own_at {W:World} {v v1:Value} {N:Nat} (hat:v1.ownBlock=v.ownBlock∨∃ b,v1.ownBlock=some b∧W.heap.size≤b) (ho:∀ k,v.ownBlock=some k→N≤k) (hs:N≤W.heap.size):∀ k,v1.ownBlock=some k→N≤k:=fun k hk=>by
 rcases hat with h | ⟨b,hb,hle⟩
 ·exact ho k (h ▸ hk)
 ·rw [hb] at hk
  injection hk with hk
  omega
end
end Go.Proofs.Ytogamkblkoobkaa.Wk
end
section
namespace Go.Proofs.Ytogamkblkoobkaa.Wk
open Go.RowKit Go.Shelf Go.Proofs.Ytogamkblkoobkaa.P Go.Proofs.Ytogamkblkoobkaa.Pl Go.Proofs.Ytogamkblkoobkaa.Mp Go.Proofs.Ytogamkblkoobkaa.Bf Go.Proofs.YtogamkblkoobkaaW.PrintWords Go.Proofs.YtogamkblkoobkaaW.PrintLast Go.Proofs.YtogamkblkoobkaaW.PrintMore
def encR (x:Pr):Value:=.agg #[.int .i64 x.1,.int .u64 x.2]
abbrev wfR (x:Pr):Prop:=wfI x.1∧(Lit.int .u64 x.2).wf=true
abbrev kdR:Kd Pr:=Kd.pair (Kd.int .i64) (Kd.int .u64)
theorem keyR (x:Pr) (h:wfR x):∃ l,keyOf Try.prog 86 (encR x)=some l:=by
 have hu:=Try.underlying86
 have hk:Try.prog.keyType 86=true:=by kernel_rfl
 have hc:Try.prog.cellsOf 86=2:=by kernel_rfl
 have h3:Try.prog.cellsOf 3=1:=by kernel_rfl
 have h8:Try.prog.cellsOf 84=1:=by kernel_rfl
 have hui:=Try.underlying3
 have hu8:=Try.underlying84
 obtain ⟨m,hm⟩:∃ m,Try.prog.types.size=m+1:=⟨Try.prog.types.size - 1,by have:0<Try.prog.types.size:=of_decide_eq_true (by kernel_rfl);omega⟩
 unfold keyOf encR
 simp only [hu]
 rw [if_pos (by simp [hk,Value.formed,hu,hc])]
 rw [hm]
 unfold Program.keyLits
 simp only [hu,Value.cells]
 rw [if_pos (by rw [hc];simp)]
 unfold Program.keyLits
 simp [hui,hu8,h3,h8,h.1,h.2]
theorem mapR:MapTy Try.prog 123 86 3 .i64 encR wfR where
 K:=Go.Maps.Keyed.of_law (deep_law_laid laidOutP (m:=2) (by omega) (of_decide_eq_true (by kernel_rfl)) (by kernel_rfl) (by rw [Try.underlying86]))
 ht:=Try.underlying123
 he:=Try.underlying3
 hz:=fun w=>by kernel_rfl
 key:=keyR
 inj:=fun x y h=>by
  unfold encR at h
  injection h with h
  have h1:=congrArg (fun z:Array Value=>z[0]?) h
  have h2:=congrArg (fun z:Array Value=>z[1]?) h
  simp at h1 h2
  exact Prod.ext h1 h2
theorem infoR:(Try.prog.info? 86).map (fun i=>(i.zero,i.size,i.bytes))=some (some (.agg #[.int .i64 0,.int .u64 0]),2,16):=by kernel_rfl
theorem at_reached {w:World} {A:Option Addr} {n:Nat} {xs:List Pr} (h:kdR.C w A n xs) (i:Nat) (hi:i<xs.length) (hn:n=xs.length):∃ ad,A=some ad∧w.cell? (ad.add (i * 2))=some (.int .i64 xs[i].1)∧w.cell? ⟨(ad.add (i * 2)).block,(ad.add (i * 2)).off+1,none⟩=some (.int .u64 xs[i].2):=by
 obtain ⟨ad,c,hA,hl,hk,hc⟩:=Kd.C_get h (0,0) (i:Int) (by omega) (by omega)
 rw [Int.toNat_natCast] at hk hc
 have e:xs.getD i (0,0)=xs[i]:=by rw [List.getD_eq_getElem?_getD,List.getElem?_eq_getElem hi];rfl
 rw [e] at hk
 obtain ⟨c0,c1,rfl,h0,h1⟩:=hk
 have h0':c0 = [.int .i64 xs[i].1]:=h0
 have h1':c1 = [.int .u64 xs[i].2]:=h1
 subst h0'
 subst h1'
 have q0:=hc 0 _ rfl
 have q1:=hc 1 _ rfl
 refine ⟨ad,hA,q0,?_⟩
 obtain ⟨b,o,sp⟩:=ad
 have hs:kdR.sz=2:=rfl
 rw [hs] at q0 q1
 by_cases hi0:i=0
 ·subst hi0
  have hsp:sp=none:=by
   have:=World.cell?_spot q0
   simpa [Addr.add] using this
  subst hsp
  simpa [Addr.add] using q1
 ·have e1:(⟨b,o,sp⟩:Addr).add (i * 2)=⟨b,o+i * 2,none⟩:=by simp [Addr.add] <;> omega
  have e2:(⟨b,o,sp⟩:Addr).add (i * 2+1)=⟨b,o+i * 2+1,none⟩:=by simp [Addr.add] <;> omega
  rw [e1]
  rw [e2] at q1
  exact q1
abbrev IsMR (w:World) (b:Nat) (m:Pr→Option Int) (c:Nat):Prop:=MapIs Try.prog 86 3 .i64 encR wfR w b m c
end Go.Proofs.Ytogamkblkoobkaa.Wk
end
section
namespace Go.Proofs.Ytogamkblkoobkaa.Wk
open Go.RowKit Go.Shelf Go.Proofs.Ytogamkblkoobkaa.P Go.Proofs.Ytogamkblkoobkaa.Pl Go.Proofs.Ytogamkblkoobkaa.Mp Go.Proofs.Ytogamkblkoobkaa.Bf Go.Proofs.Ytogamkblkoobkaa.Mn Go.Proofs.YtogamkblkoobkaaW.PrintWords Go.Proofs.YtogamkblkoobkaaW.PrintLast Go.Proofs.YtogamkblkoobkaaW.PrintMore
def T21y:Bool × List (List Nat × List Nat):=(true,[([],[]),([0],[0]),([],[]),([],[]),([],[]),([3,4],[3,4]),([5],[5]),([2,6],[2,6]),([7],[7]),([1,8,7],[1,8]),([0,1,2,3,4,5,6,7,8,9],[]),([10,9,9,0,1,2,3,4,5,6,7,8,9],[9,10])])
def B21y:List Nat:=[0,1,0,0,0,24,56,124,252,511,1023,2047]
theorem tab21y:rtab .any (opsOf Try.f78 21)=T21y:=by kernel_rfl
theorem bits21y:waitsOk T21y.2 B21y=true:=by kernel_rfl
structure MemY (w w':World) (ok:Nat→Prop) (vl:Value) (gm g8 g13:Nat) (L Lm:List Pr) (A:List Bool) (M:List (List Int)) (u0 u1 b0 b1:Value):Prop where
 list:Kd.R kdR 86 w' w.heap.size (fun _=>True) vl L
 map:IsMR w' gm (idx Lm) Lm.length
 acc:Kd.R Kd.bool 4 w' w.heap.size (fun _=>True) u0 A
 rows:Kd.S (Kd.slice 3 (Kd.int .i64)) 67 w' w.heap.size ok u1 M
 box:w'.heap[g13]? = some (.cells #[b0,b1] 27 (0,0))
 res:w'.heap[g8]? = some (.cells #[.slice none 0 0,.slice none 0 0] 27 (0,0))
 bel:Below w.heap.size w w'
section
variable {w w' w2:World} {ok:Nat→Prop} {vl:Value} {gm g8 g13:Nat} {L Lm:List Pr} {A:List Bool} {M:List (List Int)} {u0 u1 b0 b1:Value}
theorem MemY.below (h:MemY w w' ok vl gm g8 g13 L Lm A M u0 u1 b0 b1) (hb:Below w'.heap.size w' w2):MemY w w2 ok vl gm g8 g13 L Lm A M u0 u1 b0 b1:=
 ⟨Kd.R_below h.list hb,h.map.below hb,Kd.R_below h.acc hb,Kd.S_below h.rows hb,blk_below h.box hb,blk_below h.res hb,below_then h.bel h.bel.size hb⟩
theorem MemY.tight (h:MemY w w' ok vl gm g8 g13 L Lm A M u0 u1 b0 b1):MemY w w' (fun b=>b<w'.heap.size) vl gm g8 g13 L Lm A M u0 u1 b0 b1:=
 ⟨h.list,h.map,h.acc,Kd.S_mono (Kd.S_bound h.rows) (fun b hb=>hb.2.2.1),h.box,h.res,h.bel⟩
theorem MemY.mapped {Ln:List Pr} (h:MemY w w' ok vl gm g8 g13 L Lm A M u0 u1 b0 b1) (hg:w'.grownBy w2 (some gm)) (hgm:w.heap.size≤gm) (hm:IsMR w2 gm (idx Ln) Ln.length):MemY w w2 ok vl gm g8 g13 L Ln A M u0 u1 b0 b1:=
 ⟨R_over_map h.list h.map hg,hm,R_over_map h.acc h.map hg,S_over_map h.rows h.map hg,blk_grown h.box hg (map_ne h.map h.box),blk_grown h.res hg (map_ne h.map h.res),below_map h.bel hg hgm⟩
theorem MemY.listed {vn:Value} {Ln:List Pr} (h:MemY w w' ok vl gm g8 g13 L Lm A M u0 u1 b0 b1) (hg:w'.grownBy w2 vl.ownBlock) (ho:Kd.R kdR 86 w2 w.heap.size (fun _=>True) vn Ln) (hb:Below w.heap.size w w2):MemY w w2 ok vn gm g8 g13 Ln Lm A M u0 u1 b0 b1:=
 ⟨ho,h.map.kept hg (h.map.not_row (Kd.R_typed h.list)),Kd.R_over' h.acc (Kd.R_typed h.list) (by decide) hg,Kd.S_over' h.rows (Kd.R_typed h.list) (by decide) hg,blk_grown h.box hg (Kd.R_ne h.list h.box (by decide)),blk_grown h.res hg (Kd.R_ne h.list h.res (by decide)),hb⟩
theorem MemY.rowed {v:Value} {xs:List Int} {base:Nat} {okr:Nat→Prop} (h:MemY w w' ok vl gm g8 g13 L Lm A M u0 u1 b0 b1) (hr:Kd.R (Kd.int .i64) 3 w' base okr v xs) (hg:w'.grownBy w2 v.ownBlock) (hok:∀ k,ok k→some k ≠ v.ownBlock) (hb:Below w.heap.size w w2):MemY w w2 ok vl gm g8 g13 L Lm A M u0 u1 b0 b1:=
 ⟨Kd.R_over' h.list (Kd.R_typed hr) (by decide) hg,h.map.kept hg (h.map.not_row (Kd.R_typed hr)),Kd.R_over' h.acc (Kd.R_typed hr) (by decide) hg,Kd.S_grown h.rows hg hok,blk_grown h.box hg (Kd.R_ne hr h.box (by decide)),blk_grown h.res hg (Kd.R_ne hr h.res (by decide)),hb⟩
theorem MemY.accd {vn:Value} {An:List Bool} (h:MemY w w' ok vl gm g8 g13 L Lm A M u0 u1 b0 b1) (hg:w'.grownBy w2 u0.ownBlock) (ho:Kd.R Kd.bool 4 w2 w.heap.size (fun _=>True) vn An) (hb:Below w.heap.size w w2):MemY w w2 ok vl gm g8 g13 L Lm An M vn u1 b0 b1:=
 ⟨Kd.R_over' h.list (Kd.R_typed h.acc) (by decide) hg,h.map.kept hg (h.map.not_row (Kd.R_typed h.acc)),ho,Kd.S_over' h.rows (Kd.R_typed h.acc) (by decide) hg,blk_grown h.box hg (Kd.R_ne h.acc h.box (by decide)),blk_grown h.res hg (Kd.R_ne h.acc h.res (by decide)),hb⟩
theorem MemY.rowsd {vn:Value} {Mn:List (List Int)} {okn:Nat→Prop} (h:MemY w w' ok vl gm g8 g13 L Lm A M u0 u1 b0 b1) (hg:w'.grownBy w2 u1.ownBlock) (ho:Kd.S (Kd.slice 3 (Kd.int .i64)) 67 w2 w.heap.size okn vn Mn) (hb:Below w.heap.size w w2):MemY w w2 okn vl gm g8 g13 L Lm A Mn u0 vn b0 b1:=
 ⟨Kd.R_over' h.list (Kd.S_typed h.rows) (by decide) hg,h.map.kept hg (h.map.not_row (Kd.S_typed h.rows)),Kd.R_over' h.acc (Kd.S_typed h.rows) (by decide) hg,ho,blk_grown h.box hg (Kd.S_ne h.rows h.box (by decide)),blk_grown h.res hg (Kd.S_ne h.rows h.res (by decide)),hb⟩
theorem MemY.put {v:Value} (h:MemY w w' ok vl gm g8 g13 L Lm A M u0 u1 b0 b1) (hn:g8 ≠ g13) (hl:w.heap.size≤g13) (j:Nat) {c0 c1:Value} (hc:(#[b0,b1]:Array Value).set! j v = #[c0,c1]) (hbx:(w'.setCell ⟨g13,j,none⟩ v).heap[g13]? = some (.cells #[c0,c1] 27 (0,0))):MemY w (w'.setCell ⟨g13,j,none⟩ v) ok vl gm g8 g13 L Lm A M u0 u1 c0 c1:=
 ⟨Kd.R_set h.list h.box (by decide) j v,h.map.kept (gb_set (gb_refl _ _) j v) (fun e=>map_ne h.map h.box e.symm),Kd.R_set h.acc h.box (by decide) j v,Kd.S_set h.rows h.box (by decide) j v,hbx,blk_grown h.res (gb_set (gb_refl _ _) j v) (fun e=>hn (Option.some.inj e)),below_set h.bel hl⟩
end
set_option maxHeartbeats 8000000 in
set_option maxRecDepth 100000 in
theorem explored_reached {dom:Pr→Prop} (most:Nat) (hm1:1≤most) (hm:most≤1000000) (acc:Pr→Bool) (nx:Pr→Nat→Pr) (x0:Pr) (g1 g2:Nat) (lb1 lb2:Array Value)
  (eg1:∀ args w,(callFunc g1 args).run Try.prog w = .ok (.enter g1 args) w) (eg2:∀ args w,(callFunc g2 args).run Try.prog w = .ok (.enter g2 args) w) (w:World)
  (hd0:dom x0) (hdn:∀ x j,dom x→j<3→dom (nx x j)) (hwf:∀ x,dom x→wfR x)
  (h1:∀ x,dom x→∀ W,Below w.heap.size w W→Calls Try.prog g1 (#[.agg #[.int .i64 (x).1,.int .u64 (x).2]] ++ lb1) W fun e W'=>e = .returned (.bool (acc x))∧Below W.heap.size W W')
  (h2:∀ (x:Pr) (j:Nat),dom x→j<3→∀ W,Below w.heap.size w W→Calls Try.prog g2 (#[.agg #[.int .i64 (x).1,.int .u64 (x).2],.int .i64 j] ++ lb2) W fun e W'=>e = .returned (.agg #[.int .i64 (nx x j).1,.int .u64 (nx x j).2])∧Below W.heap.size W W') :
  Calls Try.prog 78 #[.agg #[.int .i64 (x0).1,.int .u64 (x0).2],.int .i64 most,.func (.func g1) #[] lb1,.func (.func g2) #[] lb2] w fun e w'=>∃ v0 v1 vl:Value,e = .returned (.tuple #[.agg #[v0,v1],vl,.bool (expl acc nx most (most+2) ([x0],[],[]) 0).isSome])∧Kd.R Kd.bool 4 w' w.heap.size (fun _=>True) v0 ((expl acc nx most (most+2) ([x0],[],[]) 0).getD ([],[],[])).2.1∧Kd.S (Kd.slice 3 (Kd.int .i64)) 67 w' w.heap.size (fun _=>True) v1 ((expl acc nx most (most+2) ([x0],[],[]) 0).getD ([],[],[])).2.2∧Below w.heap.size w w':=by
 generalize hR:expl acc nx most (most+2) ([x0],[],[]) 0=r
 have HR:=am_ hR
 have H1:=am_ h1
 have H2:=am_ h2
 have HD0:=am_ hd0
 have HD:=am_ hdn
 have HW:=am_ hwf
 have HX:=am_ (hwf x0 hd0)
 have hu_:=am_ hm
 have HM1:=am_ hm1
 clear h1 h2 hdn hwf hd0 hm hm1 hR
 have hu27:=Try.underlying27
 obtain ⟨OX,hOX⟩:∃ o:Obj,o=Obj.cells #[Value.int IntKind.i64 x0.1,Value.int IntKind.u64 x0.2] 86:=⟨_,rfl⟩
 obtain ⟨OD,hOD⟩:∃ o:Obj,o=Obj.cells #[Value.slice none 0 0,Value.slice none 0 0] 27:=⟨_,rfl⟩
 have HC0:Aside0 (World.cell? (((w.alloc OX).alloc OD).alloc OX) ⟨w.heap.size,0,none⟩=some (.int .i64 x0.1)):=⟨by rw [hOX];exact pw_cell_below (below_alloc (below_alloc (Below.refl _ _) _) _) (by simp)⟩
 have HC1:Aside0 (World.cell? (((w.alloc OX).alloc OD).alloc OX) ⟨w.heap.size,1,none⟩=some (.int .u64 x0.2)):=⟨by rw [hOX];exact pw_cell_below (below_alloc (below_alloc (Below.refl _ _) _) _) (by simp)⟩
 have HLW:Aside0 (Kd.R kdR 86 (((w.alloc OX).alloc OD).alloc OX) w.heap.size (fun _=>True) (.slice (some ⟨w.heap.size+1+1,0,none⟩) 1 1) [x0]):=⟨by
  have:=R_here (okp:=fun _=>True) (inner:=[.int .i64 x0.1,.int .u64 x0.2]) kdR ((w.alloc OX).alloc OD) w.heap.size 86 (xs:=[x0]) (Reps.snoc (Reps.none _ _) (show Kd.M kdR _ _ _ x0 [.int .i64 x0.1,.int .u64 x0.2] from ⟨[.int .i64 x0.1],[.int .u64 x0.2],rfl,rfl,rfl⟩) rfl) (by simp;omega) (by simp)
  rw [hOX]
  rw [hOX] at this
  simpa using this⟩
 have HR8:Aside0 ((((w.alloc OX).alloc OD).alloc OX).heap[w.heap.size+1]? = some (.cells #[.slice none 0 0,.slice none 0 0] 27 (0,0))):=⟨by
  have h0:=blk_new (w.alloc OX) OD
  have h1:=blk_alloc h0 OX
  rw [hOD] at h1 ⊢
  simpa using h1⟩
 have HBW:Aside0 (Below w.heap.size w (((w.alloc OX).alloc OD).alloc OX)):=⟨below_alloc (below_alloc (below_alloc (Below.refl w.heap.size w) _) _) _⟩
 have HSZ:Aside0 ((((w.alloc OX).alloc OD).alloc OX).heap.size=w.heap.size+1+1+1):=⟨by simp⟩
 subst hOX
 subst hOD
 go_enter Try.func78,Try.ntmps78
 go_wp2_with (first
  | ((with_reducible refine gate_dst (N:=22) rfl ?_);refine wp_make (t:=123) (k:=86) (e:=3) (q:=.i64) (enc:=encR) (ok:=wfR) rfl rfl ?_;intro w3 hm hb;have hm:IsMR w3 (w.heap.size+1+1+1) (fun _=>none) 0:=HSZ.out ▸ hm;have hc0:=pw_cell_below hb HC0.out;have hc1:=pw_cell_below hb HC1.out;have HL:=am_ (Kd.R_below HLW.out hb);have HR9:=am_ (blk_below HR8.out hb);have HM:=am_ hm;have HB3:=bt_ HBW hb;clear hm hb)
  | (refine wp_insert mapR rfl _ _ _ rfl _ _ _ HM.out (by unfold maxLen;omega) rfl x0 rfl HX.out 0 rfl (by decide) ?_;intro w4 hm hgr;have HM2:=am_ hm;have HG4:=am_ hgr;clear hm hgr))
 have hb4:=below_alloc (Below.refl w4.heap.size w4) (Obj.cells #[Value.slice none 0 0,Value.slice none 0 0] 27)
 have hm4:IsMR w4 (w.heap.size+1+1+1) (idx [x0]) 1:=by have:=HM2.out;rw [idx_one] at this;exact this
 have hM0:MemY w (w4.alloc (Obj.cells #[Value.slice none 0 0,Value.slice none 0 0] 27)) (fun _=>True) (.slice (some ⟨w.heap.size+1+1,0,none⟩) 1 1) (w.heap.size+1+1+1) (w.heap.size+1) w4.heap.size [x0] [x0] [] [] (.slice none 0 0) (.slice none 0 0) (.slice none 0 0) (.slice none 0 0):=
  ⟨Kd.R_below (R_over_map HL.out HM.out HG4.out) hb4,hm4.below hb4,Kd.R_nil _ _ _ _ _,Kd.S_nil _ _ _ _ _,blk_new w4 _,blk_below (blk_grown HR9.out HG4.out (map_ne HM.out HR9.out)) hb4,below_alloc (below_map HB3.out HG4.out (by omega)) _⟩
 have HMEM:=am_ hM0
 have HGM:Aside0 (w.heap.size≤w.heap.size+1+1+1):=⟨by omega⟩
 have HG8:Aside0 (w.heap.size≤w.heap.size+1):=⟨by omega⟩
 have HG13:Aside0 (w.heap.size≤w4.heap.size):=⟨(below_map HB3.out HG4.out (by omega)).size⟩
 have H813:Aside0 (w.heap.size+1 ≠ w4.heap.size):=⟨fun h_=>by have h1_:=blk_lt (blk_grown HR9.out HG4.out (map_ne HM.out HR9.out));omega⟩
 have HDL:Aside0 (∀ y ∈ [x0],dom y):=⟨fun y hy=>by rw [List.mem_singleton] at hy;subst hy;exact HD0.out⟩
 clear HL HR9 HM HM2 HB3 HG4 hM0 HC0 HC1 HLW HR8 HBW HSZ hc0 hc1 hb4 hm4
 generalize w4.alloc (Obj.cells #[Value.slice none 0 0,Value.slice none 0 0] 27)=ws at HMEM ⊢
 generalize w4.heap.size=g13 at HMEM HG13 H813 ⊢
 generalize w.heap.size+1+1+1=gm at HMEM HGM ⊢
 generalize w.heap.size+1=g8 at HMEM HG8 H813 ⊢
 go_loopg [11,14] (most+2) (fun gg v11 v14 wr=>∃ (p:Ex Pr) (i:Nat) (u0 u1:Value),v14 = .int .i64 (i:Int)∧Aside0 (i≤p.1.length)∧Aside0 (most+2≤gg+i)∧Aside0 (p.1.length≤most)∧Aside0 (p.2.1.length=i∧p.2.2.length=i)∧Aside0 (expl acc nx most gg p i=r)∧Aside0 (∀ x ∈ p.1,dom x)∧Aside0 (MemY w wr (fun _=>True) v11 gm g8 g13 p.1 p.1 p.2.1 p.2.2 u0 u1 u0 u1))
 case atStart=>exact ⟨([x0],[],[]),0,_,_,rfl,⟨Nat.zero_le _⟩,⟨by omega⟩,⟨HM1.out⟩,⟨⟨rfl,rfl⟩⟩,HR,HDL,HMEM⟩
 case round =>
  clear HMEM HR HDL
  obtain ⟨p,i,u0,u1,rfl,HI,HG,HLE,HLN,HR,HDL,HMEM⟩:=hrel
  cases gk with
  | zero=>exact absurd HI.out (by have:=HG.out;have:=HLE.out;omega)
  | succ g =>
   obtain ⟨A11,c11,e11⟩:=Kd.R_slice HMEM.out.list
   subst e11
   obtain ⟨Aa,ca,ea⟩:=Kd.R_slice HMEM.out.acc
   subst ea
   obtain ⟨Ay,cy,ey⟩:=Kd.S_slice HMEM.out.rows
   subst ey
   have hr:=HR.out
   rw [expl] at hr
   by_cases hi:i<p.1.length
   ·
     rw [dif_pos hi] at hr
     have hP1:p.1[i]? = some p.1[i]:=List.getElem?_eq_getElem hi
     have hdx:=HDL.out _ (List.getElem_mem hi)
     generalize p.1[i]=x at hr hP1 hdx
     generalize hrr:exRow nx most x 3 0 p.1 []=rr at hr
     have HRR:=am_ hr
     have HER:=am_ hrr
     have HP1:=am_ hP1
     have HDX:=am_ hdx
     have HI2:=am_ hi
     have q1:((i:Int)<(p.1.length:Int))=True:=eq_true (by omega)
     clear hr hrr hP1 hdx hi HR HI
     go_wp2_with ((with_reducible refine gate_dst (N:=32) rfl ?_);refine Kd.R_lit (Kd.int .i64) _ 3 ?hg (N:=32) ?hd (xs:=([]:List Int)) (inner:=[]) (ok:=fun _=>True) (okp:=fun _=>True) ?hr ?hp (fun _ hk=>hk) trivial (Below.refl _ _) (Nat.le_refl _) (by simp) ?_;(case hd=>rfl);(case hg=>rfl);(case hr=>first | (go_simp;done) | (go_simp;rfl));(case hp=>exact (Reps.none _ _));intro v15 w6 ho hb hg_ hnew_;clear hg_ hnew_;have HROW:=am_ (Kd.R_lower ho HMEM.out.bel.size);have HOB:=am_ (fun k=>Kd.R_base ho k);have HB6:=am_ hb;clear ho hb)
     obtain ⟨W1,rfl⟩:∃ wo:World,wo=wr:=⟨_,rfl⟩
     have HMI:=am_ ((HMEM.out.tight).below HB6.out)
     have HSW:=am_ HB6.out.size
     have HLEP:=HLE
     have HDLP:=HDL
     have HPRE:Aside0 (p.1.length≤p.1.length):=⟨Nat.le_refl _⟩
     clear HMEM HB6 q1
     go_loopg [11,15,33] 3 (fun gg v11 v15 v33 wr=>∃ (L:List Pr) (row:List Int) (j:Nat),v33 = .int .i64 (j:Int)∧Aside0 (j≤3)∧Aside0 (3≤gg+j)∧Aside0 (exRow nx most x (3 - j) j L row=rr)∧Aside0 (L.length≤most)∧Aside0 (p.1.length≤L.length)∧Aside0 (∀ y ∈ L,dom y)∧Aside0 (L[i]? = some x)∧Aside0 (row.length=j)∧Aside0 (MemY w wr (fun b=>b<W1.heap.size) v11 gm g8 g13 L L p.2.1 p.2.2 (.slice Aa p.2.1.length ca) (.slice Ay p.2.2.length cy) (.slice Aa p.2.1.length ca) (.slice Ay p.2.2.length cy))∧Aside0 (Kd.R (Kd.int .i64) 3 wr w.heap.size (fun _=>True) v15 row)∧Aside0 (∀ k,v15.ownBlock=some k→W1.heap.size≤k)∧Aside0 (W1.heap.size≤wr.heap.size))
     case atStart=>exact ⟨p.1,[],0,rfl,⟨by omega⟩,⟨by omega⟩,HER,HLE,HPRE,HDL,HP1,⟨rfl⟩,HMI,HROW,HOB,HSW⟩
     case round =>
      clear HMI HROW HOB HSW HP1 HDL HLE HER HPRE
      obtain ⟨L,row,j,rfl,HJ,HGJ,HER,HLE,HPRE,HDL,HP1,HRL,HMEM,HROW,HOB,HSW⟩:=hrel
      obtain ⟨A11,c11,e11⟩:=Kd.R_slice HMEM.out.list
      subst e11
      obtain ⟨A15,c15,e15⟩:=Kd.R_slice HROW.out
      subst e15
      by_cases hj:j<3
      ·
        cases gk with
        | zero=>exact absurd HGJ.out (by omega)
        | succ g3 =>
        have hi2:i<L.length:=(List.getElem?_eq_some_iff.mp HP1.out).1
        have hx1:L[i]=x:=(List.getElem?_eq_some_iff.mp HP1.out).2
        obtain ⟨ad8,ea8,hx8,hx8b⟩:=at_reached (Kd.R_reads' HMEM.out.list).2.2 i (by omega) rfl
        subst ea8
        rw [hx1] at hx8 hx8b
        have HC:=am_ (H2.out x j HDX.out hj)
        have hdy:=HD.out x j HDX.out hj
        have HWY:=am_ (HW.out _ hdy)
        have her:=HER.out
        rw [show 3 - j=(3 - (j+1))+1 by omega,exRow] at her
        have hsome:=idx_some (s:=L) (y:=nx x j)
        generalize hy:nx x j=y at HC hdy HWY her hsome
        have p1:((0:Int)≤(i:Int))=True:=eq_true (by omega)
        have q1:((i:Int)<(L.length:Int))=True:=eq_true (by omega)
        have q3:((j:Int)<(3:Int))=True:=eq_true (by omega)
        have HJ3:=am_ hj
        have HI3:=am_ hi2
        have HDY:=am_ hdy
        have HROL:Aside0 (row.length≤3):=⟨by have:=HRL.out;omega⟩
        have HLEN:Aside0 ((L.length:Int)≤1000000):=⟨by have:=HLE.out;have:=hu_.out;omega⟩
        clear hi2 hx1 hdy hy hj HER
        by_cases hmem:y ∈ L
        ·
          rw [if_pos hmem] at her
          have hsome:=idx_in hmem
          have HER:=am_ her
          have HIX:=am_ (idx_val hmem)
          clear her hmem
          go_wp2_with (first
            | (go_at_fn g2;refine (HC.out _ (by exact HMEM.out.bel)).mono ?_;rintro e W2 ⟨rfl,hb⟩;have HM1:=am_ (HMEM.out.below hb);have HROW1:=am_ (Kd.R_below HROW.out hb);have HSW1:=sz_ HSW hb;clear hb)
            | ((with_reducible refine gate_dst (N:=46) rfl ?_);have HM2:=am_ (HM1.out.below (below_alloc (Below.refl _ _) (Obj.cells #[Value.int IntKind.i64 y.1,Value.int IntKind.u64 y.2] 86)));have HROW2:=am_ (Kd.R_below HROW1.out (below_alloc (Below.refl _ _) (Obj.cells #[Value.int IntKind.i64 y.1,Value.int IntKind.u64 y.2] 86)));have HSW2:=am_ (Nat.le_trans HSW1.out (below_alloc (Below.refl W2.heap.size W2) (Obj.cells #[Value.int IntKind.i64 y.1,Value.int IntKind.u64 y.2] 86)).size);refine wp_look_ok mapR rfl _ _ rfl _ _ _ HM2.out.map rfl y rfl HWY.out ?_;rw [hsome];generalize W2.alloc (Obj.cells #[Value.int IntKind.i64 y.1,Value.int IntKind.u64 y.2] 86)=W3 at HM2 HROW2 HSW2 ⊢)
            | (at_builtin;refine Kd.R_append (Kd.int .i64) (w0:=w) w.heap.size rfl (.tmp 65) (.tmp 67) 67 3 (.int .i64 0) 8 rfl Try.underlying67 info3 rfl (by decide) (by omega) (.slice A15 row.length c15) row ((idx L y).getD 0) [.int .i64 ((idx L y).getD 0)] (fun _=>True) (fun _=>False) rfl rfl ?aP (fun _ hk=>hk.elim) ?aF ?aO ?aB ?aS ?aL ?_;(case aP=>exact rfl);(case aF=>exact (fun _ _=>trivial));(case aO=>exact HROW2.out);(case aB=>exact HM2.out.bel);(case aS=>exact HM2.out.bel.size);(case aL=>have:=HROL.out;omega);intro v5n w4 ho hb hg hat;have HROWN:=am_ ho;have HMN:=am_ (HM2.out.rowed HROW2.out hg (fun k hk he=>by have:=HOB.out k he.symm;omega) hb);have HOBN:=am_ (own_at hat HOB.out HSW2.out);have HSWN:=am_ (Nat.le_trans HSW2.out hg.size);clear ho hb hg hat))
          go_roundg g3
          case measure=>omega
          case rel=>exact ⟨L,row ++ [((idx L y).getD 0)],j+1,by rw [up1 (by have:=HJ3.out;omega)],⟨HJ3.out⟩,⟨by have:=HGJ.out;omega⟩,HER,HLE,HPRE,HDL,HP1,⟨by rw [List.length_append,HRL.out];rfl⟩,HMN,HROWN,HOBN,HSWN⟩
        ·
          rw [if_neg hmem] at her
          have hsome:=idx_out hmem
          have HU:=am_ (idx_upd hmem)
          by_cases hmost:most<L.length+1
          ·
            rw [if_pos hmost] at her
            have her2:=HRR.out
            rw [← her] at her2
            have e1:r=none:=her2.symm
            subst e1
            have kq:((most:Int)<((L.length+1:Nat):Int))=True:=eq_true (by omega)
            have kq2:((most:Int)<(L.length:Int)+1)=True:=eq_true (by omega)
            have kq3:decide ((most:Int)<(L.length:Int)+1)=true:=decide_eq_true (by omega)
            clear her her2 hmem hmost
            go_wp2_with (first
             | (go_at_fn g2;refine (HC.out _ (by exact HMEM.out.bel)).mono ?_;rintro e W2 ⟨rfl,hb⟩;have HM1:=am_ (HMEM.out.below hb);clear hb)
             | ((with_reducible refine gate_dst (N:=46) rfl ?_);have HGN:Aside0 (gm ≠ W2.heap.size):=⟨by have:=HM1.out.map.lt;omega⟩;have HM2:=am_ (HM1.out.below (below_alloc (Below.refl _ _) (Obj.cells #[Value.int IntKind.i64 y.1,Value.int IntKind.u64 y.2] 86)));refine wp_look_ok mapR rfl _ _ rfl _ _ _ HM2.out.map rfl y rfl HWY.out ?_;rw [hsome])
             | (at_builtin;refine Kd.R_append kdR (w0:=w) w.heap.size rfl (.tmp 56) (.tmp 58) 88 86 (.agg #[.int .i64 0,.int .u64 0]) 16 rfl Try.underlying88 infoR rfl (by decide) (by omega) (.slice (some ad8) L.length c11) L y [.int .i64 y.1,.int .u64 y.2] (fun _=>True) (fun _=>False) rfl rfl ?aP (fun _ hk=>hk.elim) ?aF ?aO ?aB ?aS ?aL ?_;(case aP=>exact ⟨[.int .i64 y.1],[.int .u64 y.2],rfl,rfl,rfl⟩);(case aF=>exact (fun _ _=>trivial));(case aO=>exact HM3.out.list);(case aB=>exact HM3.out.bel);(case aS=>exact HM3.out.bel.size);(case aL=>have:=HLEN.out;omega);intro v8n w3 ho hb hg hat;have HM4:=am_ (HM3.out.listed hg ho hb);obtain ⟨A8n,c8n,e8n⟩:=Kd.R_slice ho;rw [show (L ++ [y]).length=L.length+1 by simp] at e8n;subst e8n;have hcz0:w3.cell? ⟨g8,0,none⟩=some (.slice none 0 0):=(blk_cell HM4.out.res 0).trans rfl;have hcz1:w3.cell? ⟨g8,1,none⟩=some (.slice none 0 0):=(blk_cell HM4.out.res 1).trans rfl;have hfz0:=blk_frozen HM4.out.res 0;have hfz1:=blk_frozen HM4.out.res 1;clear ho hb hg hat)
             | (refine wp_update mapR rfl _ _ _ rfl _ _ _ HM2.out.map (by have:=HLEN.out;unfold maxLen;omega) rfl y rfl HWY.out (L.length:Int) rfl (by have:=HLEN.out;simp [Lit.wf,IntKind.min,IntKind.max,IntKind.signed,IntKind.bits];omega) ?_;intro w2 hm hgr;rw [HU.out,if_neg (by rw [hsome];decide)] at hm;have hcy0:=cell_grown hgr (a:=⟨W2.heap.size,0,none⟩) (by simp) (fun h_=>HGN.out (Option.some.inj h_).symm) (v:=.int .i64 y.1) (by simp);have hcy1:=cell_grown hgr (a:=⟨W2.heap.size,1,none⟩) (by simp) (fun h_=>HGN.out (Option.some.inj h_).symm) (v:=.int .u64 y.2) (by simp);have HM3:=am_ (HM2.out.mapped (Ln:=L ++ [y]) hgr HGM.out (by rw [List.length_append];exact hm));clear hm hgr))
            have HT4:Aside0 (((w3.setCell ⟨g8,0,none⟩ (.slice none 0 0)).setCell ⟨g8,1,none⟩ (.slice none 0 0)).heap[g8]? = some (.cells #[.slice none 0 0,.slice none 0 0] 27 (0,0))):=⟨blk_put (blk_put (cs':=#[.slice none 0 0,.slice none 0 0]) HM4.out.res 0 _ rfl) 1 _ rfl⟩
            refine bodyPost_ret (results_ctt rfl _ _ g8 27 #[.slice none 0 0,.slice none 0 0] (0,0) _ rfl HT4.out Try.underlying27 rfl (by kernel_rfl)) rfl ?_
            exact ⟨_,_,_,rfl,Kd.R_nil _ _ _ _ _,Kd.S_nil _ _ _ _ _,below_set (below_set HM4.out.bel HG8.out) HG8.out⟩
          ·
            rw [if_neg hmost] at her
            have HER:=am_ her
            have kq:((most:Int)<((L.length+1:Nat):Int))=False:=eq_false (by omega)
            have kq2:((most:Int)<(L.length:Int)+1)=False:=eq_false (by omega)
            have kq3:decide ((most:Int)<(L.length:Int)+1)=false:=decide_eq_false (by omega)
            have HMO:=am_ (show L.length+1≤most by omega)
            clear her hmem hmost
            go_wp2_with (first
             | (go_at_fn g2;refine (HC.out _ (by exact HMEM.out.bel)).mono ?_;rintro e W2 ⟨rfl,hb⟩;have HM1:=am_ (HMEM.out.below hb);have HROW1:=am_ (Kd.R_below HROW.out hb);have HSW1:=sz_ HSW hb;clear hb)
             | ((with_reducible refine gate_dst (N:=46) rfl ?_);have HGN:Aside0 (gm ≠ W2.heap.size):=⟨by have:=HM1.out.map.lt;omega⟩;have HM2:=am_ (HM1.out.below (below_alloc (Below.refl _ _) (Obj.cells #[Value.int IntKind.i64 y.1,Value.int IntKind.u64 y.2] 86)));have HROW2:=am_ (Kd.R_below HROW1.out (below_alloc (Below.refl _ _) (Obj.cells #[Value.int IntKind.i64 y.1,Value.int IntKind.u64 y.2] 86)));have HSW2:=am_ (Nat.le_trans HSW1.out (below_alloc (Below.refl W2.heap.size W2) (Obj.cells #[Value.int IntKind.i64 y.1,Value.int IntKind.u64 y.2] 86)).size);refine wp_look_ok mapR rfl _ _ rfl _ _ _ HM2.out.map rfl y rfl HWY.out ?_;rw [hsome])
             | (at_builtin;refine Kd.R_append kdR (w0:=w) w.heap.size rfl (.tmp 56) (.tmp 58) 88 86 (.agg #[.int .i64 0,.int .u64 0]) 16 rfl Try.underlying88 infoR rfl (by decide) (by omega) (.slice (some ad8) L.length c11) L y [.int .i64 y.1,.int .u64 y.2] (fun _=>True) (fun _=>False) rfl rfl ?aP (fun _ hk=>hk.elim) ?aF ?aO ?aB ?aS ?aL ?_;(case aP=>exact ⟨[.int .i64 y.1],[.int .u64 y.2],rfl,rfl,rfl⟩);(case aF=>exact (fun _ _=>trivial));(case aO=>exact HM3.out.list);(case aB=>exact HM3.out.bel);(case aS=>exact HM3.out.bel.size);(case aL=>have:=HLEN.out;omega);intro v8n w3 ho hb hg hat;have HM4:=am_ (HM3.out.listed hg ho hb);have HROW4:=am_ (Kd.R_over' HROW3.out (Kd.R_typed HM3.out.list) (by decide) hg);have HSW4:=am_ (Nat.le_trans HSW3.out hg.size);obtain ⟨A8n,c8n,e8n⟩:=Kd.R_slice ho;rw [show (L ++ [y]).length=L.length+1 by simp] at e8n;subst e8n;clear ho hb hg hat)
             | (at_builtin;refine Kd.R_append (Kd.int .i64) (w0:=w) w.heap.size rfl (.tmp 65) (.tmp 67) 67 3 (.int .i64 0) 8 rfl Try.underlying67 info3 rfl (by decide) (by omega) (.slice A15 row.length c15) row ((L.length:Nat):Int) [.int .i64 ((L.length:Nat):Int)] (fun _=>True) (fun _=>False) rfl rfl ?bP (fun _ hk=>hk.elim) ?bF ?bO ?bB ?bS ?bL ?_;(case bP=>exact rfl);(case bF=>exact (fun _ _=>trivial));(case bO=>exact HROW4.out);(case bB=>exact HM4.out.bel);(case bS=>exact HM4.out.bel.size);(case bL=>have:=HROL.out;omega);intro v5n w5 ho hb hg hat;have HROWN:=am_ ho;have HMN:=am_ (HM4.out.rowed HROW4.out hg (fun k hk he=>by have:=HOB.out k he.symm;omega) hb);have HOBN:=am_ (own_at hat HOB.out HSW4.out);have HSWN:=am_ (Nat.le_trans HSW4.out hg.size);clear ho hb hg hat)
             | (refine wp_update mapR rfl _ _ _ rfl _ _ _ HM2.out.map (by have:=HLEN.out;unfold maxLen;omega) rfl y rfl HWY.out (L.length:Int) rfl (by have:=HLEN.out;simp [Lit.wf,IntKind.min,IntKind.max,IntKind.signed,IntKind.bits];omega) ?_;intro w2 hm hgr;rw [HU.out,if_neg (by rw [hsome];decide)] at hm;have hcy0:=cell_grown hgr (a:=⟨W2.heap.size,0,none⟩) (by simp) (fun h_=>HGN.out (Option.some.inj h_).symm) (v:=.int .i64 y.1) (by simp);have hcy1:=cell_grown hgr (a:=⟨W2.heap.size,1,none⟩) (by simp) (fun h_=>HGN.out (Option.some.inj h_).symm) (v:=.int .u64 y.2) (by simp);have HM3:=am_ (HM2.out.mapped (Ln:=L ++ [y]) hgr HGM.out (by rw [List.length_append];exact hm));have HROW3:=am_ (R_over_map HROW2.out HM2.out.map hgr);have HSW3:=am_ (Nat.le_trans HSW2.out hgr.size);clear hm hgr))
            go_roundg g3
            case measure=>omega
            case rel=>exact ⟨L ++ [y],row ++ [((L.length:Nat):Int)],j+1,by rw [up1 (by have:=HJ3.out;omega)],⟨HJ3.out⟩,⟨by have:=HGJ.out;omega⟩,HER,⟨by rw [List.length_append];exact HMO.out⟩,⟨by have:=HPRE.out;rw [List.length_append];omega⟩,⟨fun z hz=>(List.mem_append.mp hz).elim (HDL.out z) (fun q=>by rw [List.mem_singleton] at q;subst q;exact HDY.out)⟩,⟨by rw [List.getElem?_append_left HI3.out];exact HP1.out⟩,⟨by rw [List.length_append,HRL.out];rfl⟩,HMN,HROWN,HOBN,HSWN⟩
      ·
        have ej:j=3:=by have:=HJ.out;omega
        subst ej
        have d3:decide (((3:Nat):Int)<3)=false:=by decide
        have her:=HER.out
        rw [show 3 - 3=0 from rfl,exRow] at her
        have hr:=HRR.out
        rw [← her] at hr
        have HEN:Aside0 (expl acc nx most g (L,p.2.1 ++ [acc x],p.2.2 ++ [row]) (i+1)=r):=⟨hr⟩
        have hi2:i<L.length:=(List.getElem?_eq_some_iff.mp HP1.out).1
        have hx1:L[i]=x:=(List.getElem?_eq_some_iff.mp HP1.out).2
        obtain ⟨ad8,ea8,hx8,hx8b⟩:=at_reached (Kd.R_reads' HMEM.out.list).2.2 i (by omega) rfl
        subst ea8
        rw [hx1] at hx8 hx8b
        have hx0:wr.cell? ⟨g13,0,none⟩=some (.slice Aa p.2.1.length ca):=(blk_cell HMEM.out.box 0).trans rfl
        have HI3:=am_ hi2
        have p1:((0:Int)≤(i:Int))=True:=eq_true (by omega)
        have q1:((i:Int)<(L.length:Int))=True:=eq_true (by omega)
        have HLENS:Aside0 (p.2.1.length≤1000000∧p.2.2.length≤1000000):=⟨by have:=HLN.out;have:=HLE.out;have:=hu_.out;omega⟩
        have HM5:=am_ (HMEM.out.below (below_drew1 (Below.refl _ _)))
        have HROW5:=am_ (Kd.R_drew HROW.out)
        clear her hr hi2 hx1 hj HMEM HROW HER
        go_wp2
        refine start_ (n:=12) (S:=(fun w'=>w'.cell? ⟨g13,0,none⟩=some (.slice Aa p.2.1.length ca)∧w'.cell? (ad8.add (i * 2))=some (.int .i64 x.1)∧w'.cell? ⟨(ad8.add (i * 2)).block,(ad8.add (i * 2)).off+1,none⟩=some (.int .u64 x.2))) (ds:=[9,11]) (bl 12 0) (by kernel_rfl) rfl rfl (⟨hx0,hx8,hx8b⟩) (fun hHeld=>?_);refine with_tabW tab21y bits21y (fun HT_ HW_=>?_)
        clear hx0 hx8 hx8b
        generalize wr.drew=w8 at HM5 HROW5 hHeld ⊢
        refine ph_ 0 70 (bl 12 1) HT_ ?_
        refine ph_ 2 72 (bl 12 5) HT_ ?_
        refine ph_ 3 73 (bl 12 13) HT_ ?_
        refine ph_ 4 74 (bl 12 29) HT_ ?_
        refine ph_ 5 75 (bl 12 61) HT_ ?_
        refine th_ 1 71 (bl 12 63) HT_ HW_ hHeld ?_
        refine th_ 6 76 (bl 12 127) HT_ HW_ hHeld ?_
        refine on_ 7 (some 77) (bl 12 255) HT_ (fun K hK=>?_)
        refine goesFn_ g1 lb1 (.tmp 72) #[.agg #[.int .i64 x.1,.int .u64 x.2]] eg1 (by rfl) rfl (by rfl) (by rfl) (by (try simp only [List.map_toArray,List.map_cons,List.map_nil]);first | done | rfl) ?_
        refine (H1.out x HDX.out _ (by exact HM5.out.bel)).mono ?_
        rintro e W2 ⟨rfl,hb⟩
        refine ⟨_,rfl,?_⟩
        have HM6:=am_ (HM5.out.below hb)
        have HROW6:=am_ (Kd.R_below HROW5.out hb)
        clear HM5 HROW5
        refine hK.out _ _ (⟨pw_cell_below hb hHeld.1,pw_cell_below hb hHeld.2.1,pw_cell_below hb hHeld.2.2⟩) (fun hHeld=>?_)
        clear hK K
        refine nm_ 77 ?_
        refine on_ 8 (some 78) (bl 12 511) HT_ (fun K hK=>?_)
        refine value_ (w1:=?_) (v:=?_) (by rfl) rfl ?_ ?_
        rotate_left 2
        · go_simp
          constructor
          · rfl
          · rfl
        refine hK.out _ _ (⟨cell_al _ hHeld.1,cell_al _ hHeld.2.1,cell_al _ hHeld.2.2⟩) (fun hHeld=>?_)
        clear hK K
        refine nm_ 78 ?_
        refine last_ (i:=9) (N:=some 79) (bl 12 1023) rfl rfl (one_of HT_.out (by kernel_rfl)) (by decide) (fun K hK=>?_)
        refine Kd.R_append_step Kd.bool (w0:=w) w.heap.size (by rfl) (.tmp 71) (.tmp 78) 22 4 (.bool false) 1 rfl Try.underlying22 info4 rfl (by decide) (by omega) (.slice Aa p.2.1.length ca) p.2.1 (acc x) [.bool (acc x)] (fun _=>True) (fun _=>False) rfl rfl ?aP (fun _ hk=>hk.elim) ?aF ?aO ?aB ?aS ?aL ?_
        (case aP=>exact rfl)
        (case aF=>exact (fun _ _=>trivial))
        (case aO=>exact HM6.out.acc)
        (case aB=>exact HM6.out.bel)
        (case aS=>exact HM6.out.bel.size)
        (case aL=>have:=HLENS.out;omega)
        intro v22 w9 ho hb2 hg hat
        have HM9:=am_ (HM6.out.accd hg ho hb2)
        have HROW9:=am_ (Kd.R_over' HROW6.out (Kd.R_typed HM6.out.acc) (by decide) hg)
        obtain ⟨A22,c22,e22⟩:=Kd.R_slice ho
        rw [show (p.2.1 ++ [acc x]).length=p.2.1.length+1 by simp] at e22
        subst e22
        clear ho hb hb2 hg hat HM6 HROW6
        refine hK.out _ _ ?_
        clear hK K
        refine nm_ 79 ?_
        refine ph_ 10 80 (bl 12 2047) HT_ ?_
        refine last_ (i:=11) (N:=none) (bl 12 4095) rfl rfl (one_of HT_.out (by kernel_rfl)) (by decide) (fun K hK=>?_)
        have hs54:w9.cell? ⟨g13,0,none⟩=some (.slice Aa p.2.1.length ca):=(blk_cell HM9.out.box 0).trans rfl
        have hfs54:=blk_frozen HM9.out.box 0
        refine skip_ (w1:=?_) (by rfl) rfl ?_ ?_
        rotate_left
        · go_simp
          rfl
        refine hK.out _ _ ?_
        clear hK K hs54 hfs54
        refine done_ (done_of HT_.out (by kernel_rfl)) ?_
        have HM1:=am_ (HM9.out.put (v:=(.slice A22 (p.2.1.length+1) c22)) H813.out HG13.out 0 rfl (blk_put HM9.out.box 0 _ rfl))
        have HROW1:=am_ (Kd.R_set HROW9.out HM9.out.box (by decide) 0 (.slice A22 (p.2.1.length+1) c22))
        clear HM9 HROW9 HT_ HW_
        generalize w9.setCell ⟨g13,0,none⟩ (.slice A22 (p.2.1.length+1) c22)=w1 at HM1 HROW1 ⊢
        have hcz0:w1.cell? ⟨g13,0,none⟩=some (.slice A22 (p.2.1.length+1) c22):=(blk_cell HM1.out.box 0).trans rfl
        have hcz1:w1.cell? ⟨g13,1,none⟩=some (.slice Ay p.2.2.length cy):=(blk_cell HM1.out.box 1).trans rfl
        have hfz1:=blk_frozen HM1.out.box 1
        go_wp2_with ((with_reducible refine gate_builtin (b:=.append) (xs:=#[.tmp 82,.tmp 84]) rfl ?_);at_builtin;refine Kd.S_append (Kd.slice 3 (Kd.int .i64)) (w0:=w) w.heap.size rfl (.tmp 82) (.tmp 84) 23 67 (.slice none 0 0) 24 rfl Try.underlying23 info67 rfl (by decide) (by omega) (.slice Ay p.2.2.length cy) p.2.2 row [.slice A15 row.length c15] (fun _=>True) (fun b=>some b=(.slice A15 row.length c15:Value).ownBlock) rfl rfl ?aP ?aK ?aF ?aO ?aB ?aS ?aL ?_;(case aP=>exact Kd.M_row (Kd.R_tight rfl HROW1.out));(case aK=>exact (fun b hb=>⟨trivial,fun he=>by have h1:=HOB.out b hb.symm;have h2:=(Kd.S_R HM1.out.rows).1 b he.symm;omega⟩));(case aF=>exact (fun _ _=>trivial));(case aO=>exact Kd.S_mono HM1.out.rows (fun b hb=>⟨trivial,fun he=>by have h1:=HOB.out b he.symm;omega⟩));(case aB=>exact HM1.out.bel);(case aS=>exact HM1.out.bel.size);(case aL=>have:=HLENS.out;omega);intro v23 w2 ho hb hg hat;have HM2:=am_ (HM1.out.rowsd hg ho hb);obtain ⟨A23,c23,e23⟩:=Kd.S_slice ho;rw [show (p.2.2 ++ [row]).length=p.2.2.length+1 by simp] at e23;subst e23;clear ho hb hg hat hcz0 hcz1 hfz1;have hcz1:w2.cell? ⟨g13,1,none⟩=some (.slice Ay p.2.2.length cy):=(blk_cell HM2.out.box 1).trans rfl;have hfz1:=blk_frozen HM2.out.box 1)
        go_roundg g
        case measure=>omega
        case rel=>exact ⟨(L,p.2.1 ++ [acc x],p.2.2 ++ [row]),i+1,_,_,by rw [up1 (by have:=HI3.out;have:=HLE.out;have:=hu_.out;omega)],⟨HI3.out⟩,⟨by have:=HG.out;omega⟩,HLE,⟨by have:=HLN.out;simp;omega⟩,HEN,HDL,⟨HM2.out.put (v:=(.slice A23 (p.2.2.length+1) c23)) H813.out HG13.out 1 rfl (blk_put HM2.out.box 1 _ rfl)⟩⟩
   ·
     rw [dif_neg hi] at hr
     subst hr
     have q1:((i:Int)<(p.1.length:Int))=False:=eq_false (by omega)
     have hcz0:wr.cell? ⟨g13,0,none⟩=some (.slice Aa p.2.1.length ca):=(blk_cell HMEM.out.box 0).trans rfl
     have hcz1:wr.cell? ⟨g13,1,none⟩=some (.slice Ay p.2.2.length cy):=(blk_cell HMEM.out.box 1).trans rfl
     have hcy0:wr.cell? ⟨g8,0,none⟩=some (.slice none 0 0):=(blk_cell HMEM.out.res 0).trans rfl
     have hcy1:wr.cell? ⟨g8,1,none⟩=some (.slice none 0 0):=(blk_cell HMEM.out.res 1).trans rfl
     have hfy0:=blk_frozen HMEM.out.res 0
     have hfy1:=blk_frozen HMEM.out.res 1
     have HB4':Aside0 ((wr.setCell ⟨g8,0,none⟩ (.slice Aa p.2.1.length ca)).heap[g8]? = some (.cells #[.slice Aa p.2.1.length ca,.slice none 0 0] 27 (0,0))):=⟨blk_put HMEM.out.res 0 _ rfl⟩
     have HT4:Aside0 (((wr.setCell ⟨g8,0,none⟩ (.slice Aa p.2.1.length ca)).setCell ⟨g8,1,none⟩ (.slice Ay p.2.2.length cy)).heap[g8]? = some (.cells #[.slice Aa p.2.1.length ca,.slice Ay p.2.2.length cy] 27 (0,0))):=⟨blk_put HB4'.out 1 _ rfl⟩
     clear hi
     go_wp2
     refine bodyPost_ret (results_ctt rfl _ _ g8 27 #[.slice Aa p.2.1.length ca,.slice Ay p.2.2.length cy] (0,0) _ rfl HT4.out Try.underlying27 rfl (by kernel_rfl)) rfl ?_
     exact ⟨_,_,_,rfl,Kd.R_set (Kd.R_set HMEM.out.acc HMEM.out.res (by decide) 0 _) HB4'.out (by decide) 1 _,Kd.S_set (Kd.S_set HMEM.out.rows HMEM.out.res (by decide) 0 _) HB4'.out (by decide) 1 _,below_set (below_set HMEM.out.bel HG8.out) HG8.out⟩
end Go.Proofs.Ytogamkblkoobkaa.Wk
end
section
namespace Go.Proofs.Ytogamkblkoobkaa.P
open Go.RowKit Go.Proofs.YtogamkblkoobkaaW.PrintWords Go.Proofs.YtogamkblkoobkaaW.PrintLast Go.Proofs.YtogamkblkoobkaaW.PrintMore
attribute [local go_sem] max2_int min2_int max_two min_two max_three min_three max_four min_four
def impl_fitting.f (l0_0:List Bool) (l0_1:List (List Int)):Option (List Bool × (List (List Int)) × Bool):=(impl_minimized.f l0_0 l0_1 0).bind fun bt292=>(if (bt292.1.length:Int) > 40 then (some (([]:List Bool),([]:List (List Int)),false)) else (some (bt292.1,bt292.2,true)))
set_option maxHeartbeats 8000000 in
set_option maxRecDepth 100000 in
theorem impl_fitting.calls (A0_0:Option Addr) (c0_0:Nat) (l0_0:List Bool) (A0_1:Option Addr) (c0_1:Nat) (l0_1:List (List Int)) (r1:List Bool) (r2:List (List Int)) (r3:Bool) (w:World) (hr0_0:Kd.C Kd.bool w A0_0 l0_0.length l0_0) (hc0_0:l0_0.length≤c0_0) (hr0_1:Kd.C (Kd.slice 3 (Kd.int .i64)) w A0_1 l0_1.length l0_1) (hc0_1:l0_1.length≤c0_1) (h:impl_fitting.f l0_0 l0_1=some (r1,r2,r3)) :
  Calls Try.prog 68 #[.agg #[.slice A0_0 l0_0.length c0_0,.slice A0_1 l0_1.length c0_1]] w fun e w'=>∃ v0_ v1_:Value,e = .returned (.tuple #[.agg #[v0_,v1_],.bool r3])∧Kd.R Kd.bool 4 w' w.heap.size (fun _=>True) v0_ r1∧Kd.S (Kd.slice 3 (Kd.int .i64)) 67 w' w.heap.size (fun _=>True) v1_ r2∧Below w.heap.size w w':=by
 have hu27:=Try.underlying27
 have aA:=am_ hr0_0
 have aB:=am_ hc0_0
 clear hr0_0 hc0_0
 have aC:=am_ hr0_1
 have aD:=am_ hc0_1
 clear hr0_1 hc0_1
 have HB:=am_ (Below.refl w.heap.size w)
 have H:((impl_minimized.f l0_0 l0_1 0).bind fun bt292=>(if (bt292.1.length:Int) > 40 then (some (([]:List Bool),([]:List (List Int)),false)) else (some (bt292.1,bt292.2,true))))=some (r1,r2,r3):=h
 clear h
 replace H:=Option.bind_eq_some_iff.mp H
 obtain ⟨⟨ak,au⟩,A20,H⟩:=H
 have A2:=am_ A20
 clear A20
 by_cases c3:(ak.length:Int) > 40
 ·rw [if_pos c3] at H
  have c3b0:decide (40<(ak.length:Int))=true:=decide_eq_true c3
  have c3b1:decide (40<ak.length)=true:=decide_eq_true (by omega)
  clear c3
  simp only [Option.some.injEq,Prod.mk.injEq] at H
  obtain ⟨rfl,rfl,rfl⟩:=H
  go_enter Try.func68,Try.ntmps68
  go_wp2_with (first | ((with_reducible refine gate_dst (N:=1) rfl ?_);refine box_event ?hg (N:=1) ?hd (cs:=#[.slice A0_0 l0_0.length c0_0,.slice A0_1 l0_1.length c0_1]) (t:=27) ?hr ?_;(case hd=>rfl);(case hg=>rfl);(case hr=>first | (go_simp;done) | (go_simp;rfl));intro ai hg w4 hbox hb;replace aa:=am_ (hbox);replace aE:=am_ ((by rw [hg];exact (below_size (b0_ HB.out)):w.heap.size≤ai));replace ad:=am_ ((by rw [hg];exact (below_size (b0_ HB.out)):w.heap.size≤ai));replace HB:=am_ (below_step (b0_ HB.out) hb);clear hb hbox hg) | ((with_reducible refine gate_dst (N:=2) rfl ?_);refine box_event ?hg (N:=2) ?hd (cs:=#[.slice none 0 0,.slice none 0 0]) (t:=27) ?hr ?_;(case hd=>rfl);(case hg=>rfl);(case hr=>first | (go_simp;done) | (go_simp;rfl));intro ae hg w5 hbox hb;have n0_:=am_ (blk_below (rb_ aa.out) hb);have n1_:=am_ (below_step (b1_ HB.out ad.out) hb);have n2_:=am_ (hbox);have n3_:=am_ ((by rw [hg];exact (below_size (b1_ HB.out ad.out)):w.heap.size≤ae));have n4_:=am_ ((by rw [hg];exact (below_size (b1_ HB.out ad.out)):w.heap.size≤ae));have n5_:=am_ ((by rw [hg];exact Nat.ne_of_lt (blk_lt (rb_ aa.out)):ai ≠ ae));have n6_:=am_ ((by rw [hg];exact Nat.ne_of_gt (blk_lt (rb_ aa.out)):ae ≠ ai));clear aa;clear HB;have aa:=n0_;have HB:=n1_;have ab:=n2_;have aF:=n3_;have ag:=n4_;have an:=n5_;have ao:=n6_;clear n0_ n1_ n2_ n3_ n4_ n5_ n6_;clear hb hbox hg;have bv:=an.out;have bw:=ao.out;have bh:=ck_ (v:=(.slice A0_0 l0_0.length c0_0)) aa 0 rfl;have bi:=ck_ (v:=(.slice A0_1 l0_1.length c0_1)) aa 1 rfl;have bj:=blk_frozen aa.out 0;have bk:=blk_frozen aa.out 1) | ((with_reducible refine gate_callee (f:=56) rfl ?_);refine gL_ (some 6) Try.func56 #[.agg #[.slice A0_0 l0_0.length c0_0,.slice A0_1 l0_1.length c0_1],.int .i64 0] ?_;(with_reducible refine (impl_minimized.calls _ _ l0_0 _ _ l0_1 0 ak au _ ?side1 ?side2 ?side3 ?side4 A2.out).mono ?_);(case side1=>exact rc_ (Kd.C_below aA.out HB.out));(case side2=>exact aB.out);(case side3=>exact rc_ (Kd.C_below aC.out HB.out));(case side4=>exact aD.out);rintro e w8 ⟨aH,aI,rfl,ho0,ho1,hb⟩;refine ⟨_,rfl,?_⟩;have n0_:=am_ (Kd.R_lower ho0 (below_size (b2_ HB.out ad.out ag.out)));have n1_:=am_ (Kd.S_lower ho1 (below_size (b2_ HB.out ad.out ag.out)));have n2_:=am_ (blk_below (rb_ aa.out) hb);have n3_:=am_ (blk_below (rb_ ab.out) hb);have n4_:=am_ (below_step (b2_ HB.out ad.out ag.out) hb);clear aa;clear ab;clear HB;have al:=n0_;have am:=n1_;have aa:=n2_;have ab:=n3_;have HB:=n4_;clear n0_ n1_ n2_ n3_ n4_;(try clear hb);(try clear hb2);(try clear hk);(try clear hi);(try clear ho0);(try clear ho1)) | ((with_reducible refine gate_dst (N:=4) rfl ?_);refine box_event ?hg (N:=4) ?hd (cs:=#[.slice none 0 0,.slice none 0 0]) (t:=27) ?hr ?_;(case hd=>rfl);(case hg=>rfl);(case hr=>first | (go_simp;done) | (go_simp;rfl));intro af hg w9 hbox hb;have n0_:=am_ (Kd.R_below (rr_ al.out) hb);have n1_:=am_ (Kd.S_below (rs_ am.out) hb);have n2_:=am_ (blk_below (rb_ aa.out) hb);have n3_:=am_ (blk_below (rb_ ab.out) hb);have n4_:=am_ (below_step (b2_ HB.out ad.out ag.out) hb);have n5_:=am_ (hbox);have n6_:=am_ ((by rw [hg];exact (below_size (b2_ HB.out ad.out ag.out)):w.heap.size≤af));have n7_:=am_ ((by rw [hg];exact (below_size (b2_ HB.out ad.out ag.out)):w.heap.size≤af));have n8_:=am_ ((by rw [hg];exact Nat.ne_of_lt (blk_lt (rb_ aa.out)):ai ≠ af));have n9_:=am_ ((by rw [hg];exact Nat.ne_of_gt (blk_lt (rb_ aa.out)):af ≠ ai));have n10_:=am_ ((by rw [hg];exact Nat.ne_of_lt (blk_lt (rb_ ab.out)):ae ≠ af));have n11_:=am_ ((by rw [hg];exact Nat.ne_of_gt (blk_lt (rb_ ab.out)):af ≠ ae));clear al;clear am;clear aa;clear ab;clear HB;have al:=n0_;have am:=n1_;have aa:=n2_;have ab:=n3_;have HB:=n4_;have aj:=n5_;have aG:=n6_;have az:=n7_;have ap:=n8_;have aq:=n9_;have ah:=n10_;have ar:=n11_;clear n0_ n1_ n2_ n3_ n4_ n5_ n6_ n7_ n8_ n9_ n10_ n11_;clear hb hbox hg;obtain ⟨bx,bz,aJ⟩:=Kd.R_slice al.out;subst aJ;have bl:=aq.out;have bm:=ap.out;have bn:=ar.out;have bo:=ah.out;have aN:=ck_ (v:=(.slice none 0 0)) aj 0 rfl;have aO:=ck_ (v:=(.slice none 0 0)) aj 1 rfl;have aP:=blk_frozen aj.out 0;have aQ:=blk_frozen aj.out 1;obtain ⟨bA,bB,aK⟩:=Kd.S_slice am.out;subst aK;have aR:=ck_ (v:=(.slice none 0 0)) ab 0 rfl;have aS:=ck_ (v:=(.slice none 0 0)) ab 1 rfl;have aT:=blk_frozen ab.out 0;have aU:=blk_frozen ab.out 1))
  refine bodyPost_ret (results_ct rfl _ _ ae 27 #[.slice none 0 0,.slice none 0 0] (0,0) _ rfl (by refine rb_ ?_;refine blk_put (cs:=#[.slice none 0 0,.slice none 0 0]) ?_ 1 _ rfl;refine rb_ ?_;refine blk_put (cs:=#[.slice none 0 0,.slice none 0 0]) ?_ 0 _ rfl;refine rb_ ?_;refine blk_far ?_ ah.out _;refine rb_ ?_;refine blk_far ?_ ah.out _;refine rb_ ?_;exact ab.out) Try.underlying27 rfl (by kernel_rfl)) rfl ?_
  exact ⟨_,_,by first | rfl | (simp [errW_none,errW_some] <;> rfl) | (simp [*,errW_none,errW_some] <;> rfl),by first | exact Kd.R_nil _ _ _ _ _ | exact Kd.N_nil _ _ _ _ _ | exact Kd.V_nil _ _ _ _ _ | exact Kd.Q_nil _ _ _ _ _ | exact Kd.S_nil _ _ _ _ _,by first | exact Kd.S_nil _ _ _ _ _ | exact Kd.N_nil _ _ _ _ _ | exact Kd.V_nil _ _ _ _ _ | exact Kd.Q_nil _ _ _ _ _ | exact Kd.R_nil _ _ _ _ _,by repeat (first | (with_reducible first | exact HB.out | apply below_alloc | apply pw_below_drewN | apply below_drew1 | refine below_set ?_ ad.out | refine below_set ?_ ag.out | refine below_set ?_ az.out) | exact HB.out)⟩
 ·rw [if_neg c3] at H
  have c3b0:decide (40<(ak.length:Int))=false:=decide_eq_false c3
  have c3b1:decide (40<ak.length)=false:=decide_eq_false (by omega)
  clear c3
  simp only [Option.some.injEq,Prod.mk.injEq] at H
  obtain ⟨rfl,rfl,rfl⟩:=H
  go_enter Try.func68,Try.ntmps68
  go_wp2_with (first | ((with_reducible refine gate_dst (N:=1) rfl ?_);refine box_event ?hg (N:=1) ?hd (cs:=#[.slice A0_0 l0_0.length c0_0,.slice A0_1 l0_1.length c0_1]) (t:=27) ?hr ?_;(case hd=>rfl);(case hg=>rfl);(case hr=>first | (go_simp;done) | (go_simp;rfl));intro ai hg w16 hbox hb;replace aa:=am_ (hbox);replace aE:=am_ ((by rw [hg];exact (below_size (b0_ HB.out)):w.heap.size≤ai));replace ad:=am_ ((by rw [hg];exact (below_size (b0_ HB.out)):w.heap.size≤ai));replace HB:=am_ (below_step (b0_ HB.out) hb);clear hb hbox hg) | ((with_reducible refine gate_dst (N:=2) rfl ?_);refine box_event ?hg (N:=2) ?hd (cs:=#[.slice none 0 0,.slice none 0 0]) (t:=27) ?hr ?_;(case hd=>rfl);(case hg=>rfl);(case hr=>first | (go_simp;done) | (go_simp;rfl));intro ae hg w17 hbox hb;have n0_:=am_ (blk_below (rb_ aa.out) hb);have n1_:=am_ (below_step (b1_ HB.out ad.out) hb);have n2_:=am_ (hbox);have n3_:=am_ ((by rw [hg];exact (below_size (b1_ HB.out ad.out)):w.heap.size≤ae));have n4_:=am_ ((by rw [hg];exact (below_size (b1_ HB.out ad.out)):w.heap.size≤ae));have n5_:=am_ ((by rw [hg];exact Nat.ne_of_lt (blk_lt (rb_ aa.out)):ai ≠ ae));have n6_:=am_ ((by rw [hg];exact Nat.ne_of_gt (blk_lt (rb_ aa.out)):ae ≠ ai));clear aa;clear HB;have aa:=n0_;have HB:=n1_;have ab:=n2_;have aF:=n3_;have ag:=n4_;have an:=n5_;have ao:=n6_;clear n0_ n1_ n2_ n3_ n4_ n5_ n6_;clear hb hbox hg;have bp:=an.out;have bq:=ao.out;have aV:=ck_ (v:=(.slice A0_0 l0_0.length c0_0)) aa 0 rfl;have aW:=ck_ (v:=(.slice A0_1 l0_1.length c0_1)) aa 1 rfl;have aX:=blk_frozen aa.out 0;have aY:=blk_frozen aa.out 1) | ((with_reducible refine gate_callee (f:=56) rfl ?_);refine gL_ (some 6) Try.func56 #[.agg #[.slice A0_0 l0_0.length c0_0,.slice A0_1 l0_1.length c0_1],.int .i64 0] ?_;(with_reducible refine (impl_minimized.calls _ _ l0_0 _ _ l0_1 0 ak au _ ?side1 ?side2 ?side3 ?side4 A2.out).mono ?_);(case side1=>exact rc_ (Kd.C_below aA.out HB.out));(case side2=>exact aB.out);(case side3=>exact rc_ (Kd.C_below aC.out HB.out));(case side4=>exact aD.out);rintro e w20 ⟨aH,aI,rfl,ho0,ho1,hb⟩;refine ⟨_,rfl,?_⟩;have n0_:=am_ (Kd.R_lower ho0 (below_size (b2_ HB.out ad.out ag.out)));have n1_:=am_ (Kd.S_lower ho1 (below_size (b2_ HB.out ad.out ag.out)));have n2_:=am_ (blk_below (rb_ aa.out) hb);have n3_:=am_ (blk_below (rb_ ab.out) hb);have n4_:=am_ (below_step (b2_ HB.out ad.out ag.out) hb);clear aa;clear ab;clear HB;have al:=n0_;have am:=n1_;have aa:=n2_;have ab:=n3_;have HB:=n4_;clear n0_ n1_ n2_ n3_ n4_;(try clear hb);(try clear hb2);(try clear hk);(try clear hi);(try clear ho0);(try clear ho1)) | ((with_reducible refine gate_dst (N:=4) rfl ?_);refine box_event ?hg (N:=4) ?hd (cs:=#[.slice none 0 0,.slice none 0 0]) (t:=27) ?hr ?_;(case hd=>rfl);(case hg=>rfl);(case hr=>first | (go_simp;done) | (go_simp;rfl));intro af hg w21 hbox hb;have n0_:=am_ (Kd.R_below (rr_ al.out) hb);have n1_:=am_ (Kd.S_below (rs_ am.out) hb);have n2_:=am_ (blk_below (rb_ aa.out) hb);have n3_:=am_ (blk_below (rb_ ab.out) hb);have n4_:=am_ (below_step (b2_ HB.out ad.out ag.out) hb);have n5_:=am_ (hbox);have n6_:=am_ ((by rw [hg];exact (below_size (b2_ HB.out ad.out ag.out)):w.heap.size≤af));have n7_:=am_ ((by rw [hg];exact (below_size (b2_ HB.out ad.out ag.out)):w.heap.size≤af));have n8_:=am_ ((by rw [hg];exact Nat.ne_of_lt (blk_lt (rb_ aa.out)):ai ≠ af));have n9_:=am_ ((by rw [hg];exact Nat.ne_of_gt (blk_lt (rb_ aa.out)):af ≠ ai));have n10_:=am_ ((by rw [hg];exact Nat.ne_of_lt (blk_lt (rb_ ab.out)):ae ≠ af));have n11_:=am_ ((by rw [hg];exact Nat.ne_of_gt (blk_lt (rb_ ab.out)):af ≠ ae));clear al;clear am;clear aa;clear ab;clear HB;have al:=n0_;have am:=n1_;have aa:=n2_;have ab:=n3_;have HB:=n4_;have aj:=n5_;have aG:=n6_;have az:=n7_;have ap:=n8_;have aq:=n9_;have ah:=n10_;have ar:=n11_;clear n0_ n1_ n2_ n3_ n4_ n5_ n6_ n7_ n8_ n9_ n10_ n11_;clear hb hbox hg;obtain ⟨av,aw,aL⟩:=Kd.R_slice al.out;subst aL;have br:=aq.out;have bs:=ap.out;have bt:=ar.out;have bu:=ah.out;have aZ:=ck_ (v:=(.slice none 0 0)) aj 0 rfl;have ba:=ck_ (v:=(.slice none 0 0)) aj 1 rfl;have bb:=blk_frozen aj.out 0;have bc:=blk_frozen aj.out 1;obtain ⟨ax,ay,aM⟩:=Kd.S_slice am.out;subst aM;have bd:=ck_ (v:=(.slice none 0 0)) ab 0 rfl;have be:=ck_ (v:=(.slice none 0 0)) ab 1 rfl;have bf:=blk_frozen ab.out 0;have bg:=blk_frozen ab.out 1))
  refine bodyPost_ret (results_ct rfl _ _ ae 27 #[.slice av ak.length aw,.slice ax au.length ay] (0,0) _ rfl (by refine rb_ ?_;refine blk_put (cs:=#[.slice av ak.length aw,.slice none 0 0]) ?_ 1 _ rfl;refine rb_ ?_;refine blk_put (cs:=#[.slice none 0 0,.slice none 0 0]) ?_ 0 _ rfl;refine rb_ ?_;refine blk_far ?_ ah.out _;refine rb_ ?_;refine blk_far ?_ ah.out _;refine rb_ ?_;exact ab.out) Try.underlying27 rfl (by kernel_rfl)) rfl ?_
  exact ⟨_,_,by first | rfl | (simp [errW_none,errW_some] <;> rfl) | (simp [*,errW_none,errW_some] <;> rfl),by refine rr_ ?_;exact Kd.R_mono (Kd.R_far (p:=⟨ae,1,none⟩) (Kd.R_far (p:=⟨ae,0,none⟩) (Kd.R_far (p:=⟨af,1,none⟩) (Kd.R_far (p:=⟨af,0,none⟩) (Kd.R_types (Kd.R_types al.out aj.out (by decide)) ab.out (by decide)) (fun _ hk=>hk.1.2) (.slice av ak.length aw)) (fun _ hk=>hk.1.2) (.slice ax au.length ay)) (fun _ hk=>hk.2) (.slice av ak.length aw)) (fun _ hk=>hk.2) (.slice ax au.length ay)) (fun _ hk=>trivial),by refine rs_ ?_;exact Kd.S_mono (Kd.S_far (p:=⟨ae,1,none⟩) (Kd.S_far (p:=⟨ae,0,none⟩) (Kd.S_far (p:=⟨af,1,none⟩) (Kd.S_far (p:=⟨af,0,none⟩) (Kd.S_types (Kd.S_types am.out aj.out (by decide)) ab.out (by decide)) (fun _ hk=>hk.1.2) (.slice av ak.length aw)) (fun _ hk=>hk.1.2) (.slice ax au.length ay)) (fun _ hk=>hk.2) (.slice av ak.length aw)) (fun _ hk=>hk.2) (.slice ax au.length ay)) (fun _ hk=>trivial),by repeat (first | (with_reducible first | exact HB.out | apply below_alloc | apply pw_below_drewN | apply below_drew1 | refine below_set ?_ ad.out | refine below_set ?_ ag.out | refine below_set ?_ az.out) | exact HB.out)⟩
end Go.Proofs.Ytogamkblkoobkaa.P
end
section
namespace Go.Proofs.Ytogamkblkoobkaa.Wk
open Go.RowKit Go.Shelf Go.Proofs.Ytogamkblkoobkaa.P Go.Proofs.Ytogamkblkoobkaa.Pl Go.Proofs.Ytogamkblkoobkaa.Mp Go.Proofs.Ytogamkblkoobkaa.Bf Go.Proofs.Ytogamkblkoobkaa.Mn Go.Proofs.Ytogamkblkoobkaa.Lg Go.Proofs.Ytogamkblkoobkaa.Can Go.Proofs.YtogamkblkoobkaaW.PrintWords Go.Proofs.YtogamkblkoobkaaW.PrintLast Go.Proofs.YtogamkblkoobkaaW.PrintMore
theorem pd_fit {A:List Bool} {M:List (List Int)} (h1:1≤A.length) (h2:A.length≤1600) (h3:Rows3 A.length M):impl_fitting.f A M=some (fitD A M):=by
 unfold impl_fitting.f impl_minimized.f
 rw [if_pos ⟨h3.1,by omega,h3.2,by omega,by omega⟩]
 unfold fitD
 simp only [Option.bind_some]
 by_cases h:(minD A M 0).1.length≤40
 ·rw [if_neg (show ¬ ((minD A M 0).1.length:Int) > 40 by omega),if_pos h]
 ·rw [if_pos (show ((minD A M 0).1.length:Int) > 40 by omega),if_neg h]
def stSet (a:List Bool) (n:List (List Int)) (s:Int) (j:Nat):Int:=if acS a (mvS n s (j:Int))=true then Go.bits .or .u64 (mvS n s (j:Int)) 1 else mvS n s (j:Int)
def nxSt (a:List Bool) (n:List (List Int)) (x:Pr) (j:Nat):Pr:=(0,stSet a n x.2 j)
def acSt (a:List Bool) (x:Pr):Bool:=(x.1 == 1) || acS a x.2
set_option maxHeartbeats 4000000 in
set_option maxRecDepth 100000 in
theorem stAcc (A0:Option Addr) (c0:Nat) (l0:List Bool) (A1:Option Addr) (c1:Nat) (l1:List (List Int)) (Ga:Nat) (x:Pr) (W:World) (hl:l0.length≤40) (hx:U64 x.2)
  (ha:W.cell? ⟨Ga,0,none⟩=some (.slice A0 l0.length c0)) (hb:W.cell? ⟨Ga,1,none⟩=some (.slice A1 l1.length c1)) (hr0:Kd.C Kd.bool W A0 l0.length l0) (hc0:l0.length≤c0) (hr1:Kd.C (Kd.slice 3 (Kd.int .i64)) W A1 l1.length l1) (hc1:l1.length≤c1) :
  Calls Try.prog 83 (#[.agg #[.int .i64 x.1,.int .u64 x.2]] ++ #[.pointer (some ⟨Ga,0,none⟩)]) W fun e W'=>e = .returned (.bool (acSt l0 x))∧Below W.heap.size W W':=by
 have hu:=Try.underlying27
 have HB:=am_ (below_alloc (Below.refl W.heap.size W) (Obj.cells #[Value.int IntKind.i64 x.1,Value.int IntKind.u64 x.2] 86))
 have ka:=pw_cell_below HB.out ha
 have kb:=pw_cell_below HB.out hb
 obtain ⟨k,hk⟩:=(impl_accepting_ev (n:=l1) hl hx).rounds
 unfold acSt
 generalize acS l0 x.2=r at hk ⊢
 have HK:=am_ hk
 have HC0:=am_ (Kd.C_below hr0 HB.out)
 have HC1:=am_ (Kd.C_below hr1 HB.out)
 have HD0:=am_ hc0
 have HD1:=am_ hc1
 by_cases h1:x.1=1
 ·have e1:(x.1 == 1)=true:=by rw [h1];rfl
  have e2:decide (x.1=1)=true:=decide_eq_true h1
  have e3:(x.1=1)=True:=eq_true h1
  rw [e1,Bool.true_or]
  clear h1 ha hb hr0 hr1 hc0 hc1 hk
  go_enter Try.func83,Try.ntmps83
  go_wp2
  go_ret
  exact ⟨rfl,HB.out⟩
 ·have e1:(x.1 == 1)=false:=beq_eq_false_iff_ne.mpr h1
  have e2:decide (x.1=1)=false:=decide_eq_false h1
  have e3:(x.1=1)=False:=eq_false h1
  rw [e1,Bool.false_or]
  clear h1 ha hb hr0 hr1 hc0 hc1 hk
  go_enter Try.func83,Try.ntmps83
  go_wp2_with (go_at_call 80;(with_reducible refine (impl_accepting.calls k _ _ l0 _ _ l1 x.2 r _ ?s1 HD0.out ?s2 HD1.out HK.out).mono ?_);(case s1=>exact HC0.out);(case s2=>exact HC1.out);rintro e w2 ⟨rfl,hb⟩;have HB2:=bt_ HB hb;clear hb)
  go_ret
  exact ⟨rfl,HB2.out⟩
set_option maxHeartbeats 4000000 in
set_option maxRecDepth 100000 in
theorem stNext (A0:Option Addr) (c0:Nat) (l0:List Bool) (A1:Option Addr) (c1:Nat) (l1:List (List Int)) (Ga:Nat) (x:Pr) (j:Nat) (hj:j<3) (W:World) (hf:Fits l0 l1) (hl:l0.length≤40) (hx:U64 x.2)
  (ha:W.cell? ⟨Ga,0,none⟩=some (.slice A0 l0.length c0)) (hb:W.cell? ⟨Ga,1,none⟩=some (.slice A1 l1.length c1)) (hr0:Kd.C Kd.bool W A0 l0.length l0) (hc0:l0.length≤c0) (hr1:Kd.C (Kd.slice 3 (Kd.int .i64)) W A1 l1.length l1) (hc1:l1.length≤c1) :
  Calls Try.prog 84 (#[.agg #[.int .i64 x.1,.int .u64 x.2],.int .i64 j] ++ #[.pointer (some ⟨Ga,0,none⟩)]) W fun e W'=>e = .returned (.agg #[.int .i64 (nxSt l0 l1 x j).1,.int .u64 (nxSt l0 l1 x j).2])∧Below W.heap.size W W':=by
 have hu:=Try.underlying27
 have HB:=am_ (below_alloc (below_alloc (Below.refl W.heap.size W) (Obj.cells #[Value.int IntKind.i64 x.1,Value.int IntKind.u64 x.2] 86)) (Obj.cells #[Value.int IntKind.i64 0,Value.int IntKind.u64 0] 86))
 have ka:=pw_cell_below HB.out ha
 have kb:=pw_cell_below HB.out hb
 have HRS:Aside0 (((W.alloc (Obj.cells #[Value.int IntKind.i64 x.1,Value.int IntKind.u64 x.2] 86)).alloc (Obj.cells #[Value.int IntKind.i64 0,Value.int IntKind.u64 0] 86)).heap[W.heap.size+1]? = some (.cells #[.int .i64 0,.int .u64 0] 86 (0,0))):=⟨by have h_:=blk_new (W.alloc (Obj.cells #[Value.int IntKind.i64 x.1,Value.int IntKind.u64 x.2] 86)) (Obj.cells #[Value.int IntKind.i64 0,Value.int IntKind.u64 0] 86);simpa using h_⟩
 obtain ⟨k1,hk1⟩:=(impl_moved_ev hf hl hx j hj).rounds
 have hm:=(mvS_bits (s:=x.2) hf hl j hj).1
 unfold nxSt stSet
 generalize mvS l1 x.2 (j:Int)=m at hk1 hm ⊢
 obtain ⟨k2,hk2⟩:=(impl_accepting_ev (a:=l0) (n:=l1) hl hm).rounds
 generalize acS l0 m=r at hk2 ⊢
 have HK1:=am_ hk1
 have HK2:=am_ hk2
 have HC0:=am_ (Kd.C_below hr0 HB.out)
 have HC1:=am_ (Kd.C_below hr1 HB.out)
 have HD0:=am_ hc0
 have HD1:=am_ hc1
 clear hk1 hk2 hm ha hb hr0 hr1 hc0 hc1
 cases r
 all_goals
  go_enter Try.func84,Try.ntmps84
  go_wp2_with (first
   | (go_at_call 82;(with_reducible refine (impl_moved.calls k1 _ _ l0 _ _ l1 x.2 (j:Int) m _ ?s1 HD0.out ?s2 HD1.out HK1.out).mono ?_);(case s1=>exact HC0.out);(case s2=>exact HC1.out);rintro e w2 ⟨rfl,hb⟩;have HB2:=bt_ HB hb;have HRS2:=am_ (blk_below HRS.out hb);have ha2:=pw_cell_below hb ka;have hb2:=pw_cell_below hb kb;have HC02:=am_ (Kd.C_below HC0.out hb);have HC12:=am_ (Kd.C_below HC1.out hb);clear hb)
   | (go_at_call 80;(with_reducible refine (impl_accepting.calls k2 _ _ l0 _ _ l1 m _ _ ?t1 HD0.out ?t2 HD1.out HK2.out).mono ?_);(case t1=>exact HC02.out);(case t2=>exact HC12.out);rintro e w3 ⟨rfl,hb⟩;have HB3:=bt_ HB2 hb;have HRS3:=am_ (blk_below HRS2.out hb);have hcz0:World.cell? w3 ⟨W.heap.size+1,0,none⟩=some (.int .i64 0):=(blk_cell HRS3.out 0).trans rfl;have hcz1:World.cell? w3 ⟨W.heap.size+1,1,none⟩=some (.int .u64 0):=(blk_cell HRS3.out 1).trans rfl;have hfz0:=blk_frozen HRS3.out 0;have hfz1:=blk_frozen HRS3.out 1;clear hb))
  first
   | exact bodyPost_ret (results_cell_row rfl _ _ (W.heap.size+1) 86 #[.int .i64 0,.int .u64 (m)] (0,0) _ rfl (blk_put (cs':=#[.int .i64 0,.int .u64 (m)]) (blk_put (cs':=#[.int .i64 0,.int .u64 0]) HRS3.out 0 _ rfl) 1 _ rfl) Try.underlying86 rfl (by kernel_rfl)) rfl ⟨rfl,below_set (below_set HB3.out (Nat.le_succ _)) (Nat.le_succ _)⟩
   | exact bodyPost_ret (results_cell_row rfl _ _ (W.heap.size+1) 86 #[.int .i64 0,.int .u64 (Go.bits .or .u64 m 1)] (0,0) _ rfl (blk_put (cs':=#[.int .i64 0,.int .u64 (Go.bits .or .u64 m 1)]) (blk_put (cs':=#[.int .i64 0,.int .u64 0]) HRS3.out 0 _ rfl) 1 _ rfl) Try.underlying86 rfl (by kernel_rfl)) rfl ⟨rfl,below_set (below_set HB3.out (Nat.le_succ _)) (Nat.le_succ _)⟩
def stX (a:List Bool) (n:List (List Int)):Option (Ex Pr):=expl (acSt a) (nxSt a n) 400 402 ([((1:Int),(1:Int))],[],[]) 0
def stR (a:List Bool) (n:List (List Int)):List Bool × List (List Int) × Bool:=if validD a n=true then (match stX a n with | some q=>fitD q.2.1 q.2.2 | none=>([],[],false)) else ([],[],false)
theorem st_dom {a:List Bool} {n:List (List Int)} (hf:Fits a n) (ha:a.length≤40) (x:Pr) (j:Nat) (hj:j<3):(0≤(nxSt a n x j).1∧(nxSt a n x j).1≤1)∧U64 (nxSt a n x j).2:=by
 have h:=(mvS_bits (s:=x.2) hf ha j hj).1
 refine ⟨⟨by show (0:Int)≤0;omega,by show (0:Int)≤1;omega⟩,?_⟩
 show U64 (stSet a n x.2 j)
 unfold stSet
 split
 ·exact (bit_one h).1
 ·exact h
theorem wf_el {x:Pr} (h:(0≤x.1∧x.1≤1)∧U64 x.2):wfR x:=by
 obtain ⟨⟨h1,h2⟩,h3,h4⟩:=h
 exact ⟨by simp [wfI,Lit.wf,IntKind.min,IntKind.max,IntKind.signed,IntKind.bits];omega,by simp [Lit.wf,IntKind.min,IntKind.max,IntKind.signed,IntKind.bits];omega⟩
set_option maxHeartbeats 4000000 in
set_option maxRecDepth 100000 in
theorem stCalls (A0:Option Addr) (c0:Nat) (l0:List Bool) (A1:Option Addr) (c1:Nat) (l1:List (List Int)) (w:World) (hr0:Kd.C Kd.bool w A0 l0.length l0) (hc0:l0.length≤c0) (hr1:Kd.C (Kd.slice 3 (Kd.int .i64)) w A1 l1.length l1) (hc1:l1.length≤c1) :
  Calls Try.prog 26 #[.agg #[.slice A0 l0.length c0,.slice A1 l1.length c1]] w fun e w'=>∃ v0 v1:Value,e = .returned (.tuple #[.agg #[v0,v1],.bool (stR l0 l1).2.2])∧Kd.R Kd.bool 4 w' w.heap.size (fun _=>True) v0 (stR l0 l1).1∧Kd.S (Kd.slice 3 (Kd.int .i64)) 67 w' w.heap.size (fun _=>True) v1 (stR l0 l1).2.1∧Below w.heap.size w w':=by
 have hu:=Try.underlying27
 have HV:=am_ (fun W (hb:Below w.heap.size w W)=>validCalls A0 c0 l0 A1 c1 l1 W (Kd.C_below hr0 hb) (Kd.C_below hr1 hb))
 obtain ⟨OA,hOA⟩:∃ o:Obj,o=Obj.cells #[.slice A0 l0.length c0,.slice A1 l1.length c1] 27:=⟨_,rfl⟩
 obtain ⟨OD,hOD⟩:∃ o:Obj,o=Obj.cells #[.slice none 0 0,.slice none 0 0] 27:=⟨_,rfl⟩
 have HB0:Aside0 (Below w.heap.size w ((w.alloc OA).alloc OD)):=⟨below_alloc (below_alloc (Below.refl w.heap.size w) _) _⟩
 have KA0:Aside0 (World.cell? ((w.alloc OA).alloc OD) ⟨w.heap.size,0,none⟩=some (.slice A0 l0.length c0)):=⟨by rw [hOA];exact pw_cell_below (below_alloc (Below.refl _ _) _) (by simp)⟩
 have KA1:Aside0 (World.cell? ((w.alloc OA).alloc OD) ⟨w.heap.size,1,none⟩=some (.slice A1 l1.length c1)):=⟨by rw [hOA];exact pw_cell_below (below_alloc (Below.refl _ _) _) (by simp)⟩
 have HR8:Aside0 (((w.alloc OA).alloc OD).heap[w.heap.size+1]? = some (.cells #[.slice none 0 0,.slice none 0 0] 27 (0,0))):=⟨by
  have h0:=blk_new (w.alloc OA) OD
  rw [hOD] at h0 ⊢
  simpa using h0⟩
 have HGE:Aside0 (w.heap.size≤w.heap.size+1):=⟨by omega⟩
 subst hOA hOD
 cases hv:validD l0 l1 with
 | false =>
  rw [hv] at HV
  have e:stR l0 l1=([],[],false):=by unfold stR;rw [hv];rfl
  rw [e]
  clear hv e hr0 hr1 hc0 hc1
  go_enter Try.func26,Try.ntmps26
  go_wp2_with (go_at_call 39;(with_reducible refine (HV.out _ ?hq0).mono ?_);(case hq0=>exact HB0.out);rintro e w1 ⟨rfl,hb⟩;have HB:=bt_ HB0 hb;have HR9:=am_ (blk_below HR8.out hb);have hc0:=am_ (pw_cell_below hb KA0.out);have hc1:=am_ (pw_cell_below hb KA1.out);have hcz0:World.cell? w1 ⟨w.heap.size+1,0,none⟩=some (.slice none 0 0):=(blk_cell HR9.out 0).trans rfl;have hcz1:World.cell? w1 ⟨w.heap.size+1,1,none⟩=some (.slice none 0 0):=(blk_cell HR9.out 1).trans rfl;have hfz0:=blk_frozen HR9.out 0;have hfz1:=blk_frozen HR9.out 1;clear hb)
  have HT4:Aside0 (((w1.setCell ⟨w.heap.size+1,0,none⟩ (.slice none 0 0)).setCell ⟨w.heap.size+1,1,none⟩ (.slice none 0 0)).heap[w.heap.size+1]? = some (.cells #[.slice none 0 0,.slice none 0 0] 27 (0,0))):=⟨blk_put (blk_put (cs':=#[.slice none 0 0,.slice none 0 0]) HR9.out 0 _ rfl) 1 _ rfl⟩
  refine bodyPost_ret (results_ct rfl _ _ (w.heap.size+1) 27 #[.slice none 0 0,.slice none 0 0] (0,0) _ rfl HT4.out Try.underlying27 rfl (by kernel_rfl)) rfl ?_
  exact ⟨_,_,rfl,Kd.R_nil _ _ _ _ _,Kd.S_nil _ _ _ _ _,below_set (below_set HB.out HGE.out) HGE.out⟩
 | true =>
  rw [hv] at HV
  obtain ⟨n1,n2,n3,n4⟩:=validD_facts hv
  have hf:=fits_valid hv
  have HEX:Aside0 (∀ (Ga:Nat) (W:World),Below w.heap.size w W→W.cell? ⟨Ga,0,none⟩=some (.slice A0 l0.length c0)→W.cell? ⟨Ga,1,none⟩=some (.slice A1 l1.length c1) →
    Calls Try.prog 78 #[.agg #[.int .i64 1,.int .u64 1],.int .i64 400,.func (.func 83) #[] #[.pointer (some ⟨Ga,0,none⟩)],.func (.func 84) #[] #[.pointer (some ⟨Ga,0,none⟩)]] W (fun e w'=>∃ v0 v1 vl:Value,e = .returned (.tuple #[.agg #[v0,v1],vl,.bool (stX l0 l1).isSome])∧Kd.R Kd.bool 4 w' W.heap.size (fun _=>True) v0 ((stX l0 l1).getD ([],[],[])).2.1∧Kd.S (Kd.slice 3 (Kd.int .i64)) 67 w' W.heap.size (fun _=>True) v1 ((stX l0 l1).getD ([],[],[])).2.2∧Below W.heap.size W w')):=⟨fun Ga W hb h0 h1 =>
   explored_reached (dom:=fun x=>(0≤x.1∧x.1≤1)∧U64 x.2) 400 (by omega) (by omega) (acSt l0) (nxSt l0 l1) ((1:Int),(1:Int)) 83 84 #[.pointer (some ⟨Ga,0,none⟩)] #[.pointer (some ⟨Ga,0,none⟩)] (enters_of Try.func83 (by kernel_rfl) rfl) (enters_of Try.func84 (by kernel_rfl) rfl) W
    ⟨⟨by show (0:Int)≤1;omega,by show (1:Int)≤1;omega⟩,by show (0:Int)≤1;omega,by show (1:Int)<_;omega⟩ (fun x j _ hj=>st_dom hf n2 x j hj) (fun x hx=>wf_el hx)
    (fun x hx W' hb'=>stAcc A0 c0 l0 A1 c1 l1 Ga x W' n2 hx.2 (pw_cell_below hb' h0) (pw_cell_below hb' h1) (Kd.C_below (Kd.C_below hr0 hb) hb') hc0 (Kd.C_below (Kd.C_below hr1 hb) hb') hc1)
    (fun x j hx hj W' hb'=>stNext A0 c0 l0 A1 c1 l1 Ga x j hj W' hf n2 hx.2 (pw_cell_below hb' h0) (pw_cell_below hb' h1) (Kd.C_below (Kd.C_below hr0 hb) hb') hc0 (Kd.C_below (Kd.C_below hr1 hb) hb') hc1)⟩
  cases hx:stX l0 l1 with
  | none =>
   have e:stR l0 l1=([],[],false):=by unfold stR;rw [hv,hx];rfl
   rw [e]
   rw [hx] at HEX
   simp only [Option.isSome_none,Option.getD_none] at HEX
   clear hv e hx hr0 hr1 hc0 hc1 n1 n2 n3 n4 hf
   go_enter Try.func26,Try.ntmps26
   go_wp2_with (first | (go_at_call 39;(with_reducible refine (HV.out _ ?hq0).mono ?_);(case hq0=>exact HB0.out);rintro e w1 ⟨rfl,hb⟩;have HB:=bt_ HB0 hb;have HR9:=am_ (blk_below HR8.out hb);have hc0:=am_ (pw_cell_below hb KA0.out);have hc1:=am_ (pw_cell_below hb KA1.out);have hcz0:World.cell? w1 ⟨w.heap.size+1,0,none⟩=some (.slice none 0 0):=(blk_cell HR9.out 0).trans rfl;have hcz1:World.cell? w1 ⟨w.heap.size+1,1,none⟩=some (.slice none 0 0):=(blk_cell HR9.out 1).trans rfl;have hfz0:=blk_frozen HR9.out 0;have hfz1:=blk_frozen HR9.out 1;clear hb) | (go_at_call 78;(with_reducible refine (HEX.out w.heap.size _ ?z0 ?z1 ?z2).mono ?_);(case z0=>exact HB.out);(case z1=>exact hc0.out);(case z2=>exact hc1.out);rintro e w3 ⟨v0,v1,vl,rfl,hq0,hq1,hb⟩;have HR10:=am_ (blk_below HR9.out hb);have HB3:=bt_ HB hb;obtain ⟨E0,e0c,e0⟩:=Kd.R_slice hq0;rw [List.length_nil] at e0;subst e0;obtain ⟨E1,e1c,e1⟩:=Kd.S_slice hq1;rw [List.length_nil] at e1;subst e1;have HR12:=am_ (blk_alloc HR10.out (Obj.cells #[.slice E0 0 e0c,.slice E1 0 e1c] 27));have HB12:=am_ (below_alloc HB3.out (Obj.cells #[.slice E0 0 e0c,.slice E1 0 e1c] 27));clear hq0 hq1 hb hcz0 hcz1 hfz0 hfz1;have hcz0:World.cell? (w3.alloc (Obj.cells #[.slice E0 0 e0c,.slice E1 0 e1c] 27)) ⟨w.heap.size+1,0,none⟩=some (.slice none 0 0):=(blk_cell HR12.out 0).trans rfl;have hcz1:World.cell? (w3.alloc (Obj.cells #[.slice E0 0 e0c,.slice E1 0 e1c] 27)) ⟨w.heap.size+1,1,none⟩=some (.slice none 0 0):=(blk_cell HR12.out 1).trans rfl;have hfz0:=blk_frozen HR12.out 0;have hfz1:=blk_frozen HR12.out 1))
   have HT4:Aside0 ((((w3.alloc (Obj.cells #[.slice E0 0 e0c,.slice E1 0 e1c] 27)).setCell ⟨w.heap.size+1,0,none⟩ (.slice none 0 0)).setCell ⟨w.heap.size+1,1,none⟩ (.slice none 0 0)).heap[w.heap.size+1]? = some (.cells #[.slice none 0 0,.slice none 0 0] 27 (0,0))):=⟨blk_put (blk_put (cs':=#[.slice none 0 0,.slice none 0 0]) HR12.out 0 _ rfl) 1 _ rfl⟩
   refine bodyPost_ret (results_ct rfl _ _ (w.heap.size+1) 27 #[.slice none 0 0,.slice none 0 0] (0,0) _ rfl HT4.out Try.underlying27 rfl (by kernel_rfl)) rfl ?_
   exact ⟨_,_,rfl,Kd.R_nil _ _ _ _ _,Kd.S_nil _ _ _ _ _,below_set (below_set HB12.out HGE.out) HGE.out⟩
  | some q =>
   have e:stR l0 l1=fitD q.2.1 q.2.2:=by unfold stR;rw [hv,hx];rfl
   rw [e]
   rw [hx] at HEX
   simp only [Option.isSome_some,Option.getD_some] at HEX
   have hq:=expl_auto (most:=400) (by omega) (show expl (acSt l0) (nxSt l0 l1) 400 (400+2) ([((1:Int),(1:Int))],[],[]) 0=some q from hx)
   obtain ⟨g1,g2⟩:=hq.1.rows
   have HFT:=am_ (pd_fit g1 (Nat.le_trans hq.2 (by omega)) g2)
   generalize fitD q.2.1 q.2.2=fr at HFT ⊢
   obtain ⟨f1,f2,f3⟩:=fr
   clear hv e hx hq g1 g2 hr0 hr1 hc0 hc1 n1 n2 n3 n4 hf
   go_enter Try.func26,Try.ntmps26
   go_wp2_with (first | (go_at_call 39;(with_reducible refine (HV.out _ ?hq0).mono ?_);(case hq0=>exact HB0.out);rintro e w1 ⟨rfl,hb⟩;have HB:=bt_ HB0 hb;have HR9:=am_ (blk_below HR8.out hb);have hc0:=am_ (pw_cell_below hb KA0.out);have hc1:=am_ (pw_cell_below hb KA1.out);have hcz0:World.cell? w1 ⟨w.heap.size+1,0,none⟩=some (.slice none 0 0):=(blk_cell HR9.out 0).trans rfl;have hcz1:World.cell? w1 ⟨w.heap.size+1,1,none⟩=some (.slice none 0 0):=(blk_cell HR9.out 1).trans rfl;have hfz0:=blk_frozen HR9.out 0;have hfz1:=blk_frozen HR9.out 1;clear hb) | (go_at_call 78;(with_reducible refine (HEX.out w.heap.size _ ?z0 ?z1 ?z2).mono ?_);(case z0=>exact HB.out);(case z1=>exact hc0.out);(case z2=>exact hc1.out);rintro e w3 ⟨v0,v1,vl,rfl,hq0,hq1,hb⟩;have HR10:=am_ (blk_below HR9.out hb);have HB3:=bt_ HB hb;obtain ⟨E0,e0c,e0⟩:=Kd.R_slice hq0;subst e0;obtain ⟨E1,e1c,e1⟩:=Kd.S_slice hq1;subst e1;have HQ0:=am_ hq0;have HQ1:=am_ hq1;clear hq0 hq1 hb hcz0 hcz1 hfz0 hfz1) | (go_at_call 68;(with_reducible refine (impl_fitting.calls _ _ q.2.1 _ _ q.2.2 f1 f2 f3 _ ?y0 ?y1 ?y2 ?y3 HFT.out).mono ?_);(case y0=>exact Kd.C_below (Kd.R_reads' HQ0.out).2.2 (below_alloc (Below.refl _ _) _));(case y1=>exact (Kd.R_reads' HQ0.out).2.1);(case y2=>exact Kd.C_below (Kd.S_reads' HQ1.out).2.2 (below_alloc (Below.refl _ _) _));(case y3=>exact (Kd.S_reads' HQ1.out).2.1);rintro e w5 ⟨z0,z1,rfl,hz0,hz1,hb⟩;have HR11:=am_ (blk_below (blk_alloc HR10.out (Obj.cells #[.slice E0 q.2.1.length e0c,.slice E1 q.2.2.length e1c] 27)) hb);have hba:=below_alloc HB3.out (Obj.cells #[.slice E0 q.2.1.length e0c,.slice E1 q.2.2.length e1c] 27);have HB5:=am_ (below_then hba hba.size hb);have HZ0:=am_ (Kd.R_lower hz0 hba.size);have HZ1:=am_ (Kd.S_lower hz1 hba.size);obtain ⟨Z0,z0c,e0⟩:=Kd.R_slice hz0;subst e0;obtain ⟨Z1,z1c,e1⟩:=Kd.S_slice hz1;subst e1;have hcz0:World.cell? w5 ⟨w.heap.size+1,0,none⟩=some (.slice none 0 0):=(blk_cell HR11.out 0).trans rfl;have hcz1:World.cell? w5 ⟨w.heap.size+1,1,none⟩=some (.slice none 0 0):=(blk_cell HR11.out 1).trans rfl;have hfz0:=blk_frozen HR11.out 0;have hfz1:=blk_frozen HR11.out 1;clear hz0 hz1 hb hba))
   have HB4':Aside0 ((w5.setCell ⟨w.heap.size+1,0,none⟩ (.slice Z0 f1.length z0c)).heap[w.heap.size+1]? = some (.cells #[.slice Z0 f1.length z0c,.slice none 0 0] 27 (0,0))):=⟨blk_put HR11.out 0 _ rfl⟩
   have HT4:Aside0 (((w5.setCell ⟨w.heap.size+1,0,none⟩ (.slice Z0 f1.length z0c)).setCell ⟨w.heap.size+1,1,none⟩ (.slice Z1 f2.length z1c)).heap[w.heap.size+1]? = some (.cells #[.slice Z0 f1.length z0c,.slice Z1 f2.length z1c] 27 (0,0))):=⟨blk_put HB4'.out 1 _ rfl⟩
   refine bodyPost_ret (results_ct rfl _ _ (w.heap.size+1) 27 #[.slice Z0 f1.length z0c,.slice Z1 f2.length z1c] (0,0) _ rfl HT4.out Try.underlying27 rfl (by kernel_rfl)) rfl ?_
   exact ⟨_,_,rfl,Kd.R_set (Kd.R_set HZ0.out HR11.out (by decide) 0 _) HB4'.out (by decide) 1 _,Kd.S_set (Kd.S_set HZ1.out HR11.out (by decide) 0 _) HB4'.out (by decide) 1 _,below_set (below_set HB5.out HGE.out) HGE.out⟩
end Go.Proofs.Ytogamkblkoobkaa.Wk
end
section
namespace Go.Proofs.Ytogamkblkoobkaa.Wk
open Go.RowKit Go.Shelf Go.Proofs.Ytogamkblkoobkaa.P Go.Proofs.Ytogamkblkoobkaa.Pl Go.Proofs.Ytogamkblkoobkaa.Mp Go.Proofs.Ytogamkblkoobkaa.Bf Go.Proofs.Ytogamkblkoobkaa.Mn Go.Proofs.Ytogamkblkoobkaa.Lg Go.Proofs.Ytogamkblkoobkaa.Can Go.Proofs.YtogamkblkoobkaaW.PrintWords Go.Proofs.YtogamkblkoobkaaW.PrintLast Go.Proofs.YtogamkblkoobkaaW.PrintMore
theorem st_fn (P:Program) (w:World) (a:Addr) (m:Mode) (fn:Fn) (first captured:Array Value):(store a (.func fn first captured) m).run P w=stored P w a (.func fn first captured) m:=run_store P w a _ m rfl
attribute [local go_sem] st_fn
def bgSet (a:List Bool) (x:Pr):Int:=if rdOf false a x.1=true then Go.bits .or .u64 x.2 1 else x.2
def bgP (a:List Bool) (x:Pr):Pr:=(x.1,bgSet a x)
def nxCt (a:List Bool) (n:List (List Int)) (m:List (List Int)) (x:Pr) (j:Nat):Pr:=bgP a (nxD n x.1 j,mvS m x.2 (j:Int))
def acCt (b:List Bool) (x:Pr):Bool:=acS b x.2
set_option maxHeartbeats 4000000 in
set_option maxRecDepth 100000 in
theorem ctBg (A0:Option Addr) (c0:Nat) (l0:List Bool) (Ga:Nat) (x:Pr) (W:World) (hx0:0≤x.1) (hx1:x.1<l0.length)
  (ha:W.cell? ⟨Ga,0,none⟩=some (.slice A0 l0.length c0)) (hr0:Kd.C Kd.bool W A0 l0.length l0) :
  Calls Try.prog 77 (#[.agg #[.int .i64 x.1,.int .u64 x.2]] ++ #[.pointer (some ⟨Ga,0,none⟩)]) W fun e W'=>e = .returned (.agg #[.int .i64 (bgP l0 x).1,.int .u64 (bgP l0 x).2])∧Below W.heap.size W W':=by
 obtain ⟨a0,rfl,hu⟩:=Kd.at_bool hr0 x.1 hx0 hx1
 unfold bgP bgSet
 generalize rdOf false l0 x.1=u at hu ⊢
 have HB:=am_ (below_alloc (below_alloc (Below.refl W.heap.size W) (Obj.cells #[Value.int IntKind.i64 x.1,Value.int IntKind.u64 x.2] 86)) (Obj.cells #[Value.int IntKind.i64 0,Value.int IntKind.u64 0] 86))
 have HRX:Aside0 (((W.alloc (Obj.cells #[Value.int IntKind.i64 x.1,Value.int IntKind.u64 x.2] 86)).alloc (Obj.cells #[Value.int IntKind.i64 0,Value.int IntKind.u64 0] 86)).heap[W.heap.size]? = some (.cells #[.int .i64 x.1,.int .u64 x.2] 86 (0,0))):=⟨by have h_:=blk_alloc (blk_new W (Obj.cells #[Value.int IntKind.i64 x.1,Value.int IntKind.u64 x.2] 86)) (Obj.cells #[Value.int IntKind.i64 0,Value.int IntKind.u64 0] 86);simpa using h_⟩
 have HRS:Aside0 (((W.alloc (Obj.cells #[Value.int IntKind.i64 x.1,Value.int IntKind.u64 x.2] 86)).alloc (Obj.cells #[Value.int IntKind.i64 0,Value.int IntKind.u64 0] 86)).heap[W.heap.size+1]? = some (.cells #[.int .i64 0,.int .u64 0] 86 (0,0))):=⟨by have h_:=blk_new (W.alloc (Obj.cells #[Value.int IntKind.i64 x.1,Value.int IntKind.u64 x.2] 86)) (Obj.cells #[Value.int IntKind.i64 0,Value.int IntKind.u64 0] 86);simpa using h_⟩
 have ka:=pw_cell_below HB.out ha
 have ku:=pw_cell_below HB.out hu
 have p1:=eq_true hx0
 have q1:=eq_true hx1
 clear hx0 hx1 hr0 ha hu
 cases u
 all_goals
  go_enter Try.func77,Try.ntmps77
  go_wp2
 ·refine bodyPost_ret (v:=.agg #[.int .i64 x.1,.int .u64 x.2]) (by simp [results,Try.results77,go_sem]) rfl ⟨rfl,?_⟩
  exact below_alloc (below_alloc (Below.refl _ _) _) _
 ·refine bodyPost_ret (v:=.agg #[.int .i64 x.1,.int .u64 (Go.bits .or .u64 x.2 1)]) (by simp [results,Try.results77,go_sem]) rfl ⟨rfl,?_⟩
  exact below_alloc (below_alloc (Below.refl _ _) _) _
set_option maxHeartbeats 4000000 in
set_option maxRecDepth 100000 in
theorem ctAcc (A0:Option Addr) (c0:Nat) (l0:List Bool) (A1:Option Addr) (c1:Nat) (l1:List (List Int)) (Ga:Nat) (x:Pr) (W:World) (hl:l0.length≤40) (hx:U64 x.2)
  (ha:W.cell? ⟨Ga,0,none⟩=some (.slice A0 l0.length c0)) (hb:W.cell? ⟨Ga,1,none⟩=some (.slice A1 l1.length c1)) (hr0:Kd.C Kd.bool W A0 l0.length l0) (hc0:l0.length≤c0) (hr1:Kd.C (Kd.slice 3 (Kd.int .i64)) W A1 l1.length l1) (hc1:l1.length≤c1) :
  Calls Try.prog 79 (#[.agg #[.int .i64 x.1,.int .u64 x.2]] ++ #[.pointer (some ⟨Ga,0,none⟩)]) W fun e W'=>e = .returned (.bool (acCt l0 x))∧Below W.heap.size W W':=by
 have hu:=Try.underlying27
 have HB:=am_ (below_alloc (Below.refl W.heap.size W) (Obj.cells #[Value.int IntKind.i64 x.1,Value.int IntKind.u64 x.2] 86))
 have ka:=pw_cell_below HB.out ha
 have kb:=pw_cell_below HB.out hb
 obtain ⟨k,hk⟩:=(impl_accepting_ev (n:=l1) hl hx).rounds
 unfold acCt
 generalize acS l0 x.2=r at hk ⊢
 have HK:=am_ hk
 have HC0:=am_ (Kd.C_below hr0 HB.out)
 have HC1:=am_ (Kd.C_below hr1 HB.out)
 have HD0:=am_ hc0
 have HD1:=am_ hc1
 clear ha hb hr0 hr1 hc0 hc1 hk
 go_enter Try.func79,Try.ntmps79
 go_wp2_with (go_at_call 80;(with_reducible refine (impl_accepting.calls k _ _ l0 _ _ l1 x.2 r _ ?s1 HD0.out ?s2 HD1.out HK.out).mono ?_);(case s1=>exact HC0.out);(case s2=>exact HC1.out);rintro e w2 ⟨rfl,hb⟩;have HB2:=bt_ HB hb;clear hb)
 go_ret
 exact ⟨rfl,HB2.out⟩
def Tc1:Bool × List (List Nat × List Nat):=(true,[([],[]),([],[]),([1],[1]),([],[]),([3],[3]),([2,4],[2,4]),([5],[5]),([],[]),([6,7],[6,7]),([8],[8]),([],[]),([],[]),([11],[11]),([],[]),([10,12,13],[10,12,13]),([9,14],[9,14]),([0,15,14],[0,15]),([16,16,0,1,2,3,4,5,6,7,8,9,10,11,12,13,14,15,16],[16])])
def Bc1:List Nat:=[0,0,2,0,8,30,62,0,254,510,0,0,2048,0,15360,32766,65535,131071]
theorem tabc1:rtab .any (opsOf Try.f81 1)=Tc1:=by kernel_rfl
theorem bitsc1:waitsOk Tc1.2 Bc1=true:=by kernel_rfl
set_option maxHeartbeats 4000000 in
set_option maxRecDepth 100000 in
theorem ctNext (A0:Option Addr) (c0:Nat) (l0:List Bool) (A1:Option Addr) (c1:Nat) (l1:List (List Int)) (B0:Option Addr) (d0:Nat) (m0:List Bool) (B1:Option Addr) (d1:Nat) (m1:List (List Int)) (G Ga Gb:Nat) (x:Pr) (j:Nat) (hj:j<3) (W:World) (hf0:Fits l0 l1) (hf:Fits m0 m1) (hl:m0.length≤40) (hx:U64 x.2) (hx0:0≤x.1) (hx1:x.1<l0.length)
  (hG:W.cell? ⟨G,0,none⟩=some (.func (.func 77) #[] #[.pointer (some ⟨Ga,0,none⟩)])) (ha0:W.cell? ⟨Ga,0,none⟩=some (.slice A0 l0.length c0)) (ha1:W.cell? ⟨Ga,1,none⟩=some (.slice A1 l1.length c1)) (hb0:W.cell? ⟨Gb,0,none⟩=some (.slice B0 m0.length d0)) (hb1:W.cell? ⟨Gb,1,none⟩=some (.slice B1 m1.length d1)) (hr0:Kd.C Kd.bool W A0 l0.length l0) (hc0:l0.length≤c0) (hr1:Kd.C (Kd.slice 3 (Kd.int .i64)) W A1 l1.length l1) (hc1:l1.length≤c1) (hs0:Kd.C Kd.bool W B0 m0.length m0) (hd0:m0.length≤d0) (hs1:Kd.C (Kd.slice 3 (Kd.int .i64)) W B1 m1.length m1) (hd1:m1.length≤d1) :
  Calls Try.prog 81 (#[.agg #[.int .i64 x.1,.int .u64 x.2],.int .i64 j] ++ #[.pointer (some ⟨G,0,none⟩),.pointer (some ⟨Ga,0,none⟩),.pointer (some ⟨Gb,0,none⟩)]) W fun e W'=>e = .returned (.agg #[.int .i64 (nxCt l0 l1 m1 x j).1,.int .u64 (nxCt l0 l1 m1 x j).2])∧Below W.heap.size W W':=by
 have hud:=Try.underlying27
 obtain ⟨g1,g2⟩:=hf0.row x.1 ⟨hx0,hx1⟩
 have hl0:=hf0.len
 obtain ⟨a1,rfl,hcell⟩:=cellsRows hr1 (by omega)
 obtain ⟨Aj,cj,hu,hrow⟩:=hcell x.1.toNat (by omega)
 have hy:=g2 (rd (rowOf l1 x.1) (j:Int)) (by rw [rd_get _ j (by omega)];exact List.getElem_mem _)
 have hrw:l1.getD x.1.toNat []=rowOf l1 x.1:=rfl
 have hnx:nxD l1 x.1 j=rd (rowOf l1 x.1) (j:Int):=rfl
 rw [hrw] at hu hrow
 unfold nxCt
 rw [hnx]
 generalize rowOf l1 x.1=row0 at g1 hy hu hrow ⊢
 obtain ⟨b0,rfl,hs⟩:=Kd.at_int hrow (j:Int) (by omega) (by omega)
 generalize rd row0 (j:Int)=y0 at hs hy ⊢
 rw [Int.toNat_natCast] at hs
 obtain ⟨k1,hk1⟩:=(impl_moved_ev hf hl hx j hj).rounds
 generalize mvS m1 x.2 (j:Int)=m at hk1 ⊢
 have HK1:=am_ hk1
 have HBG:=am_ (fun W' (hb:Below W.heap.size W W')=>ctBg A0 c0 l0 Ga (y0,m) W' hy.1 hy.2 (pw_cell_below hb ha0) (Kd.C_below hr0 hb))
 generalize bgP l0 (y0,m)=z at HBG ⊢
 have HD0:=am_ hd0
 have HD1:=am_ hd1
 have p1:=eq_true hx0
 have q1:(x.1<(l1.length:Int))=True:=eq_true (by omega)
 have p3:((0:Int)≤(j:Int))=True:=eq_true (by omega)
 have q3:((j:Int)<(row0.length:Int))=True:=eq_true (by omega)
 have HB:=am_ (below_alloc (below_alloc (Below.refl W.heap.size W) (Obj.cells #[Value.int IntKind.i64 x.1,Value.int IntKind.u64 x.2] 86)) (Obj.cells #[Value.int IntKind.i64 0,Value.int IntKind.u64 0] 86))
 have HRS:Aside0 (((W.alloc (Obj.cells #[Value.int IntKind.i64 x.1,Value.int IntKind.u64 x.2] 86)).alloc (Obj.cells #[Value.int IntKind.i64 0,Value.int IntKind.u64 0] 86)).heap[W.heap.size+1]? = some (.cells #[.int .i64 0,.int .u64 0] 86 (0,0))):=⟨by have h_:=blk_new (W.alloc (Obj.cells #[Value.int IntKind.i64 x.1,Value.int IntKind.u64 x.2] 86)) (Obj.cells #[Value.int IntKind.i64 0,Value.int IntKind.u64 0] 86);simpa using h_⟩
 have kG:=pw_cell_below HB.out hG
 have ka1:=pw_cell_below HB.out ha1
 have kb0:=pw_cell_below HB.out hb0
 have kb1:=pw_cell_below HB.out hb1
 have ku:=pw_cell_below HB.out hu
 have ks:=pw_cell_below HB.out hs
 have HC0:=am_ (Kd.C_below hs0 HB.out)
 have HC1:=am_ (Kd.C_below hs1 HB.out)
 clear hk1 hx0 hx1 hr0 hr1 hs0 hs1 hG ha0 ha1 hb0 hb1 hu hs hcell hrow g1 g2 hy hl0 hc0 hc1 hd0 hd1 hrw hnx hx hf0 hf hl
 go_enter Try.func81,Try.ntmps81
 go_wp2
 have s0:World.cell? ((W.alloc (Obj.cells #[Value.int IntKind.i64 x.1,Value.int IntKind.u64 x.2] 86)).alloc (Obj.cells #[Value.int IntKind.i64 0,Value.int IntKind.u64 0] 86)) ⟨W.heap.size,0,none⟩=some (.int .i64 x.1):=pw_cell_below (below_alloc (Below.refl _ _) _) (by simp)
 have s1:World.cell? ((W.alloc (Obj.cells #[Value.int IntKind.i64 x.1,Value.int IntKind.u64 x.2] 86)).alloc (Obj.cells #[Value.int IntKind.i64 0,Value.int IntKind.u64 0] 86)) ⟨W.heap.size,1,none⟩=some (.int .u64 x.2):=pw_cell_below (below_alloc (Below.refl _ _) _) (by simp)
 have HBD:=am_ (below_drew HB.out)
 have HRD:=am_ (blk_drew HRS.out)
 have HCD0:=am_ (Kd.C_drew HC0.out)
 have HCD1:=am_ (Kd.C_drew HC1.out)
 clear HB HRS HC0 HC1
 refine start_ (n:=18) (S:=(fun w'=>w'.cell? ⟨G,0,none⟩=some (.func (.func 77) #[] #[.pointer (some ⟨Ga,0,none⟩)])∧w'.cell? ⟨Ga,1,none⟩=some (.slice (some a1) l1.length c1)∧w'.cell? ⟨W.heap.size,0,none⟩=some (.int .i64 x.1)∧w'.cell? (a1.add x.1.toNat)=some (.slice (some b0) row0.length cj)∧w'.cell? (b0.add j)=some (.int .i64 y0)∧w'.cell? ⟨Gb,0,none⟩=some (.slice B0 m0.length d0)∧w'.cell? ⟨Gb,1,none⟩=some (.slice B1 m1.length d1)∧w'.cell? ⟨W.heap.size,1,none⟩=some (.int .u64 x.2))) (ds:=[17]) (bl 18 0) (by kernel_rfl) rfl rfl (⟨kG,ka1,s0,ku,ks,kb0,kb1,s1⟩) (fun hHeld=>?_);refine with_tabW tabc1 bitsc1 (fun HT_ HW_=>?_)
 clear kG ka1 s0 ku ks kb0 kb1 s1
 generalize World.drew ((W.alloc (Obj.cells #[Value.int IntKind.i64 x.1,Value.int IntKind.u64 x.2] 86)).alloc (Obj.cells #[Value.int IntKind.i64 0,Value.int IntKind.u64 0] 86))=W1 at HBD HRD HCD0 HCD1 hHeld ⊢
 refine ph_ 1 9 (bl 18 2) HT_ ?_
 refine ph_ 3 11 (bl 18 10) HT_ ?_
 refine ph_ 7 15 (bl 18 138) HT_ ?_
 refine ph_ 11 19 (bl 18 2186) HT_ ?_
 refine ph_ 13 21 (bl 18 10378) HT_ ?_
 refine th_ 0 8 (bl 18 10379) HT_ HW_ hHeld ?_
 refine th_ 2 10 (bl 18 10383) HT_ HW_ hHeld ?_
 refine th_ 4 12 (bl 18 10399) HT_ HW_ hHeld ?_
 refine ph_ 5 13 (bl 18 10431) HT_ ?_
 refine th_ 6 14 (bl 18 10495) HT_ HW_ hHeld ?_
 refine ph_ 8 16 (bl 18 10751) HT_ ?_
 refine th_ 9 17 (bl 18 11263) HT_ HW_ hHeld ?_
 refine th_ 10 18 (bl 18 12287) HT_ HW_ hHeld ?_
 refine th_ 12 20 (bl 18 16383) HT_ HW_ hHeld ?_
 refine on_ 14 (some 22) (bl 18 32767) HT_ (fun K hK=>?_)
 refine goes_ Try.func82 (by kernel_rfl) rfl #[.agg #[.slice B0 m0.length d0,.slice B1 m1.length d1],.int .u64 x.2,.int .i64 j] (by rfl) rfl rfl (by (try simp only [List.map_toArray,List.map_cons,List.map_nil]);first | done | rfl) ?_
 with_reducible refine (impl_moved.calls k1 _ _ m0 _ _ m1 x.2 (j:Int) m _ ?s1 HD0.out ?s2 HD1.out HK1.out).mono ?_
 (case s1=>exact HCD0.out)
 (case s2=>exact HCD1.out)
 rintro e w2 ⟨rfl,hb⟩
 refine ⟨_,rfl,?_⟩
 have HB2:=bt_ HBD hb
 have HR2:=am_ (blk_below HRD.out hb)
 clear HBD HRD HCD0 HCD1
 refine hK.out _ _ (⟨pw_cell_below hb hHeld.1,pw_cell_below hb hHeld.2.1,pw_cell_below hb hHeld.2.2.1,pw_cell_below hb hHeld.2.2.2.1,pw_cell_below hb hHeld.2.2.2.2.1,pw_cell_below hb hHeld.2.2.2.2.2.1,pw_cell_below hb hHeld.2.2.2.2.2.2.1,pw_cell_below hb hHeld.2.2.2.2.2.2.2⟩) (fun hHeld=>?_)
 clear hK K
 refine nm_ 22 ?_
 clear hb
 refine ph_ 15 23 (bl 18 65535) HT_ ?_
 refine on_ 16 (some 24) (bl 18 131071) HT_ (fun K hK=>?_)
 refine goesFn_ 77 #[.pointer (some ⟨Ga,0,none⟩)] (.tmp 8) #[.agg #[.int .i64 y0,.int .u64 m]] (enters_of Try.func77 (by kernel_rfl) rfl) (by rfl) rfl (by rfl) (by rfl) (by (try simp only [List.map_toArray,List.map_cons,List.map_nil]);first | done | rfl) ?_
 refine (HBG.out _ HB2.out).mono ?_
 rintro e w3 ⟨rfl,hb⟩
 refine ⟨_,rfl,?_⟩
 have HB3:=bt_ HB2 hb
 have HR3:=am_ (blk_below HR2.out hb)
 clear HB2 HR2
 refine hK.out _ _ (⟨pw_cell_below hb hHeld.1,pw_cell_below hb hHeld.2.1,pw_cell_below hb hHeld.2.2.1,pw_cell_below hb hHeld.2.2.2.1,pw_cell_below hb hHeld.2.2.2.2.1,pw_cell_below hb hHeld.2.2.2.2.2.1,pw_cell_below hb hHeld.2.2.2.2.2.2.1,pw_cell_below hb hHeld.2.2.2.2.2.2.2⟩) (fun hHeld=>?_)
 clear hK K
 refine nm_ 24 ?_
 clear hb
 have hcz0:World.cell? w3 ⟨W.heap.size+1,0,none⟩=some (.int .i64 0):=(blk_cell HR3.out 0).trans rfl
 have hcz1:World.cell? w3 ⟨W.heap.size+1,1,none⟩=some (.int .u64 0):=(blk_cell HR3.out 1).trans rfl
 have hfz0:=blk_frozen HR3.out 0
 have hfz1:=blk_frozen HR3.out 1
 refine last_ (i:=17) (N:=none) (bl 18 262143) rfl rfl (one_of HT_.out (by kernel_rfl)) (by decide) (fun K hK=>?_)
 refine skip_ (w1:=?_) (by rfl) rfl ?_ ?_
 rotate_left
 ·go_simp
  rfl
 refine hK.out _ _ ?_
 clear hK K
 refine done_ (done_of HT_.out (by kernel_rfl)) ?_
 clear HT_ HW_ hHeld
 go_wp2
 exact bodyPost_ret (results_cell_row rfl _ _ (W.heap.size+1) 86 #[.int .i64 z.1,.int .u64 z.2] (0,0) _ rfl (blk_put (cs':=#[.int .i64 z.1,.int .u64 z.2]) (blk_put (cs':=#[.int .i64 z.1,.int .u64 0]) HR3.out 0 _ rfl) 1 _ rfl) Try.underlying86 rfl (by kernel_rfl)) rfl ⟨rfl,below_set (below_set HB3.out (Nat.le_succ _)) (Nat.le_succ _)⟩
def ctX (a:List Bool) (n:List (List Int)) (b:List Bool) (m:List (List Int)):Option (Ex Pr):=expl (acCt b) (nxCt a n m) 400 402 ([bgP a ((0:Int),(0:Int))],[],[]) 0
def ctR (a:List Bool) (n:List (List Int)) (b:List Bool) (m:List (List Int)):List Bool × List (List Int) × Bool:=if validD a n=true∧validD b m=true then (match ctX a n b m with | some q=>fitD q.2.1 q.2.2 | none=>([],[],false)) else ([],[],false)
theorem bg_dom {a:List Bool} {x:Pr} (h0:0≤x.1∧x.1<(a.length:Int)) (h:U64 x.2):(0≤(bgP a x).1∧(bgP a x).1<(a.length:Int))∧U64 (bgP a x).2:=by
 refine ⟨h0,?_⟩
 show U64 (bgSet a x)
 unfold bgSet
 split
 ·exact (bit_one h).1
 ·exact h
theorem ct_dom {a:List Bool} {n:List (List Int)} {b:List Bool} {m:List (List Int)} (hf0:Fits a n) (hf:Fits b m) (hb:b.length≤40) (x:Pr) (j:Nat) (hx:(0≤x.1∧x.1<(a.length:Int))∧U64 x.2) (hj:j<3):(0≤(nxCt a n m x j).1∧(nxCt a n m x j).1<(a.length:Int))∧U64 (nxCt a n m x j).2:=by
 refine bg_dom ?_ (mvS_bits (s:=x.2) hf hb j hj).1
 obtain ⟨g1,g2⟩:=hf0.row x.1 hx.1
 exact g2 (rd (rowOf n x.1) (j:Int)) (by rw [rd_get _ j (by omega)];exact List.getElem_mem _)
theorem wf_ct {k:Nat} (hk:k≤40) {x:Pr} (h:(0≤x.1∧x.1<(k:Int))∧U64 x.2):wfR x:=by
 obtain ⟨⟨h1,h2⟩,h3,h4⟩:=h
 exact ⟨by simp [wfI,Lit.wf,IntKind.min,IntKind.max,IntKind.signed,IntKind.bits];omega,by simp [Lit.wf,IntKind.min,IntKind.max,IntKind.signed,IntKind.bits];omega⟩
set_option maxHeartbeats 4000000 in
set_option maxRecDepth 100000 in
theorem ctCalls (A0:Option Addr) (c0:Nat) (l0:List Bool) (A1:Option Addr) (c1:Nat) (l1:List (List Int)) (B0:Option Addr) (d0:Nat) (m0:List Bool) (B1:Option Addr) (d1:Nat) (m1:List (List Int)) (w:World) (hr0:Kd.C Kd.bool w A0 l0.length l0) (hc0:l0.length≤c0) (hr1:Kd.C (Kd.slice 3 (Kd.int .i64)) w A1 l1.length l1) (hc1:l1.length≤c1) (hs0:Kd.C Kd.bool w B0 m0.length m0) (hd0:m0.length≤d0) (hs1:Kd.C (Kd.slice 3 (Kd.int .i64)) w B1 m1.length m1) (hd1:m1.length≤d1) :
  Calls Try.prog 24 #[.agg #[.slice A0 l0.length c0,.slice A1 l1.length c1],.agg #[.slice B0 m0.length d0,.slice B1 m1.length d1]] w fun e w'=>∃ v0 v1:Value,e = .returned (.tuple #[.agg #[v0,v1],.bool (ctR l0 l1 m0 m1).2.2])∧Kd.R Kd.bool 4 w' w.heap.size (fun _=>True) v0 (ctR l0 l1 m0 m1).1∧Kd.S (Kd.slice 3 (Kd.int .i64)) 67 w' w.heap.size (fun _=>True) v1 (ctR l0 l1 m0 m1).2.1∧Below w.heap.size w w':=by
 have hu:=Try.underlying27
 have hu87:=Try.underlying87
 have HV:=am_ (fun W (hb:Below w.heap.size w W)=>validCalls A0 c0 l0 A1 c1 l1 W (Kd.C_below hr0 hb) (Kd.C_below hr1 hb))
 have HV2:=am_ (fun W (hb:Below w.heap.size w W)=>validCalls B0 d0 m0 B1 d1 m1 W (Kd.C_below hs0 hb) (Kd.C_below hs1 hb))
 obtain ⟨OA,hOA⟩:∃ o:Obj,o=Obj.cells #[.slice A0 l0.length c0,.slice A1 l1.length c1] 27:=⟨_,rfl⟩
 obtain ⟨OB,hOB⟩:∃ o:Obj,o=Obj.cells #[.slice B0 m0.length d0,.slice B1 m1.length d1] 27:=⟨_,rfl⟩
 obtain ⟨OD,hOD⟩:∃ o:Obj,o=Obj.cells #[.slice none 0 0,.slice none 0 0] 27:=⟨_,rfl⟩
 have HB0:Aside0 (Below w.heap.size w (((w.alloc OA).alloc OB).alloc OD)):=⟨below_alloc (below_alloc (below_alloc (Below.refl w.heap.size w) _) _) _⟩
 have KA0:Aside0 (World.cell? (((w.alloc OA).alloc OB).alloc OD) ⟨w.heap.size,0,none⟩=some (.slice A0 l0.length c0)):=⟨by rw [hOA];exact pw_cell_below (below_alloc (below_alloc (Below.refl _ _) _) _) (by simp)⟩
 have KA1:Aside0 (World.cell? (((w.alloc OA).alloc OB).alloc OD) ⟨w.heap.size,1,none⟩=some (.slice A1 l1.length c1)):=⟨by rw [hOA];exact pw_cell_below (below_alloc (below_alloc (Below.refl _ _) _) _) (by simp)⟩
 have KB0:Aside0 (World.cell? (((w.alloc OA).alloc OB).alloc OD) ⟨w.heap.size+1,0,none⟩=some (.slice B0 m0.length d0)):=⟨by rw [hOB];exact pw_cell_below (below_alloc (Below.refl _ _) _) (by simp)⟩
 have KB1:Aside0 (World.cell? (((w.alloc OA).alloc OB).alloc OD) ⟨w.heap.size+1,1,none⟩=some (.slice B1 m1.length d1)):=⟨by rw [hOB];exact pw_cell_below (below_alloc (Below.refl _ _) _) (by simp)⟩
 have HR8:Aside0 ((((w.alloc OA).alloc OB).alloc OD).heap[w.heap.size+1+1]? = some (.cells #[.slice none 0 0,.slice none 0 0] 27 (0,0))):=⟨by
  have h0:=blk_new ((w.alloc OA).alloc OB) OD
  rw [hOD] at h0 ⊢
  simpa using h0⟩
 have HGE:Aside0 (w.heap.size≤w.heap.size+1+1):=⟨by omega⟩
 cases hv:validD l0 l1 with
 | false =>
  rw [hv] at HV
  have e:ctR l0 l1 m0 m1=([],[],false):=by unfold ctR;rw [hv];rw [if_neg];rintro ⟨h,_⟩;cases h
  rw [e]
  subst hOA hOB hOD
  clear hv e hr0 hr1 hs0 hs1 HV2 hc0 hc1 hd0 hd1
  go_enter Try.func24,Try.ntmps24
  go_wp2_with (go_at_call 39;(with_reducible refine (HV.out _ ?hq0).mono ?_);(case hq0=>exact HB0.out);rintro e w1 ⟨rfl,hb⟩;have HB:=bt_ HB0 hb;have HR9:=am_ (blk_below HR8.out hb);have hcz0:World.cell? w1 ⟨w.heap.size+1+1,0,none⟩=some (.slice none 0 0):=(blk_cell HR9.out 0).trans rfl;have hcz1:World.cell? w1 ⟨w.heap.size+1+1,1,none⟩=some (.slice none 0 0):=(blk_cell HR9.out 1).trans rfl;have hfz0:=blk_frozen HR9.out 0;have hfz1:=blk_frozen HR9.out 1;clear hb)
  have HT4:Aside0 (((w1.setCell ⟨w.heap.size+1+1,0,none⟩ (.slice none 0 0)).setCell ⟨w.heap.size+1+1,1,none⟩ (.slice none 0 0)).heap[w.heap.size+1+1]? = some (.cells #[.slice none 0 0,.slice none 0 0] 27 (0,0))):=⟨blk_put (blk_put (cs':=#[.slice none 0 0,.slice none 0 0]) HR9.out 0 _ rfl) 1 _ rfl⟩
  refine bodyPost_ret (results_ct rfl _ _ (w.heap.size+1+1) 27 #[.slice none 0 0,.slice none 0 0] (0,0) _ rfl HT4.out Try.underlying27 rfl (by kernel_rfl)) rfl ?_
  exact ⟨_,_,rfl,Kd.R_nil _ _ _ _ _,Kd.S_nil _ _ _ _ _,below_set (below_set HB.out HGE.out) HGE.out⟩
 | true =>
  rw [hv] at HV
  cases hv2:validD m0 m1 with
  | false =>
   rw [hv2] at HV2
   have e:ctR l0 l1 m0 m1=([],[],false):=by unfold ctR;rw [hv2];rw [if_neg];rintro ⟨_,h⟩;cases h
   rw [e]
   subst hOA hOB hOD
   clear hv hv2 e hr0 hr1 hs0 hs1 hc0 hc1 hd0 hd1
   go_enter Try.func24,Try.ntmps24
   go_wp2_with (first | (go_at_call 39;(with_reducible refine (HV.out _ ?hq0).mono ?_);(case hq0=>exact HB0.out);rintro e w1 ⟨rfl,hb⟩;have HB1:=bt_ HB0 hb;have HR1:=am_ (blk_below HR8.out hb);have ha0:=am_ (pw_cell_below hb KA0.out);have ha1:=am_ (pw_cell_below hb KA1.out);have hb0:=pw_cell_below hb KB0.out;have hb1:=pw_cell_below hb KB1.out;clear hb) | (go_at_call 39;(with_reducible refine (HV2.out _ ?hq1).mono ?_);(case hq1=>exact HB1.out);rintro e w2 ⟨rfl,hb⟩;have HB:=bt_ HB1 hb;have HR9:=am_ (blk_below HR1.out hb);have hcz0:World.cell? w2 ⟨w.heap.size+1+1,0,none⟩=some (.slice none 0 0):=(blk_cell HR9.out 0).trans rfl;have hcz1:World.cell? w2 ⟨w.heap.size+1+1,1,none⟩=some (.slice none 0 0):=(blk_cell HR9.out 1).trans rfl;have hfz0:=blk_frozen HR9.out 0;have hfz1:=blk_frozen HR9.out 1;clear hb hb0 hb1))
   have HT4:Aside0 (((w2.setCell ⟨w.heap.size+1+1,0,none⟩ (.slice none 0 0)).setCell ⟨w.heap.size+1+1,1,none⟩ (.slice none 0 0)).heap[w.heap.size+1+1]? = some (.cells #[.slice none 0 0,.slice none 0 0] 27 (0,0))):=⟨blk_put (blk_put (cs':=#[.slice none 0 0,.slice none 0 0]) HR9.out 0 _ rfl) 1 _ rfl⟩
   refine bodyPost_ret (results_ct rfl _ _ (w.heap.size+1+1) 27 #[.slice none 0 0,.slice none 0 0] (0,0) _ rfl HT4.out Try.underlying27 rfl (by kernel_rfl)) rfl ?_
   exact ⟨_,_,rfl,Kd.R_nil _ _ _ _ _,Kd.S_nil _ _ _ _ _,below_set (below_set HB.out HGE.out) HGE.out⟩
  | true =>
   rw [hv2] at HV2
   obtain ⟨n1,n2,n3,n4⟩:=validD_facts hv
   obtain ⟨k1,k2,k3,k4⟩:=validD_facts hv2
   have hf0:=fits_valid hv
   have hf:=fits_valid hv2
   have hz0:(0≤((0:Int),(0:Int)).1∧((0:Int),(0:Int)).1<(l0.length:Int))∧U64 ((0:Int),(0:Int)).2:=⟨⟨by show (0:Int)≤0;omega,by show (0:Int)<_;omega⟩,by show (0:Int)≤0;omega,by show (0:Int)<_;omega⟩
   have hdz:=bg_dom (a:=l0) (x:=((0:Int),(0:Int))) hz0.1 hz0.2
   have HBG:Aside0 (∀ (Ga:Nat) (W:World),Below w.heap.size w W→W.cell? ⟨Ga,0,none⟩=some (.slice A0 l0.length c0)→Calls Try.prog 77 #[.agg #[.int .i64 0,.int .u64 0],.pointer (some ⟨Ga,0,none⟩)] W fun e W'=>e = .returned (.agg #[.int .i64 (bgP l0 ((0:Int),(0:Int))).1,.int .u64 (bgP l0 ((0:Int),(0:Int))).2])∧Below W.heap.size W W'):=⟨fun Ga W hb h=>ctBg A0 c0 l0 Ga ((0:Int),(0:Int)) W hz0.1.1 hz0.1.2 h (Kd.C_below hr0 hb)⟩
   have HEX:Aside0 (∀ (Ga Gb G:Nat) (W:World),Below w.heap.size w W→W.cell? ⟨Ga,0,none⟩=some (.slice A0 l0.length c0)→W.cell? ⟨Ga,1,none⟩=some (.slice A1 l1.length c1)→W.cell? ⟨Gb,0,none⟩=some (.slice B0 m0.length d0)→W.cell? ⟨Gb,1,none⟩=some (.slice B1 m1.length d1)→W.cell? ⟨G,0,none⟩=some (.func (.func 77) #[] #[.pointer (some ⟨Ga,0,none⟩)]) →
     Calls Try.prog 78 #[.agg #[.int .i64 (bgP l0 ((0:Int),(0:Int))).1,.int .u64 (bgP l0 ((0:Int),(0:Int))).2],.int .i64 400,.func (.func 79) #[] #[.pointer (some ⟨Gb,0,none⟩)],.func (.func 81) #[] #[.pointer (some ⟨G,0,none⟩),.pointer (some ⟨Ga,0,none⟩),.pointer (some ⟨Gb,0,none⟩)]] W (fun e w'=>∃ v0 v1 vl:Value,e = .returned (.tuple #[.agg #[v0,v1],vl,.bool (ctX l0 l1 m0 m1).isSome])∧Kd.R Kd.bool 4 w' W.heap.size (fun _=>True) v0 ((ctX l0 l1 m0 m1).getD ([],[],[])).2.1∧Kd.S (Kd.slice 3 (Kd.int .i64)) 67 w' W.heap.size (fun _=>True) v1 ((ctX l0 l1 m0 m1).getD ([],[],[])).2.2∧Below W.heap.size W w')):=⟨fun Ga Gb G W hb h0 h1 h2 h3 h4 =>
    explored_reached (dom:=fun x=>(0≤x.1∧x.1<(l0.length:Int))∧U64 x.2) 400 (by omega) (by omega) (acCt m0) (nxCt l0 l1 m1) (bgP l0 ((0:Int),(0:Int))) 79 81 #[.pointer (some ⟨Gb,0,none⟩)] #[.pointer (some ⟨G,0,none⟩),.pointer (some ⟨Ga,0,none⟩),.pointer (some ⟨Gb,0,none⟩)] (enters_of Try.func79 (by kernel_rfl) rfl) (enters_of Try.func81 (by kernel_rfl) rfl) W
     hdz (fun x j hx hj=>ct_dom hf0 hf k2 x j hx hj) (fun x hx=>wf_ct n2 hx)
     (fun x hx W' hb'=>ctAcc B0 d0 m0 B1 d1 m1 Gb x W' k2 hx.2 (pw_cell_below hb' h2) (pw_cell_below hb' h3) (Kd.C_below (Kd.C_below hs0 hb) hb') hd0 (Kd.C_below (Kd.C_below hs1 hb) hb') hd1)
     (fun x j hx hj W' hb'=>ctNext A0 c0 l0 A1 c1 l1 B0 d0 m0 B1 d1 m1 G Ga Gb x j hj W' hf0 hf k2 hx.2 hx.1.1 hx.1.2 (pw_cell_below hb' h4) (pw_cell_below hb' h0) (pw_cell_below hb' h1) (pw_cell_below hb' h2) (pw_cell_below hb' h3) (Kd.C_below (Kd.C_below hr0 hb) hb') hc0 (Kd.C_below (Kd.C_below hr1 hb) hb') hc1 (Kd.C_below (Kd.C_below hs0 hb) hb') hd0 (Kd.C_below (Kd.C_below hs1 hb) hb') hd1)⟩
   cases hx:ctX l0 l1 m0 m1 with
   | none =>
    have e:ctR l0 l1 m0 m1=([],[],false):=by unfold ctR;rw [if_pos ⟨hv,hv2⟩,hx]
    rw [e]
    rw [hx] at HEX
    simp only [Option.isSome_none,Option.getD_none] at HEX
    generalize bgP l0 ((0:Int),(0:Int))=z at HBG HEX
    subst hOA hOB hOD
    clear hv hv2 e hx hr0 hr1 hs0 hs1 hc0 hc1 hd0 hd1 n1 n2 n3 n4 k1 k2 k3 k4 hf hf0 hdz hz0
    go_enter Try.func24,Try.ntmps24
    go_wp2_with (first | (go_at_call 39;(with_reducible refine (HV.out _ ?hq0).mono ?_);(case hq0=>exact HB0.out);rintro e w1 ⟨rfl,hb⟩;have HB1:=bt_ HB0 hb;have HR1:=am_ (blk_below HR8.out hb);have ha0:=am_ (pw_cell_below hb KA0.out);have ha1:=am_ (pw_cell_below hb KA1.out);have hb0:=pw_cell_below hb KB0.out;have hb1:=pw_cell_below hb KB1.out;clear hb) | (go_at_call 39;(with_reducible refine (HV2.out _ ?hq1).mono ?_);(case hq1=>exact HB1.out);rintro e w2 ⟨rfl,hb⟩;have HB2:=bt_ HB1 hb;have HR2:=am_ (blk_below HR1.out hb);have ha20:=am_ (pw_cell_below hb ha0.out);have ha21:=am_ (pw_cell_below hb ha1.out);have hb20:=am_ (pw_cell_below hb hb0);have hb21:=am_ (pw_cell_below hb hb1);clear hb hb0 hb1) | (go_at_call 77;(with_reducible refine (HBG.out _ _ ?b0 ?b1).mono ?_);(case b0=>exact below_alloc HB2.out _);(case b1=>exact pw_cell_below (below_alloc (Below.refl _ _) _) ha20.out);rintro e w3 ⟨rfl,hb⟩;have hba:=below_alloc HB2.out (Obj.cells #[.func (.func 77) #[] #[.pointer (some ⟨w.heap.size,0,none⟩)]] 87);have HB3:=am_ (below_then hba hba.size hb);have HR3:=am_ (blk_below (blk_alloc HR2.out (Obj.cells #[.func (.func 77) #[] #[.pointer (some ⟨w.heap.size,0,none⟩)]] 87)) hb);have hal:=below_alloc (Below.refl w2.heap.size w2) (Obj.cells #[.func (.func 77) #[] #[.pointer (some ⟨w.heap.size,0,none⟩)]] 87);have hGc:World.cell? (w2.alloc (Obj.cells #[.func (.func 77) #[] #[.pointer (some ⟨w.heap.size,0,none⟩)]] 87)) ⟨w2.heap.size,0,none⟩=some (.func (.func 77) #[] #[.pointer (some ⟨w.heap.size,0,none⟩)]):=(by simp);have hG3:=am_ (pw_cell_below hb hGc);have ha30:=am_ (pw_cell_below hb (pw_cell_below hal ha20.out));have ha31:=am_ (pw_cell_below hb (pw_cell_below hal ha21.out));have hb30:=am_ (pw_cell_below hb (pw_cell_below hal hb20.out));have hb31:=am_ (pw_cell_below hb (pw_cell_below hal hb21.out));clear hb hba hal hGc) | (go_at_call 78;(with_reducible refine (HEX.out _ _ _ _ ?z0 ?z1 ?z2 ?z3 ?z4 ?z5).mono ?_);(case z0=>exact HB3.out);(case z1=>exact ha30.out);(case z2=>exact ha31.out);(case z3=>exact hb30.out);(case z4=>exact hb31.out);(case z5=>exact hG3.out);rintro e w4 ⟨v0,v1,vl,rfl,hq0,hq1,hb⟩;have HR10:=am_ (blk_below HR3.out hb);have HB4:=bt_ HB3 hb;obtain ⟨E0,e0c,e0⟩:=Kd.R_slice hq0;rw [List.length_nil] at e0;subst e0;obtain ⟨E1,e1c,e1⟩:=Kd.S_slice hq1;rw [List.length_nil] at e1;subst e1;have HR12:=am_ (blk_alloc HR10.out (Obj.cells #[.slice E0 0 e0c,.slice E1 0 e1c] 27));have HB12:=am_ (below_alloc HB4.out (Obj.cells #[.slice E0 0 e0c,.slice E1 0 e1c] 27));clear hq0 hq1 hb;have hcz0:World.cell? (w4.alloc (Obj.cells #[.slice E0 0 e0c,.slice E1 0 e1c] 27)) ⟨w.heap.size+1+1,0,none⟩=some (.slice none 0 0):=(blk_cell HR12.out 0).trans rfl;have hcz1:World.cell? (w4.alloc (Obj.cells #[.slice E0 0 e0c,.slice E1 0 e1c] 27)) ⟨w.heap.size+1+1,1,none⟩=some (.slice none 0 0):=(blk_cell HR12.out 1).trans rfl;have hfz0:=blk_frozen HR12.out 0;have hfz1:=blk_frozen HR12.out 1))
    have HT4:Aside0 ((((w4.alloc (Obj.cells #[.slice E0 0 e0c,.slice E1 0 e1c] 27)).setCell ⟨w.heap.size+1+1,0,none⟩ (.slice none 0 0)).setCell ⟨w.heap.size+1+1,1,none⟩ (.slice none 0 0)).heap[w.heap.size+1+1]? = some (.cells #[.slice none 0 0,.slice none 0 0] 27 (0,0))):=⟨blk_put (blk_put (cs':=#[.slice none 0 0,.slice none 0 0]) HR12.out 0 _ rfl) 1 _ rfl⟩
    refine bodyPost_ret (results_ct rfl _ _ (w.heap.size+1+1) 27 #[.slice none 0 0,.slice none 0 0] (0,0) _ rfl HT4.out Try.underlying27 rfl (by kernel_rfl)) rfl ?_
    exact ⟨_,_,rfl,Kd.R_nil _ _ _ _ _,Kd.S_nil _ _ _ _ _,below_set (below_set HB12.out HGE.out) HGE.out⟩
   | some q =>
    have e:ctR l0 l1 m0 m1=fitD q.2.1 q.2.2:=by unfold ctR;rw [if_pos ⟨hv,hv2⟩,hx]
    rw [e]
    rw [hx] at HEX
    simp only [Option.isSome_some,Option.getD_some] at HEX
    have hq:=expl_auto (most:=400) (by omega) (show expl (acCt m0) (nxCt l0 l1 m1) 400 (400+2) ([bgP l0 ((0:Int),(0:Int))],[],[]) 0=some q from hx)
    obtain ⟨g1,g2⟩:=hq.1.rows
    have HFT:=am_ (pd_fit g1 (Nat.le_trans hq.2 (by omega)) g2)
    generalize fitD q.2.1 q.2.2=fr at HFT ⊢
    obtain ⟨f1,f2,f3⟩:=fr
    generalize bgP l0 ((0:Int),(0:Int))=z at HBG HEX
    subst hOA hOB hOD
    clear hv hv2 e hx hr0 hr1 hs0 hs1 hc0 hc1 hd0 hd1 n1 n2 n3 n4 k1 k2 k3 k4 hf hf0 hdz hz0 hq g1 g2
    go_enter Try.func24,Try.ntmps24
    go_wp2_with (first | (go_at_call 39;(with_reducible refine (HV.out _ ?hq0).mono ?_);(case hq0=>exact HB0.out);rintro e w1 ⟨rfl,hb⟩;have HB1:=bt_ HB0 hb;have HR1:=am_ (blk_below HR8.out hb);have ha0:=am_ (pw_cell_below hb KA0.out);have ha1:=am_ (pw_cell_below hb KA1.out);have hb0:=pw_cell_below hb KB0.out;have hb1:=pw_cell_below hb KB1.out;clear hb) | (go_at_call 39;(with_reducible refine (HV2.out _ ?hq1).mono ?_);(case hq1=>exact HB1.out);rintro e w2 ⟨rfl,hb⟩;have HB2:=bt_ HB1 hb;have HR2:=am_ (blk_below HR1.out hb);have ha20:=am_ (pw_cell_below hb ha0.out);have ha21:=am_ (pw_cell_below hb ha1.out);have hb20:=am_ (pw_cell_below hb hb0);have hb21:=am_ (pw_cell_below hb hb1);clear hb hb0 hb1) | (go_at_call 77;(with_reducible refine (HBG.out _ _ ?b0 ?b1).mono ?_);(case b0=>exact below_alloc HB2.out _);(case b1=>exact pw_cell_below (below_alloc (Below.refl _ _) _) ha20.out);rintro e w3 ⟨rfl,hb⟩;have hba:=below_alloc HB2.out (Obj.cells #[.func (.func 77) #[] #[.pointer (some ⟨w.heap.size,0,none⟩)]] 87);have HB3:=am_ (below_then hba hba.size hb);have HR3:=am_ (blk_below (blk_alloc HR2.out (Obj.cells #[.func (.func 77) #[] #[.pointer (some ⟨w.heap.size,0,none⟩)]] 87)) hb);have hal:=below_alloc (Below.refl w2.heap.size w2) (Obj.cells #[.func (.func 77) #[] #[.pointer (some ⟨w.heap.size,0,none⟩)]] 87);have hGc:World.cell? (w2.alloc (Obj.cells #[.func (.func 77) #[] #[.pointer (some ⟨w.heap.size,0,none⟩)]] 87)) ⟨w2.heap.size,0,none⟩=some (.func (.func 77) #[] #[.pointer (some ⟨w.heap.size,0,none⟩)]):=(by simp);have hG3:=am_ (pw_cell_below hb hGc);have ha30:=am_ (pw_cell_below hb (pw_cell_below hal ha20.out));have ha31:=am_ (pw_cell_below hb (pw_cell_below hal ha21.out));have hb30:=am_ (pw_cell_below hb (pw_cell_below hal hb20.out));have hb31:=am_ (pw_cell_below hb (pw_cell_below hal hb21.out));clear hb hba hal hGc) | (go_at_call 78;(with_reducible refine (HEX.out _ _ _ _ ?z0 ?z1 ?z2 ?z3 ?z4 ?z5).mono ?_);(case z0=>exact HB3.out);(case z1=>exact ha30.out);(case z2=>exact ha31.out);(case z3=>exact hb30.out);(case z4=>exact hb31.out);(case z5=>exact hG3.out);rintro e w4 ⟨v0,v1,vl,rfl,hq0,hq1,hb⟩;have HR10:=am_ (blk_below HR3.out hb);have HB4:=bt_ HB3 hb;obtain ⟨E0,e0c,e0⟩:=Kd.R_slice hq0;subst e0;obtain ⟨E1,e1c,e1⟩:=Kd.S_slice hq1;subst e1;have HQ0:=am_ hq0;have HQ1:=am_ hq1;clear hq0 hq1 hb) | (go_at_call 68;(with_reducible refine (impl_fitting.calls _ _ q.2.1 _ _ q.2.2 f1 f2 f3 _ ?y0 ?y1 ?y2 ?y3 HFT.out).mono ?_);(case y0=>exact Kd.C_below (Kd.R_reads' HQ0.out).2.2 (below_alloc (Below.refl _ _) _));(case y1=>exact (Kd.R_reads' HQ0.out).2.1);(case y2=>exact Kd.C_below (Kd.S_reads' HQ1.out).2.2 (below_alloc (Below.refl _ _) _));(case y3=>exact (Kd.S_reads' HQ1.out).2.1);rintro e w5 ⟨z0,z1,rfl,hz0,hz1,hb⟩;have HR11:=am_ (blk_below (blk_alloc HR10.out (Obj.cells #[.slice E0 q.2.1.length e0c,.slice E1 q.2.2.length e1c] 27)) hb);have hba:=below_alloc HB4.out (Obj.cells #[.slice E0 q.2.1.length e0c,.slice E1 q.2.2.length e1c] 27);have HB5:=am_ (below_then hba hba.size hb);have HZ0:=am_ (Kd.R_lower hz0 hba.size);have HZ1:=am_ (Kd.S_lower hz1 hba.size);obtain ⟨Z0,z0c,e0⟩:=Kd.R_slice hz0;subst e0;obtain ⟨Z1,z1c,e1⟩:=Kd.S_slice hz1;subst e1;have hcz0:World.cell? w5 ⟨w.heap.size+1+1,0,none⟩=some (.slice none 0 0):=(blk_cell HR11.out 0).trans rfl;have hcz1:World.cell? w5 ⟨w.heap.size+1+1,1,none⟩=some (.slice none 0 0):=(blk_cell HR11.out 1).trans rfl;have hfz0:=blk_frozen HR11.out 0;have hfz1:=blk_frozen HR11.out 1;clear hz0 hz1 hb hba))
    have HB4':Aside0 ((w5.setCell ⟨w.heap.size+1+1,0,none⟩ (.slice Z0 f1.length z0c)).heap[w.heap.size+1+1]? = some (.cells #[.slice Z0 f1.length z0c,.slice none 0 0] 27 (0,0))):=⟨blk_put HR11.out 0 _ rfl⟩
    have HT4:Aside0 (((w5.setCell ⟨w.heap.size+1+1,0,none⟩ (.slice Z0 f1.length z0c)).setCell ⟨w.heap.size+1+1,1,none⟩ (.slice Z1 f2.length z1c)).heap[w.heap.size+1+1]? = some (.cells #[.slice Z0 f1.length z0c,.slice Z1 f2.length z1c] 27 (0,0))):=⟨blk_put HB4'.out 1 _ rfl⟩
    refine bodyPost_ret (results_ct rfl _ _ (w.heap.size+1+1) 27 #[.slice Z0 f1.length z0c,.slice Z1 f2.length z1c] (0,0) _ rfl HT4.out Try.underlying27 rfl (by kernel_rfl)) rfl ?_
    exact ⟨_,_,rfl,Kd.R_set (Kd.R_set HZ0.out HR11.out (by decide) 0 _) HB4'.out (by decide) 1 _,Kd.S_set (Kd.S_set HZ1.out HR11.out (by decide) 0 _) HB4'.out (by decide) 1 _,below_set (below_set HB5.out HGE.out) HGE.out⟩
end Go.Proofs.Ytogamkblkoobkaa.Wk
end
section
namespace Go.Proofs.Ytogamkblkoobkaa.Can
open Go.RowKit Go.Proofs.Ytogamkblkoobkaa Go.Proofs.Ytogamkblkoobkaa.P Go.Proofs.Ytogamkblkoobkaa.Wk Go.Proofs.Ytogamkblkoobkaa.Lg Go.Proofs.Ytogamkblkoobkaa.Pl Go.Proofs.Ytogamkblkoobkaa.Mp Go.Proofs.Ytogamkblkoobkaa.Bf Go.Proofs.Ytogamkblkoobkaa.Mn Go.Proofs.YtogamkblkoobkaaW.PrintWords Go.Proofs.YtogamkblkoobkaaW.PrintLast Go.Proofs.YtogamkblkoobkaaW.PrintMore
def enC (x:Wk.Pr):Ss:=⟨x.1,sl x.2,false⟩
def DmC (k:Nat) (b:List Bool) (x:Wk.Pr):Prop:=(0≤x.1∧x.1<(k:Int))∧Low b.length x.2
section
variable {a b:List Bool} {n m:List (List Int)}
theorem enC_inj {q:Nat} (hb:b.length≤40) {x y:Wk.Pr} (hx:DmC q b x) (hy:DmC q b y) (h:enC x=enC y):x=y:=by
 obtain ⟨x1,x2⟩:=x
 obtain ⟨y1,y2⟩:=y
 unfold enC at h
 have h0:x1=y1:=congrArg S78.f0 h
 have h1:=congrArg S78.f1 h
 simp only at h1
 have e2:x2=y2:=sl_inj hb hx.2 hy.2 h1
 rw [h0,e2]
theorem low_bg (h1:1≤b.length) {x:Wk.Pr} (h:Low b.length x.2):Low b.length (bgP a x).2:=by
 show Low b.length (bgSet a x)
 unfold bgSet
 split
 ·exact low_or h h1
 ·exact h
theorem nx_in (hf:Fits a n) {x:Int} (hx:0≤x∧x<(a.length:Int)) (j:Nat) (hj:j<3):(rowOf n x).length=3∧0≤nxD n x j∧nxD n x j<(a.length:Int):=by
 obtain ⟨g1,g2⟩:=hf.row x hx
 exact ⟨g1,g2 (rd (rowOf n x) (j:Int)) (by rw [rd_get _ j (by omega)];exact List.getElem_mem _)⟩
theorem ct_step (hf0:Fits a n) (hf:Fits b m) (hb:b.length≤40) (h1:1≤b.length) (x:Wk.Pr) (hx:DmC a.length b x) (j:Nat) (hj:j<3):DmC a.length b (nxCt a n m x j):=
 ⟨(nx_in hf0 hx.1 j hj).2,low_bg h1 (low_mv (s:=x.2) hf hb j hj)⟩
theorem ctR_len (a:List Bool) (n:List (List Int)) (b:List Bool) (m:List (List Int)):(ctR a n b m).1.length≤40∧(ctR a n b m).2.1.length≤40∧∀ r ∈ (ctR a n b m).2.1,r.length=3:=by
 unfold ctR
 by_cases h:validD a n=true∧validD b m=true
 ·rw [if_pos h]
  cases hx:ctX a n b m with
  | none=>simp
  | some q =>
   unfold ctX at hx
   have hau:=expl_auto (most:=400) (by omega) hx
   have hl:=fitD_len hau.1.rows.1 hau.1.rows.2
   dsimp only
   exact hl
 ·rw [if_neg h]
  simp
end
def enS (x:Wk.Pr):Ss:=⟨0,sl x.2,x.1 == 1⟩
def DmS (a:List Bool) (x:Wk.Pr):Prop:=(x.1=0∨x.1=1)∧Low a.length x.2
section
variable {a:List Bool} {n:List (List Int)}
theorem enS_inj (ha:a.length≤40) {x y:Wk.Pr} (hx:DmS a x) (hy:DmS a y) (h:enS x=enS y):x=y:=by
 obtain ⟨x1,x2⟩:=x
 obtain ⟨y1,y2⟩:=y
 unfold enS at h
 have h1:=congrArg S78.f1 h
 have h2:=congrArg S78.f2 h
 simp only at h1 h2
 have e2:x2=y2:=sl_inj ha hx.2 hy.2 h1
 have e1:x1=y1:=by
  have hx1:x1=0∨x1=1:=hx.1
  have hy1:y1=0∨y1=1:=hy.1
  rcases hx1 with rfl | rfl <;> rcases hy1 with rfl | rfl
  ·rfl
  ·cases h2
  ·cases h2
  ·rfl
 rw [e1,e2]
theorem st_step (hf:Fits a n) (ha:a.length≤40) (h1:1≤a.length) (x:Wk.Pr) (j:Nat) (hj:j<3):DmS a (nxSt a n x j):=by
 have hm:=low_mv (s:=x.2) hf ha j hj
 refine ⟨Or.inl rfl,?_⟩
 show Low a.length (stSet a n x.2 j)
 unfold stSet
 split
 ·exact low_or hm h1
 ·exact hm
theorem stR_len (a:List Bool) (n:List (List Int)):(stR a n).1.length≤40∧(stR a n).2.1.length≤40∧∀ r ∈ (stR a n).2.1,r.length=3:=by
 unfold stR
 by_cases h:validD a n=true
 ·rw [if_pos h]
  cases hx:stX a n with
  | none=>simp
  | some q =>
   unfold stX at hx
   have hau:=expl_auto (most:=400) (by omega) hx
   have hl:=fitD_len hau.1.rows.1 hau.1.rows.2
   dsimp only
   exact hl
 ·rw [if_neg h]
  simp
end
end Go.Proofs.Ytogamkblkoobkaa.Can
end
section
namespace Go.Proofs.Ytogamkblkoobkaa.Bf
open Go.RowKit Go.Proofs.Ytogamkblkoobkaa.Pl Go.Proofs.Ytogamkblkoobkaa.Mp Go.Proofs.YtogamkblkoobkaaW.PrintWords Go.Proofs.YtogamkblkoobkaaW.PrintLast Go.Proofs.YtogamkblkoobkaaW.PrintMore
def wv (bs:List Int):Nat:=bs.foldl (fun v b=>3 * v+(letIdx b).toNat+1) 0
section
variable {α:Type} [DecidableEq α] {nx:α→Nat→α} {x0:α} {dom:α→Prop} {N:Nat} {good:α→Bool}
def V (p:St α) (j:Nat):Nat:=wv (bytesOf (p.2.getD j ByteArray.empty))
end
end Go.Proofs.Ytogamkblkoobkaa.Bf
end
section
namespace Go.Proofs.Ytogamkblkoobkaa.Can
open Go.RowKit Go.Proofs.Ytogamkblkoobkaa Go.Proofs.Ytogamkblkoobkaa.P Go.Proofs.Ytogamkblkoobkaa.Wk Go.Proofs.Ytogamkblkoobkaa.Lg Go.Proofs.Ytogamkblkoobkaa.Pl Go.Proofs.Ytogamkblkoobkaa.Mp Go.Proofs.Ytogamkblkoobkaa.Bf Go.Proofs.Ytogamkblkoobkaa.Mn Go.Proofs.YtogamkblkoobkaaW.PrintWords Go.Proofs.YtogamkblkoobkaaW.PrintLast Go.Proofs.YtogamkblkoobkaaW.PrintMore
section
variable {a b:List Bool} {n m:List (List Int)}
def toF:List Int→List (Fin 3)
 | []=>[]
 | c :: l=>⟨(letIdx c).toNat % 3,by omega⟩ :: toF l
theorem run_toF:∀ (l:List Int) (x:Int),lets l=true→run a n (toF l) x=rdOf false a (runD n x l)
 | [],x,_=>rfl
 | c :: l,x,h=>by
  rw [lets_cons] at h
  have hc:=letIdx_range c
  have e:(((letIdx c).toNat % 3:Nat):Int)=letIdx c:=by omega
  show run a n (toF l) (rd (rowOf n x) (((letIdx c).toNat % 3:Nat):Int))=_
  rw [e,run_toF l _ h.2]
  rfl
end
end Go.Proofs.Ytogamkblkoobkaa.Can
end
section
namespace Go.Proofs.Ytogamkblkoobkaa.P
open Go.RowKit Go.Proofs.YtogamkblkoobkaaW.PrintWords Go.Proofs.YtogamkblkoobkaaW.PrintLast Go.Proofs.YtogamkblkoobkaaW.PrintMore
attribute [local go_sem] max2_int min2_int max_two min_two max_three min_three max_four min_four
end Go.Proofs.Ytogamkblkoobkaa.P
end
section
namespace Go.Proofs.Ytogamkblkoobkaa.P
open Go.RowKit Go.Proofs.YtogamkblkoobkaaW.PrintWords Go.Proofs.YtogamkblkoobkaaW.PrintLast Go.Proofs.YtogamkblkoobkaaW.PrintMore
attribute [local go_sem] max2_int min2_int max_two min_two max_three min_three max_four min_four
end Go.Proofs.Ytogamkblkoobkaa.P
end
