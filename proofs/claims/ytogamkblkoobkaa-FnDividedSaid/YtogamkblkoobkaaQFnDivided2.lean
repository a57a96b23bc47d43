/- Texts of the proof of FnDivided, put together. No condition. -/
import Derived.OrdersHeld
import Derived.Deep.RegionHeld3
import Derived.Laws.BitsLemmas
import Derived.RowKit
import Derived.Test.YtogamkblkoobkaaQFnDivided1
import Derived.Test.YtogamkblkoobkaaProg
import Derived.Lib.Walk
import Derived.Laws.StructEq
import Derived.Below
import Derived.Deep.Draws
import Derived.Deep.AppendLies
import Derived.Maps.AppendAt
import Derived.OwnWalk
import Derived.Laws.BytesArg
import Derived.Laws.MakeOwn
import Derived.Laws.OwnMore
import Derived.Deep.OwnRows
import Derived.Tactics
import Derived.Lib.ConvBytes
import Derived.Laws.Slices
import Derived.WalkKit
import Derived.KernelRfl
import Derived.RowKit3
import Derived.Deep.LoopGhost
import Derived.Deep.QuietTactic
import Derived.BigQuiet
import Derived.WideLaws
import Derived.Deep.DeepCutAuto
import Derived.Deep.CutBlock
import Derived.Laws.Rows
import Derived.Lib.AppendStr
import Derived.ArgAppend
import Derived.Laws.IdiomCopy
import Derived.Maps.Own
import Derived.Maps.OwnOps
import Derived.Maps.OwnSet
import Derived.Maps.Views
set_option linter.unusedVariables false
set_option linter.unusedSimpArgs false
section
namespace Go.Proofs.YtogamkblkoobkaaW.PrintLast
section
variable {P:Program} {ops:Array Oper} {Q:Exit→Act→World→Prop} {md:Region.Mode} {S:World→Prop} {ds:List Nat}
def Region.reachB (md:Region.Mode) (ops:Array Oper) (i:Nat):Nat→Nat→Bool
 | 0,_=>false
 | fuel+1,d=>match ops[d]? with
  | some o=>o.after.any fun e=>Region.binds md e && (e.on == i || Region.reachB md ops i fuel e.on)
  | none=>false
def Region.closedB (md:Region.Mode) (ops:Array Oper) (listed:Array Bool):Bool:=
 (List.range ops.size).all fun j=>!listed.getD j false || match ops[j]? with
  | some o=>o.after.all fun e=>!Region.binds md e || listed.getD e.on false
  | none=>true
def Region.lastB (md:Region.Mode) (ops:Array Oper) (listed:Array Bool) (ds:List Nat) (i:Nat):Bool:=
 ds.all fun d=>listed.getD d true || Region.reachB md ops i ops.size d
def ListedClosed (md:Region.Mode) (ops:Array Oper) (listed:Array Bool):Prop:=
 ∀ j oj,ops[j]? = some oj→listed.getD j false=true→∀ e ∈ oj.after,Region.binds md e=true→listed.getD e.on false=true
theorem Region.closedB_spec {listed:Array Bool} (h:Region.closedB md ops listed=true):ListedClosed md ops listed:=by
 intro j oj hj hl e he hb
 have hlt:j<ops.size:=(Array.getElem?_eq_some_iff.1 hj).1
 have h1:=List.all_eq_true.1 h j (List.mem_range.2 hlt)
 simp only [hl,hj,Bool.not_true,Bool.false_or] at h1
 have h2:=Array.all_eq_true_iff_forall_mem.1 h1 e he
 simpa [hb] using h2
theorem ListedClosed.set {listed:Array Bool} {i:Nat} (h:ListedClosed md ops listed) (hi:i ∈ Region.ready md ops listed):ListedClosed md ops (listed.setIfInBounds i true):=by
 obtain ⟨_,oi,hoi,hall⟩:=mem_ready.1 hi
 intro j oj hj hl e he hb
 by_cases hij:i=j
 ·subst hij
  have:oj=oi:=Option.some.inj (hj.symm.trans hoi)
  subst this
  exact getD_set_true (hall e he hb)
 ·rw [getD_set_ne false hij] at hl
  exact getD_set_true (h j oj hj hl e he hb)
theorem Region.reach_listed {listed:Array Bool} {i:Nat} (hc:ListedClosed md ops listed):∀ (fuel d:Nat),Region.reachB md ops i fuel d=true→listed.getD d false=true→listed.getD i false=true
 | 0,_,h,_=>by simp [Region.reachB] at h
 | fuel+1,d,h,hl=>by
  unfold Region.reachB at h
  cases ho:ops[d]? with
  | none=>rw [ho] at h;simp at h
  | some o =>
   rw [ho] at h
   obtain ⟨e,he,h1⟩:=Array.any_eq_true'.1 h
   simp only [Bool.and_eq_true,Bool.or_eq_true,beq_iff_eq] at h1
   have hle:=hc d o ho hl e he h1.1
   rcases h1.2 with h2 | h2
   ·rw [← h2];exact hle
   ·exact Region.reach_listed hc fuel e.on h2 hle
theorem Region.reach_not_ready {listed:Array Bool} {i d fuel:Nat} (hc:ListedClosed md ops listed) (hr:Region.reachB md ops i fuel d=true) (hun:listed.getD i true=false):d ∉ Region.ready md ops listed:=by
 intro hd
 obtain ⟨_,o,ho,hall⟩:=mem_ready.1 hd
 have hi:listed.getD i false=true:=by
  cases fuel with
  | zero=>simp [Region.reachB] at hr
  | succ n =>
   unfold Region.reachB at hr
   rw [ho] at hr
   obtain ⟨e,he,h1⟩:=Array.any_eq_true'.1 hr
   simp only [Bool.and_eq_true,Bool.or_eq_true,beq_iff_eq] at h1
   have hle:=hall e he h1.1
   rcases h1.2 with h2 | h2
   ·rw [← h2];exact hle
   ·exact Region.reach_listed hc n e.on h2 hle
 rcases Nat.lt_or_ge i listed.size with h' | h'
 ·simp [h'] at hun hi
  rw [hun] at hi
  cases hi
 ·simp [Array.getElem?_eq_none h'] at hun
def wpAnyLast (P:Program) (md:Region.Mode) (ops:Array Oper) (Q:Exit→Act→World→Prop) (S:World→Prop) (ds:List Nat):Nat→Array Bool→Act→World→Prop
 | 0,listed,a,w=>Region.ready md ops listed = []∧Q .normal a w
 | fuel+1,listed,a,w =>
  (Region.ready md ops listed = []→Q .normal a w) ∧
  ∀ i ∈ Region.ready md ops listed,wpOp P ops Q i (fun a' w'=>(i ∉ ds→S w→S w')∧wpAnyLast P md ops Q S ds fuel (listed.setIfInBounds i true) a' w') a w
theorem wpAny_of_last:∀ (fuel:Nat) (listed:Array Bool) (a:Act) (w:World),wpAnyLast P md ops Q S ds fuel listed a w→wpAny P md ops Q fuel listed a w
 | 0,_,_,_,h=>h
 | fuel+1,_,_,_,h=>⟨h.1,fun i hi=>wpOp_mono (fun a' w' h'=>wpAny_of_last fuel _ a' w' h'.2) (h.2 i hi)⟩
theorem wpAnyLast_first {i:Nat} {oi:Oper} {v:Value} (hi:ops[i]? = some oi) (hsel:∀ (j:Nat) (o:Oper) cs b,ops[j]? = some o→o.op ≠ .select cs b)
  (hQ:∀ c a w,Q (.panic c) (a.put oi.dst v) w→Q (.panic c) a w) (n:Nat) :
  ∀ (fuel:Nat) (listed:Array Bool) (a:Act) (w:World),
   (∀ j oj,ops[j]? = some oj→j ≠ i→listed.getD j true=false→(∀ e ∈ oj.after,Region.binds md e=true→e.on ≠ i)→oi.apart ops oj=true) →
   ListedClosed md ops listed→(∀ d ∈ ds,listed.getD d true=false→Region.reachB md ops i n d=true) →
   i ∈ Region.ready md ops listed→YieldsIf P ops S oi v a→S w →
   wpAnyLast P md ops Q S ds fuel (listed.setIfInBounds i true) (a.put oi.dst v) w→wpAnyLast P md ops Q S ds (fuel+1) listed a w:=by
 intro fuel
 induction fuel with
 | zero =>
  intro listed a w _ _ _ hr hy hS H
  refine ⟨fun h=>(by rw [h] at hr;cases hr),fun j hj=>?_⟩
  by_cases hji:j=i
  ·subst hji;exact hy.wpOp hi hS ⟨fun _ h=>h,H⟩
  ·have:=ready_mono hj hji
   rw [H.1] at this
   cases this
 | succ fuel ih =>
  intro listed a w hfree hc hd hr hy hS H
  refine ⟨fun h=>(by rw [h] at hr;cases hr),fun j hj=>?_⟩
  by_cases hji:j=i
  ·subst hji;exact hy.wpOp hi hS ⟨fun _ h=>h,H⟩
  ·have h1:=H.2 j (ready_mono hj hji)
   obtain ⟨hjun,oj,hoj,hall⟩:=mem_ready.1 hj
   have hiun:=(mem_ready.1 hr).1
   have hnot:∀ e ∈ oj.after,Region.binds md e=true→e.on ≠ i:=fun e he hb heq=>by
    have h1:=hall e he hb
    rw [heq] at h1
    rcases Nat.lt_or_ge i listed.size with h' | h'
    ·simp [h'] at hiun h1;rw [hiun] at h1;cases h1
    ·simp [Array.getElem?_eq_none h'] at h1
   have hjd:j ∉ ds:=fun hm=>Region.reach_not_ready hc (hd j hm hjun) hiun hj
   have h2:=wpOp_putIf hoj (hfree j oj hoj hji hjun hnot) (fun cs b=>hsel i oi cs b hi) (fun cs b=>hsel j oj cs b hoj) hQ hy h1
   have hfree':∀ k ok,ops[k]? = some ok→k ≠ i→(listed.setIfInBounds j true).getD k true=false →
     (∀ e ∈ ok.after,Region.binds md e=true→e.on ≠ i)→oi.apart ops ok=true:=fun k ok hk hki hun hno=>by
    refine hfree k ok hk hki ?_ hno
    by_cases hjk:j=k
    ·subst hjk;exact hjun
    ·rw [getD_set_ne true hjk] at hun;exact hun
   have hd':∀ d ∈ ds,(listed.setIfInBounds j true).getD d true=false→Region.reachB md ops i n d=true:=fun d hm hun=>by
    refine hd d hm ?_
    by_cases hjk:j=d
    ·subst hjk;exact hjun
    ·rw [getD_set_ne true hjk] at hun;exact hun
   refine wpOp_mono (fun a' w' h3=>⟨h3.2.1,ih (listed.setIfInBounds j true) a' w' hfree' (hc.set hj) hd' (ready_mono hr (Ne.symm hji)) h3.1 (h3.2.1 hjd hS) ?_⟩) h2
   rw [Array.setIfInBounds_comm _ _ hji]
   exact h3.2.2
theorem wpAnyLast_any {i:Nat} {oi:Oper} {v:Value} (hi:ops[i]? = some oi) (hsel:∀ (j:Nat) (o:Oper) cs b,ops[j]? = some o→o.op ≠ .select cs b)
  (hQ:∀ c a w,Q (.panic c) (a.put oi.dst v) w→Q (.panic c) a w) :
  ∀ (fuel:Nat) (listed:Array Bool) (a:Act) (w:World),
   (∀ j oj,ops[j]? = some oj→j ≠ i→listed.getD j true=false→(∀ e ∈ oj.after,Region.binds md e=true→e.on ≠ i)→oi.apart ops oj=true) →
   i ∈ Region.ready md ops listed→Yields P ops oi v a →
   wpAnyLast P md ops Q S ds fuel (listed.setIfInBounds i true) (a.put oi.dst v) w→wpAnyLast P md ops Q S ds (fuel+1) listed a w:=by
 intro fuel
 induction fuel with
 | zero =>
  intro listed a w _ hr hy H
  refine ⟨fun h=>(by rw [h] at hr;cases hr),fun j hj=>?_⟩
  by_cases hji:j=i
  ·subst hji;exact (hy.yieldsIf (S:=fun _=>True)).wpOp hi trivial ⟨fun _ h=>h,H⟩
  ·have:=ready_mono hj hji
   rw [H.1] at this
   cases this
 | succ fuel ih =>
  intro listed a w hfree hr hy H
  refine ⟨fun h=>(by rw [h] at hr;cases hr),fun j hj=>?_⟩
  by_cases hji:j=i
  ·subst hji;exact (hy.yieldsIf (S:=fun _=>True)).wpOp hi trivial ⟨fun _ h=>h,H⟩
  ·have h1:=H.2 j (ready_mono hj hji)
   obtain ⟨hjun,oj,hoj,hall⟩:=mem_ready.1 hj
   have hiun:=(mem_ready.1 hr).1
   have hnot:∀ e ∈ oj.after,Region.binds md e=true→e.on ≠ i:=fun e he hb heq=>by
    have h1:=hall e he hb
    rw [heq] at h1
    rcases Nat.lt_or_ge i listed.size with h' | h'
    ·simp [h'] at hiun h1;rw [hiun] at h1;cases h1
    ·simp [Array.getElem?_eq_none h'] at h1
   have h2:=wpOp_put hoj (hfree j oj hoj hji hjun hnot) (fun cs b=>hsel i oi cs b hi) (fun cs b=>hsel j oj cs b hoj) hQ hy h1
   have hfree':∀ k ok,ops[k]? = some ok→k ≠ i→(listed.setIfInBounds j true).getD k true=false →
     (∀ e ∈ ok.after,Region.binds md e=true→e.on ≠ i)→oi.apart ops ok=true:=fun k ok hk hki hun hno=>by
    refine hfree k ok hk hki ?_ hno
    by_cases hjk:j=k
    ·subst hjk;exact hjun
    ·rw [getD_set_ne true hjk] at hun;exact hun
   refine wpOp_mono (fun a' w' h3=>⟨h3.2.1,ih (listed.setIfInBounds j true) a' w' hfree' (ready_mono hr (Ne.symm hji)) h3.1 ?_⟩) h2
   rw [Array.setIfInBounds_comm _ _ hji]
   exact h3.2.2
theorem wpAnyLast_take {i:Nat} {oi:Oper} {v:Value} {fuel:Nat} {listed:Array Bool} {a:Act} {w:World} (hi:ops[i]? = some oi)
  (hs:Region.noSelect ops=true) (hf:Region.free md ops listed i=true) (hr:(Region.ready md ops listed).contains i=true)
  (hc:Region.closedB md ops listed=true) (hl:Region.lastB md ops listed ds i=true)
  (hQ:∀ c a w,Q (.panic c) (a.put oi.dst v) w→Q (.panic c) a w) (hy:YieldsIf P ops S oi v a) (hS:S w)
  (h:wpAnyLast P md ops Q S ds fuel (listed.setIfInBounds i true) (a.put oi.dst v) w):wpAnyLast P md ops Q S ds (fuel+1) listed a w:=
 wpAnyLast_first hi (Region.noSelect_spec hs) hQ ops.size fuel listed a w (Region.free_spec hi hf) (Region.closedB_spec hc)
  (fun d hm hun=>by have:=List.all_eq_true.1 hl d hm;rw [hun] at this;simpa using this) (by simpa using hr) hy hS h
theorem wpAnyLast_all {rs:List Nat} {fuel:Nat} {listed:Array Bool} {a:Act} {w:World} (hr:Region.ready md ops listed=rs) (hne:rs ≠ [])
  (h:∀ i ∈ rs,wpOp P ops Q i (fun a' w'=>(i ∉ ds→S w→S w')∧wpAnyLast P md ops Q S ds fuel (listed.setIfInBounds i true) a' w') a w):wpAnyLast P md ops Q S ds (fuel+1) listed a w:=
 ⟨fun h0=>absurd (hr ▸ h0) hne,hr ▸ h⟩
theorem wpAnyLast_done {listed:Array Bool} {a:Act} {w:World} (hr:Region.ready md ops listed = []) (h:Q .normal a w) :
  ∀ fuel,wpAnyLast P md ops Q S ds fuel listed a w
 | 0=>⟨hr,h⟩
 | _+1=>⟨fun _=>h,by rw [hr];simp⟩
theorem wp_region_last {id:Nat} {a:Act} {w:World} (hm:P.follows .mixedOrders=true)
  (h:wpAnyLast P .any ops Q S ds ops.size (Array.replicate ops.size false) a { w with drawn:=w.drawn+1 }):(Code.region id ops true).wp P Q a w:=
 wp_region_any hm (wpAny_of_last _ _ _ _ h)
end
section
variable {P:Program} {ops:Array Oper} {Q:Exit→Act→World→Prop} {md:Region.Mode} {S:World→Prop} {ds:List Nat}
def AllReadyL (P:Program) (md:Region.Mode) (ops:Array Oper) (Q:Exit→Act→World→Prop) (S:World→Prop) (ds:List Nat) (fuel:Nat) (listed:Array Bool) (a:Act) (w:World) (rs:List Nat):Prop:=
 ∀ i ∈ rs,wpOp P ops Q i (fun a' w'=>(i ∉ ds→S w→S w')∧wpAnyLast P md ops Q S ds fuel (listed.setIfInBounds i true) a' w') a w
theorem AllReadyL.nil {fuel:Nat} {listed:Array Bool} {a:Act} {w:World}:AllReadyL P md ops Q S ds fuel listed a w []:=fun _ h=>by cases h
theorem AllReadyL.cons {fuel:Nat} {listed:Array Bool} {a:Act} {w:World} {i:Nat} {o:Oper} {rs:List Nat} (ho:ops[i]? = some o) (hd:i ∉ ds)
  (h:∀ K':Act→World→Prop,Shut (∀ a w,S w→(S w→wpAnyLast P md ops Q S ds fuel (listed.setIfInBounds i true) a w)→K' a w)→if Region.wanted o (yielded ops a.tmps)=true then Oper.wp P o a w K' Q else K' (a.put o.dst undef) w)
  (hs:AllReadyL P md ops Q S ds fuel listed a w rs):AllReadyL P md ops Q S ds fuel listed a w (i :: rs):=fun j hj=>by
 rcases List.mem_cons.1 hj with rfl | hj
 ·exact wpOp_step ho (fun K' hK=>h K' (fun a w hS hW=>hK a w ⟨fun _ _=>hS,hW hS⟩))
 ·exact hs j hj
theorem AllReadyL.cons_last {fuel:Nat} {listed:Array Bool} {a:Act} {w:World} {i:Nat} {o:Oper} {rs:List Nat} (ho:ops[i]? = some o) (hd:i ∈ ds)
  (h:∀ K':Act→World→Prop,Shut (∀ a w,wpAnyLast P md ops Q S ds fuel (listed.setIfInBounds i true) a w→K' a w)→if Region.wanted o (yielded ops a.tmps)=true then Oper.wp P o a w K' Q else K' (a.put o.dst undef) w)
  (hs:AllReadyL P md ops Q S ds fuel listed a w rs):AllReadyL P md ops Q S ds fuel listed a w (i :: rs):=fun j hj=>by
 rcases List.mem_cons.1 hj with rfl | hj
 ·exact wpOp_step ho (fun K' hK=>h K' (fun a w hW=>hK a w ⟨fun hn=>absurd hd hn,hW⟩))
 ·exact hs j hj
theorem wpAnyLast_ready {rs:List Nat} {fuel:Nat} {listed:Array Bool} {a:Act} {w:World} (hr:Region.ready md ops listed=rs) (hne:rs ≠ [])
 (h:AllReadyL P md ops Q S ds fuel listed a w rs):wpAnyLast P md ops Q S ds (fuel+1) listed a w:=wpAnyLast_all hr hne h
theorem start_ {id n:Nat} {a:Act} {w:World} (l:Array Bool) (hm:P.follows .mixedOrders=true) (hn:ops.size=n) (hl:Array.replicate n false=l) (hS:S w.drew)
  (h:S w.drew→wpAnyLast P .any ops Q S ds n l a w.drew):(Code.region id ops true).wp P Q a w:=by
 subst hn
 subst hl
 exact wp_region_last hm (h hS)
def takeB (md:Region.Mode) (ops:Array Oper) (ds:List Nat) (l l':Array Bool) (i:Nat):Bool:=
 Region.noSelect ops && Region.free md ops l i && (Region.ready md ops l).contains i && Region.closedB md ops l && Region.lastB md ops l ds i && (l.setIfInBounds i true == l')
theorem take_ {i:Nat} {N:Option Tmp} {oi:Oper} {v:Value} {fuel:Nat} {l:Array Bool} {a:Act} {w:World} (l':Array Bool) (hi:ops[i]? = some oi) (hN:oi.dst=N) (hc:takeB md ops ds l l' i=true)
  (hQ:∀ c a w,Q (.panic c) (a.put oi.dst v) w→Q (.panic c) a w) (hy:YieldsIf P ops S oi v a) (hS:S w) {a':Act} (ha:a.put N v=a')
  (h:wpAnyLast P md ops Q S ds fuel l' a' w):wpAnyLast P md ops Q S ds (fuel+1) l a w:=by
 subst ha
 subst hN
 simp only [takeB,Bool.and_eq_true,beq_iff_eq] at hc
 obtain ⟨⟨⟨⟨⟨h1,h2⟩,h3⟩,h4⟩,h5⟩,h6⟩:=hc
 subst h6
 exact wpAnyLast_take hi h1 h2 h3 h4 h5 hQ hy hS h
def anyB (md:Region.Mode) (ops:Array Oper) (l l':Array Bool) (i:Nat):Bool:=
 Region.noSelect ops && Region.free md ops l i && (Region.ready md ops l).contains i && (l.setIfInBounds i true == l')
theorem pure_ {i:Nat} {N:Option Tmp} {oi:Oper} {v:Value} {fuel:Nat} {l:Array Bool} {a:Act} {w:World} (l':Array Bool) (hi:ops[i]? = some oi) (hN:oi.dst=N) (hc:anyB md ops l l' i=true)
  (hQ:∀ c a w,Q (.panic c) (a.put oi.dst v) w→Q (.panic c) a w) (hy:Yields P ops oi v a) {a':Act} (ha:a.put N v=a')
  (h:wpAnyLast P md ops Q S ds fuel l' a' w):wpAnyLast P md ops Q S ds (fuel+1) l a w:=by
 subst ha
 subst hN
 simp only [anyB,Bool.and_eq_true,beq_iff_eq] at hc
 obtain ⟨⟨⟨h1,h2⟩,h3⟩,h6⟩:=hc
 subst h6
 exact wpAnyLast_any hi (Region.noSelect_spec h1) hQ fuel l a w (Region.free_spec hi h2) (by simpa using h3) hy h
def readyB (md:Region.Mode) (ops:Array Oper) (l l':Array Bool) (i:Nat):Bool:=(Region.ready md ops l == [i]) && (l.setIfInBounds i true == l')
theorem one_ {i:Nat} {N:Option Tmp} {oi:Oper} {fuel:Nat} {l:Array Bool} {a:Act} {w:World} (l':Array Bool) (hi:ops[i]? = some oi) (hN:oi.dst=N) (hc:readyB md ops l l' i=true) (hd:i ∉ ds)
  (h:∀ K:Act→World→Prop,Shut (∀ a' w',S w'→(S w'→wpAnyLast P md ops Q S ds fuel l' a' w')→K a' w')→if Region.wanted oi (yielded ops a.tmps)=true then Oper.wp P oi a w K Q else K (a.put N undef) w) :
  wpAnyLast P md ops Q S ds (fuel+1) l a w:=by
 subst hN
 simp only [readyB,Bool.and_eq_true,beq_iff_eq] at hc
 obtain ⟨h1,h2⟩:=hc
 subst h2
 exact wpAnyLast_ready h1 (by simp) (AllReadyL.cons hi hd (fun K hK=>h K hK) AllReadyL.nil)
theorem last_ {i:Nat} {N:Option Tmp} {oi:Oper} {fuel:Nat} {l:Array Bool} {a:Act} {w:World} (l':Array Bool) (hi:ops[i]? = some oi) (hN:oi.dst=N) (hc:readyB md ops l l' i=true) (hd:i ∈ ds)
  (h:∀ K:Act→World→Prop,Shut (∀ a' w',wpAnyLast P md ops Q S ds fuel l' a' w'→K a' w')→if Region.wanted oi (yielded ops a.tmps)=true then Oper.wp P oi a w K Q else K (a.put N undef) w) :
  wpAnyLast P md ops Q S ds (fuel+1) l a w:=by
 subst hN
 simp only [readyB,Bool.and_eq_true,beq_iff_eq] at hc
 obtain ⟨h1,h2⟩:=hc
 subst h2
 exact wpAnyLast_ready h1 (by simp) (AllReadyL.cons_last hi hd (fun K hK=>h K hK) AllReadyL.nil)
theorem done_ {l:Array Bool} {a:Act} {w:World} {n:Nat} (hr:(Region.ready md ops l == [])=true) (h:Q .normal a w):wpAnyLast P md ops Q S ds n l a w:=wpAnyLast_done (by simpa using hr) h n
theorem two_ {i j:Nat} {Ni Nj:Option Tmp} {oi oj:Oper} {fuel:Nat} {l:Array Bool} {a:Act} {w:World} (li lj:Array Bool) (hi:ops[i]? = some oi) (hj:ops[j]? = some oj) (hNi:oi.dst=Ni) (hNj:oj.dst=Nj)
  (hc:(Region.ready md ops l == [i,j] && l.setIfInBounds i true == li && l.setIfInBounds j true == lj)=true) (hdi:i ∉ ds) (hdj:j ∉ ds)
  (h1:∀ K:Act→World→Prop,Shut (∀ a' w',S w'→(S w'→wpAnyLast P md ops Q S ds fuel li a' w')→K a' w')→if Region.wanted oi (yielded ops a.tmps)=true then Oper.wp P oi a w K Q else K (a.put Ni undef) w)
  (h2:∀ K:Act→World→Prop,Shut (∀ a' w',S w'→(S w'→wpAnyLast P md ops Q S ds fuel lj a' w')→K a' w')→if Region.wanted oj (yielded ops a.tmps)=true then Oper.wp P oj a w K Q else K (a.put Nj undef) w) :
  wpAnyLast P md ops Q S ds (fuel+1) l a w:=by
 subst hNi
 subst hNj
 simp only [Bool.and_eq_true,beq_iff_eq] at hc
 obtain ⟨⟨h3,h4⟩,h5⟩:=hc
 subst h4
 subst h5
 exact wpAnyLast_ready h3 (by simp) (AllReadyL.cons hi hdi (fun K hK=>h1 K hK) (AllReadyL.cons hj hdj (fun K hK=>h2 K hK) AllReadyL.nil))
def putAll:Act→List (Tmp × Value)→Act
 | a,[]=>a
 | a,(n,v) :: r=>putAll (a.put (some n) v) r
theorem join_ {σ:Type} {fuel:Nat} {l:Array Bool} {a:Act} {w:World} (fuel':Nat) (l':Array Bool) (ns:σ→List (Tmp × Value)) (F:σ→World→Prop)
 (hcont:∀ s w',F s w'→wpAnyLast P md ops Q S ds fuel' l' (putAll a (ns s)) w')
 (h:(∀ s w',F s w'→wpAnyLast P md ops Q S ds fuel' l' (putAll a (ns s)) w')→wpAnyLast P md ops Q S ds fuel l a w):wpAnyLast P md ops Q S ds fuel l a w:=h hcont
theorem norm_ {fuel:Nat} {l:Array Bool} {a a':Act} {w:World} (ha:a=a') (h:wpAnyLast P md ops Q S ds fuel l a' w):wpAnyLast P md ops Q S ds fuel l a w:=by
 subst ha
 exact h
theorem call_ {oi:Oper} {N:Option Tmp} {a:Act} {w:World} {K:Act→World→Prop} (f:FuncId) (args:Array Value) (hw:Region.wanted oi (yielded ops a.tmps)=true) (hN:oi.dst=N) (hrun:(execOp a.eval oi).run P w = .ok (.enter f args) w)
  (h:Calls P f args w fun e w'=>∃ v,e = .returned v∧K (a.put N v) w'):if Region.wanted oi (yielded ops a.tmps)=true then Oper.wp P oi a w K Q else K (a.put N undef) w:=by
 rw [if_pos hw]
 subst hN
 unfold Oper.wp
 rw [hrun,Oper.upon_enter]
 refine h.mono fun e w'' hh=>?_
 obtain ⟨v,rfl,hk⟩:=hh
 exact hk
theorem enters_ {f:FuncId} {fn:Func} (hf:P.funcs[f]? = some fn) (hname:(fn.name == "runtime.NumGoroutine")=false) (hb:fn.body.isSome=true) (args:Array Value) (w:World):(callFunc f args).run P w = .ok (.enter f args) w:=by
 have h1:fn.name ≠ "runtime.NumGoroutine":=by simpa using hname
 obtain ⟨c,hc⟩:=Option.isSome_iff_exists.1 hb
 simp [callFunc,hf,h1,hc]
theorem goes_ {oi:Oper} {N:Option Tmp} {a:Act} {w:World} {K:Act→World→Prop} {f:FuncId} {fn:Func} {as_:Array Operand} {ts:Array TypeId} (hf:P.funcs[f]? = some fn) (hname:(fn.name == "runtime.NumGoroutine")=false) (hb:fn.body.isSome=true) (args:Array Value)
  (hw:Region.wanted oi (yielded ops a.tmps)=true) (hN:oi.dst=N) (hop:oi.op = .call { callee:=.value (.func f),args:=as_,argTypes:=ts }) (hargs:as_.map a.eval=args)
  (h:Calls P f args w fun e w'=>∃ v,e = .returned v∧K (a.put N v) w'):if Region.wanted oi (yielded ops a.tmps)=true then Oper.wp P oi a w K Q else K (a.put N undef) w:=by
 refine call_ f args hw hN ?_ h
 have he:=enters_ hf hname hb args w
 unfold execOp
 simp [hop,resolve,Deferred.ofValue,invoke,Act.eval,hargs,he]
theorem goesL_ {rest:List Oper} {oi:Oper} {a:Act} {w:World} (N:Option Tmp) (hd:oi.dst=N) (hg:oi.guard=none) {f:FuncId} {fn:Func} {as_:Array Operand} {ts:Array TypeId} (hf:P.funcs[f]? = some fn) (hname:(fn.name == "runtime.NumGoroutine")=false) (hb:fn.body.isSome=true) (args:Array Value)
  (hop:oi.op = .call { callee:=.value (.func f),args:=as_,argTypes:=ts }) (hargs:as_.map a.eval=args)
  (h:Calls P f args w fun e w'=>∃ v,e = .returned v∧wpList P ops Q rest (a.put N v) w'):wpList P ops Q (oi :: rest) a w:=by
 refine wpList_plain hg fun K hK=>?_
 have he:=enters_ hf hname hb args w
 have hrun:(execOp a.eval oi).run P w = .ok (.enter f args) w:=by
  unfold execOp
  simp [hop,resolve,Deferred.ofValue,invoke,Act.eval,hargs,he]
 unfold Oper.wp
 rw [hrun,Oper.upon_enter]
 refine h.mono fun e w'' hh=>?_
 obtain ⟨v,rfl,hk⟩:=hh
 subst hd
 exact hK _ _ hk
theorem value_ {oi:Oper} {N:Option Tmp} {a:Act} {w w1:World} {v:Value} {K:Act→World→Prop} (hw:Region.wanted oi (yielded ops a.tmps)=true) (hN:oi.dst=N) (hrun:(execOp a.eval oi).run P w = .ok (.value v) w1)
  (h:K (a.put N v) w1):if Region.wanted oi (yielded ops a.tmps)=true then Oper.wp P oi a w K Q else K (a.put N undef) w:=by
 rw [if_pos hw]
 subst hN
 unfold Oper.wp
 rw [hrun]
 exact h
theorem skip_ {oi:Oper} {a:Act} {w w1:World} {K:Act→World→Prop} (hw:Region.wanted oi (yielded ops a.tmps)=true) (hN:oi.dst=none) (hrun:(execOp a.eval oi).run P w = .ok .skip w1)
  (h:K a w1):if Region.wanted oi (yielded ops a.tmps)=true then Oper.wp P oi a w K Q else K (a.put none undef) w:=by
 rw [if_pos hw]
 unfold Oper.wp
 rw [hrun]
 show K (a.put oi.dst undef) w1
 rw [hN]
 exact h
theorem i64_w (n:Int):IntKind.i64.wrap n=Go.RowKit.wrap64 n:=by unfold Go.RowKit.wrap64;exact IntKind.wrap_i64 n
theorem i32_w (n:Int):IntKind.i32.wrap n=Go.RowKit.wrap32 n:=by unfold Go.RowKit.wrap32;exact IntKind.wrap_i32 n
end
end Go.Proofs.YtogamkblkoobkaaW.PrintLast
end
section
namespace Go.Proofs.YtogamkblkoobkaaW.PrintWords
open Go.RowKit
namespace Kd
section
variable {α:Type} {d:Kd α} {e base g o n cap:Nat} {ok okp:Nat→Prop} {w W:World} {v:Value} {xs:List α}
end
section
variable {α:Type} {enc:α→Value} {h1:∀ x,(enc x).oneCell' = true} {e base g o n cap:Nat} {ok:Nat→Prop} {W:World} {xs:List α}
end
end Kd
end Go.Proofs.YtogamkblkoobkaaW.PrintWords
end
section
namespace Go.Proofs.YtogamkblkoobkaaW.PrintWords
open Go.RowKit
namespace Kd
def tag {α:Type} (f:Nat→Nat) (d:Kd α):Kd (α × Nat) where
 sz:=d.sz
 E:=d.E
 K:=fun w x cs=>d.K w x.1 cs
 M:=fun w base ok x cs=>d.M w base (fun k=>ok k∧f k=x.2) x.1 cs
 K_len:=fun h=>d.K_len h
 K_one:=fun h=>d.K_one h
 K_below:=fun hb h=>d.K_below hb h
 K_of_M:=fun h=>d.K_of_M h
 M_mono:=fun hok h=>d.M_mono (fun k hk=>⟨hok k hk.1,hk.2⟩) h
 M_bound:=fun h=>d.M_mono (fun _ hk=>⟨⟨hk.1.1,hk.2⟩,hk.1.2⟩) (d.M_bound h)
 M_move:=fun hm h=>d.M_move (fun k hk=>hm k hk.1) h
 M_lower:=fun hb h=>d.M_lower hb h
def raw (sz:Nat):Kd (List Value) where
 sz:=sz
 E:=[]
 K:=fun _ x cs=>cs=x∧cs.length=sz∧∀ u ∈ cs,u.oneCell' = true
 M:=fun _ _ _ x cs=>cs=x∧cs.length=sz∧∀ u ∈ cs,u.oneCell' = true
 K_len:=fun h=>h.2.1
 K_one:=fun h=>h.2.2
 K_below:=fun _ h=>h
 K_of_M:=fun h=>h
 M_mono:=fun _ h=>h
 M_bound:=fun h=>h
 M_move:=fun _ h=>h
 M_lower:=fun _ h=>h
def S {α:Type} (d:Kd α) (e:Nat) (w:World) (base:Nat) (ok:Nat→Prop) (v:Value) (xs:List α):Prop:=∃ f,(tag f d).R e w base ok v xs.zipIdx
section
variable {α β:Type} {d:Kd α} {d':Kd β} {e e':Nat} {w w1 W:World} {base b:Nat} {ok ok' okv oku:Nat→Prop} {u v:Value} {xs:List α} {ys:List β}
theorem zip_at {xs:List α} {j:Nat} {p:α} (h:xs[j]? = some p):xs.zipIdx[j]? = some (p,j):=by rw [List.getElem?_zipIdx,h,Nat.zero_add];rfl
theorem S_R (h:S d e w base ok v xs):d.R e w base ok v xs:=by
 obtain ⟨f,h0,inner,ho,hr⟩:=h
 rw [List.length_zipIdx] at ho
 exact ⟨h0,inner,ho,by have:=hr.1;rw [List.length_zipIdx] at this;exact this,fun j p hj=>d.M_mono (fun _ hk=>hk.1) (hr.2 j (p,j) (zip_at hj))⟩
theorem R_head {ad:Addr} {n cap:Nat} (h:d.R e w base ok (.slice (some ad) n cap) xs):∃ g,ad=⟨g,0,none⟩:=by
 obtain ⟨_,inner,ho,hr⟩:=h
 rcases ho.2 with ⟨hv,_⟩ | ⟨g,cap',cur,hv,_⟩
 ·cases hv
 ·injection hv with ha _ _
  injection ha with ha
  exact ⟨g,ha⟩
theorem R_getA {ad:Addr} {n cap:Nat} (h:d.R e W base ok (.slice (some ad) n cap) xs) (z:α) (i:Int) (h0:0≤i) (h1:i<n) :
  ∃ c,c.length=d.sz∧d.M W base (fun k=>ok k∧some k ≠ (Value.slice (some ad) n cap).ownBlock) (xs.getD i.toNat z) c∧∀ j u,c[j]? = some u→W.cell? (ad.add (i.toNat * d.sz+j))=some u:=by
 obtain ⟨g,rfl⟩:=R_head h
 obtain ⟨c,hcl,hM,hcc,_⟩:=R_elem h z i h0 h1
 refine ⟨c,hcl,d.M_mono (fun k hk=>⟨hk.1,fun he=>hk.2 (by simpa [Value.ownBlock] using he)⟩) hM,fun j u hu=>?_⟩
 rw [add_at,Nat.zero_add]
 exact hcc j u hu
theorem R_tight (hE:d.E = []) (h:d.R e w base ok v xs):d.R e w base (fun k=>some k=v.ownBlock) v xs:=by
 obtain ⟨h0,inner,ho,hr⟩:=h
 refine ⟨fun k hk=>hk.symm,inner,ho,hr.imp_ (fun p c hp=>d.M_mono (fun k hk=>?_) (d.M_bound hp))⟩
 obtain ⟨_,_,_,q,hq,_⟩:=hk
 rw [hE] at hq
 cases hq
theorem S_nil (d:Kd α) (e:Nat) (w:World) (base:Nat) (ok:Nat→Prop):S d e w base ok (.slice none 0 0) []:=⟨fun _=>0,R_nil _ _ _ _ _⟩
theorem S_mono (h:S d e w base ok v xs) (hok:∀ k,ok k→ok' k):S d e w base ok' v xs:=by
 obtain ⟨f,h⟩:=h
 exact ⟨f,R_mono h hok⟩
theorem S_bound (h:S d e w base ok v xs):S d e w base (fun k=>ok k∧base≤k∧k<w.heap.size∧∃ q,q ∈ e :: d.E∧∃ cells,w.heap[k]? = some (.cells cells q (0,0))) v xs:=by
 obtain ⟨f,h⟩:=h
 exact ⟨f,R_bound h⟩
theorem S_move (h:S d e w base ok v xs) (hm:∀ k,ok k→w1.heap[k]? = w.heap[k]?):S d e w1 base ok v xs:=by
 obtain ⟨f,h⟩:=h
 exact ⟨f,R_move h hm⟩
theorem S_lower {base':Nat} (h:S d e w base ok v xs) (hb:base'≤base):S d e w base' ok v xs:=by
 obtain ⟨f,h⟩:=h
 exact ⟨f,R_lower h hb⟩
theorem S_step (h:S d e w base ok v xs) (hm:∀ k,ok k→k<w.heap.size→w1.heap[k]? = w.heap[k]?):S d e w1 base ok v xs:=
 S_mono (S_move (S_bound h) (fun k hk=>hm k hk.1 hk.2.2.1)) (fun _ hk=>hk.1)
theorem S_below (h:S d e w base ok v xs) (hb:Below w.heap.size w w1):S d e w1 base ok v xs:=S_step h (fun k _ hk=>hb.block k hk)
theorem S_alloc (h:S d e w base ok v xs) (o:Obj):S d e (w.alloc o) base ok v xs:=S_below h (below_alloc (Below.refl _ _) o)
theorem S_drew (h:S d e w base ok v xs):S d e w.drew base ok v xs:=S_below h (below_drew (Below.refl _ _))
theorem S_drewN (h:S d e w base ok v xs) (m:Nat):S d e (w.drewN m) base ok v xs:=S_below h (pw_below_drewN (Below.refl _ _) m)
theorem S_grown (h:S d e w base ok v xs) {row:Option Nat} (hg:w.grownBy w1 row) (hok:∀ k,ok k→some k ≠ row):S d e w1 base ok v xs:=S_step h (fun k ho hk=>hg.block k hk (hok k ho))
theorem S_far (h:S d e w base ok v xs) {p:Addr} (hok:∀ k,ok k→k ≠ p.block) (u:Value):S d e (w.setCell p u) base ok v xs:=S_step h (fun k ho _=>Below.heap_setCell w p u k (hok k ho))
theorem S_keep (h:S d e w base ok v xs) {g:Nat} (hk:KeepBut w w1 g none) (hok:∀ k,ok k→k ≠ g):S d e w1 base ok v xs:=S_step h (fun k ho hlt=>hk.2 k hlt (hok k ho) (by simp))
theorem S_types (h:S d e w base ok v xs) {g t:Nat} {cells:Array Value} (hb:w.heap[g]? = some (.cells cells t (0,0))) (ht:∀ q,q ∈ e :: d.E→q ≠ t):S d e w base (fun k=>ok k∧k ≠ g) v xs:=by
 obtain ⟨f,h⟩:=h
 exact ⟨f,R_types h hb ht⟩
theorem S_set (h:S d e w base ok v xs) {g t:Nat} {cells:Array Value} (hb:w.heap[g]? = some (.cells cells t (0,0))) (ht:∀ q,q ∈ e :: d.E→q ≠ t) (j:Nat) (u:Value):S d e (w.setCell ⟨g,j,none⟩ u) base ok v xs:=
 S_mono (S_far (p:=⟨g,j,none⟩) (S_types h hb ht) (fun _ hk=>hk.2) u) (fun _ hk=>hk.1)
theorem S_typed (h:S d e w base ok v xs):∀ k,v.ownBlock=some k→∃ cells,w.heap[k]? = some (.cells cells e (0,0)):=R_typed (S_R h)
theorem S_lt (h:S d e w base ok v xs):∀ k,v.ownBlock=some k→k<w.heap.size:=R_lt (S_R h)
theorem S_base (h:S d e w base ok v xs):∀ k,v.ownBlock=some k→base≤k:=R_base (S_R h)
theorem S_over' (h:S d e W base ok u xs) (hty:∀ k,v.ownBlock=some k→∃ cells,W.heap[k]? = some (.cells cells e' (0,0))) (ht:∀ q,q ∈ e :: d.E→q ≠ e') (hg:W.grownBy w1 v.ownBlock):S d e w1 base ok u xs:=by
 obtain ⟨f,h⟩:=h
 exact ⟨f,R_over' h hty ht hg⟩
theorem S_elder' (h:S d e W base ok u xs) (hbase:∀ k,v.ownBlock=some k→W.heap.size≤k) (hb:Below W.heap.size W w1):S d e w1 base (fun k=>ok k∧some k ≠ v.ownBlock) u xs:=by
 obtain ⟨f,h⟩:=h
 exact ⟨f,R_elder' h hbase hb⟩
theorem S_new' (h:S d e w1 W.heap.size ok v xs) (hlt:∀ k,u.ownBlock=some k→k<W.heap.size):S d e w1 W.heap.size (fun k=>ok k∧some k ≠ u.ownBlock) v xs:=by
 obtain ⟨f,h⟩:=h
 exact ⟨f,R_new' h hlt⟩
theorem S_after {v1:Value} (h:S d e W base (fun k=>ok k∧some k ≠ v.ownBlock) u xs) (hg:W.grownBy w1 v.ownBlock) (hat:v1.ownBlock=v.ownBlock∨∃ b,v1.ownBlock=some b∧W.heap.size≤b):S d e w1 base (fun k=>ok k∧some k ≠ v1.ownBlock) u xs:=by
 obtain ⟨f,h⟩:=h
 exact ⟨f,R_after h hg hat⟩
theorem R_tag {f f':Nat→Nat} {zs:List (α × Nat)} (h:(tag f d).R e w base ok v zs) (hf:∀ k,ok k→k<w.heap.size→f' k=f k):(tag f' d).R e w base ok v zs:=by
 obtain ⟨h0,inner,ho,hr⟩:=R_bound h
 exact ⟨fun k hk=>(h0 k hk).1,inner,ho,hr.1,fun j p hj=>d.M_mono (fun k hk=>⟨⟨hk.1.1.1,hk.1.2⟩,(hf k hk.1.1.1 hk.1.1.2.2.1).trans hk.2⟩) (hr.2 j p hj)⟩
end
section
variable {α β:Type} {d:Kd α} {d':Kd β} {e e' g:Nat} {w w1 W:World} {base b:Nat} {ok ok' okv oku:Nat→Prop} {u v:Value} {xs:List α} {ys:List β}
theorem S_ne (h:S d e w base ok v xs) {t:Nat} {cells:Array Value} (hb:w.heap[g]? = some (.cells cells t (0,0))) (ht:e ≠ t):some g ≠ v.ownBlock:=R_ne (S_R h) hb ht
theorem S_form (h:S d e w base ok v xs) (hp:0<xs.length):∃ g cap,v = .slice (some ⟨g,0,none⟩) xs.length cap∧base≤g∧g<w.heap.size∧∃ cells,w.heap[g]? = some (.cells cells e (0,0)):=R_form (S_R h) hp
theorem S_base2 (h:S d e w base ok v xs):v.ownBlock=none∨∃ k,v.ownBlock=some k∧base≤k:=R_base2 (S_R h)
theorem S_slice (h:S d e w base ok v xs):∃ A c,v = .slice A xs.length c:=R_slice (S_R h)
theorem S_reads (h:S d e w base ok v xs):∃ A c,v = .slice A xs.length c∧xs.length≤c∧d.C w A xs.length xs:=R_reads (S_R h)
theorem S_reads' {A:Option Addr} {n c:Nat} (h:S d e w base ok (.slice A n c) xs):n=xs.length∧n≤c∧d.C w A xs.length xs:=R_reads' (S_R h)
theorem S_get {ad:Addr} {n cap:Nat} (h:S d e W base ok (.slice (some ad) n cap) xs) (z:α) (i:Int) (h0:0≤i) (h1:i<n) :
 ∃ c,c.length=d.sz∧d.M W base (fun k=>ok k∧some k ≠ (Value.slice (some ad) n cap).ownBlock) (xs.getD i.toNat z) c∧∀ j u,c[j]? = some u→W.cell? (ad.add (i.toNat * d.sz+j))=some u:=R_getA (S_R h) z i h0 h1
theorem S_oldK (hu:S d e W base (fun k=>ok k∧k ≠ g) u xs) (hk:KeepBut W w1 g none):S d e w1 base (fun k=>ok k∧k<W.heap.size) u xs:=
 S_mono (S_keep (S_bound hu) hk (fun _ h=>h.1.2)) (fun _ h=>⟨h.1.1,h.2.2.1⟩)
theorem S_told {N:Nat} (h:S d e w1 base (fun k=>ok k∧k<N) u xs) (hbase:∀ k,v.ownBlock=some k→N≤k):S d e w1 base (fun k=>(ok k∧some k ≠ v.ownBlock)∧k<N) u xs:=
 S_mono h (fun k hk=>⟨⟨hk.1,fun e=>Nat.lt_irrefl _ (Nat.lt_of_lt_of_le hk.2 (hbase k e.symm))⟩,hk.2⟩)
theorem zip_snoc (xs:List α) (p:α):(xs ++ [p]).zipIdx=xs.zipIdx ++ [(p,xs.length)]:=by rw [List.zipIdx_append];simp
end
section
open Classical in
theorem S_tag {α:Type} {d:Kd α} {e base:Nat} {okv:Nat→Prop} {w:World} {v:Value} {xs:List α} (h:S d e w base okv v xs) (m:Nat) (okp:Nat→Prop) (hap:∀ k,okp k→¬ okv k):∃ f,(∀ k,okp k→f k=m)∧(tag f d).R e w base okv v xs.zipIdx:=by
 obtain ⟨f,h⟩:=h
 exact ⟨fun k=>if okp k then m else f k,fun k hk=>if_pos hk,R_tag h (fun k hk _=>if_neg (fun h2=>hap k h2 hk))⟩
variable {P:Program} {ops:Array Oper} {rest:List Oper} {o:Oper} {a:Act} {Q:Exit→Act→World→Prop} {Kc:Act→World→Prop} {α:Type}
theorem S_append (d:Kd α) {w0 W:World} (base:Nat) (hgd:o.guard=none) (s x:Operand) (t e:TypeId) (z:Value) (bytes:Nat)
  (ho:o.op = .call { callee:=.builtin .append,args:=#[s,x],argTypes:=#[t,t] })
  (ht:P.underlying t=some (.slice e)) (hinfo:(P.info? e).map (fun i=>(i.zero,i.size,i.bytes))=some (some z,d.sz,bytes)) (hz:z.cells.size=d.sz) (hs0:0<d.sz) (hb0:0<bytes)
  (v:Value) (xs:List α) (p:α) (cs:List Value) (ok okp:Nat→Prop) (hs:a.eval s=v) (hx:a.eval x = .slice (some ⟨W.heap.size,0,none⟩) 1 1) (hp:d.M W base okp p cs) (hokp:∀ k,okp k→ok k∧some k ≠ v.ownBlock) (hfresh:∀ k,W.heap.size≤k→ok k)
  (HO:S d e W base (fun k=>ok k∧¬ okp k) v xs) (HB:Below base w0 W) (hbase:base≤W.heap.size) (hl:(xs.length+1) * bytes≤140737488355328)
  (h:∀ v1 w1,S d e w1 base ok v1 (xs ++ [p])→Below base w0 w1→W.grownBy w1 v.ownBlock→(v1.ownBlock=v.ownBlock∨∃ b,v1.ownBlock=some b∧W.heap.size≤b)→wpList P ops Q rest (a.put o.dst v1) w1) :
  wpList P ops Q (o :: rest) a (W.alloc (.cells cs.toArray e)):=by
 obtain ⟨f,hf,hR⟩:=S_tag HO xs.length okp (fun _ hk h2=>h2.2 hk)
 refine R_append (tag f d) base hgd s x t e z bytes ho ht hinfo hz hs0 hb0 v xs.zipIdx (p,xs.length) cs ok okp hs hx (d.M_mono (fun k hk=>⟨hk,hf k hk⟩) hp) hokp hfresh (R_mono hR (fun _ hk=>hk.1)) HB hbase (by rw [List.length_zipIdx];exact hl) ?_
 intro v1 w1 hr
 rw [← zip_snoc] at hr
 exact h v1 w1 ⟨f,hr⟩
end
def gap {α:Type} (f:Nat→Nat) (d:Kd α) (i:Nat) (c:List Value):Kd (α × Nat) where
 sz:=d.sz
 E:=d.E
 K:=fun w x cs=>(x.2=i→cs=c∧cs.length=d.sz∧∀ u ∈ cs,u.oneCell' = true)∧(x.2 ≠ i→d.K w x.1 cs)
 M:=fun w base ok x cs=>(x.2=i→cs=c∧cs.length=d.sz∧∀ u ∈ cs,u.oneCell' = true)∧(x.2 ≠ i→d.M w base (fun k=>ok k∧f k=x.2) x.1 cs)
 K_len:=fun {w x cs} h=>by
  by_cases hx:x.2=i
  ·exact (h.1 hx).2.1
  ·exact d.K_len (h.2 hx)
 K_one:=fun {w x cs} h=>by
  by_cases hx:x.2=i
  ·exact (h.1 hx).2.2
  ·exact d.K_one (h.2 hx)
 K_below:=fun hb h=>⟨h.1,fun hx=>d.K_below hb (h.2 hx)⟩
 K_of_M:=fun h=>⟨h.1,fun hx=>d.K_of_M (h.2 hx)⟩
 M_mono:=fun hok h=>⟨h.1,fun hx=>d.M_mono (fun k hk=>⟨hok k hk.1,hk.2⟩) (h.2 hx)⟩
 M_bound:=fun h=>⟨h.1,fun hx=>d.M_mono (fun _ hk=>⟨⟨hk.1.1,hk.2⟩,hk.1.2⟩) (d.M_bound (h.2 hx))⟩
 M_move:=fun hm h=>⟨h.1,fun hx=>d.M_move (fun k hk=>hm k hk.1) (h.2 hx)⟩
 M_lower:=fun hb h=>⟨h.1,fun hx=>d.M_lower hb (h.2 hx)⟩
def H {α:Type} (d:Kd α) (e:Nat) (w:World) (base:Nat) (ok:Nat→Prop) (v:Value) (xs:List α) (i:Int) (oki:Nat→Prop) (c:List Value):Prop:=
 (∀ k,oki k→ok k)∧∃ f,(gap f d i.toNat c).R e w base (fun k=>ok k∧¬ oki k) v xs.zipIdx
section
variable {α β:Type} {d:Kd α} {e e' g n cap:Nat} {w w1 W:World} {base:Nat} {ok ok' oki okp:Nat→Prop} {u v:Value} {xs:List α} {i:Int} {c:List Value}
theorem S_lend (h:S d e W base ok (.slice (some ⟨g,0,none⟩) n cap) xs) (z:α) (i:Int) (h0:0≤i) (h1:i<n) :
  ∃ (oki:Nat→Prop) (c:List Value),c.length=d.sz∧d.M W base oki (xs.getD i.toNat z) c∧(∀ j u,c[j]? = some u→W.cell? ⟨g,i.toNat * d.sz+j,none⟩=some u)∧(∀ k,oki k→ok k∧k ≠ g)∧H d e W base ok (.slice (some ⟨g,0,none⟩) n cap) xs i oki c:=by
 obtain ⟨f,hR⟩:=h
 have hn:=(R_reads' hR).1
 rw [List.length_zipIdx] at hn
 have hgo:some g=(Value.slice (some ⟨g,0,none⟩) n cap).ownBlock:=by simp [Value.ownBlock]
 obtain ⟨hok0,inner,ho,hr⟩:=hR
 have hil:i.toNat<xs.length:=by omega
 have hlen:inner.length=xs.length * d.sz:=by have:=hr.1;rw [List.length_zipIdx] at this;exact this
 have hseg:i.toNat * d.sz+d.sz≤inner.length:=by rw [hlen,← Nat.succ_mul];exact Nat.mul_le_mul_right _ hil
 have hM:=hr.2 i.toNat _ (zip_at (List.getElem?_eq_getElem hil))
 have hkg:∀ k,some k ≠ (Value.slice (some ⟨g,0,none⟩) n cap).ownBlock→k ≠ g:=fun k hk he=>hk (by rw [he];exact hgo)
 refine ⟨fun k=>(ok k∧k ≠ g)∧f k=i.toNat,(inner.drop (i.toNat * d.sz)).take d.sz,by rw [List.length_take,List.length_drop];omega,?_,fun j u hu=>?_,fun k hk=>hk.1,fun k hk=>hk.1.1,f,fun k hk=>⟨hok0 k hk,fun h2=>h2.1.2 ?_⟩,inner,ho,hr.1,fun m p hm=>?_⟩
 ·rw [List.getD_eq_getElem?_getD,List.getElem?_eq_getElem hil]
  exact d.M_mono (fun k hk=>⟨⟨hk.1.1,hkg k hk.1.2⟩,hk.2⟩) hM
 ·rw [List.getElem?_take] at hu
  split at hu
  ·rw [List.getElem?_drop] at hu
   have:=ho.cells (g:=g) hgo.symm _ u hu
   rwa [add_plain] at this
  ·cases hu
 ·rw [← hgo] at hk;injection hk with hk;exact hk.symm
 ·have hold:=hr.2 m p hm
  have hp2:p.2=m:=by
   rw [List.getElem?_zipIdx,Nat.zero_add] at hm
   obtain ⟨q,_,rfl⟩:=Option.map_eq_some_iff.1 hm
   rfl
  refine ⟨fun hx=>?_,fun hx=>d.M_mono (fun k hk=>⟨⟨⟨hk.1.1,fun h2=>hx ?_⟩,hk.1.2⟩,hk.2⟩) hold⟩
  ·have hmi:m=i.toNat:=by omega
   subst hmi
   exact ⟨rfl,d.K_len (d.K_of_M hM),d.K_one (d.K_of_M hM)⟩
  ·rw [← hk.2];exact h2.2
open Classical in
theorem H_back (h:H d e w base ok v xs i oki c) {x':α} (hM:d.M w base okp x' c) (hok:∀ k,okp k→oki k):S d e w base ok v (xs.set i.toNat x'):=by
 obtain ⟨ho,f,h0,inner,hown,hr⟩:=h
 refine ⟨fun k=>if oki k then i.toNat else f k,fun k hk=>(h0 k hk).1,inner,by rw [List.length_zipIdx,List.length_set];rw [List.length_zipIdx] at hown;exact hown,by have:=hr.1;rw [List.length_zipIdx] at this;rw [List.length_zipIdx,List.length_set];exact this,fun m p hm=>?_⟩
 rw [List.getElem?_zipIdx,Nat.zero_add] at hm
 obtain ⟨q,hq,rfl⟩:=Option.map_eq_some_iff.1 hm
 have hml:m<xs.length:=by
  have:=(List.getElem?_eq_some_iff.1 hq).1
  rwa [List.length_set] at this
 by_cases hmi:m=i.toNat
 ·subst hmi
  rw [List.getElem?_set_self hml] at hq
  injection hq with hq
  subst hq
  have hc:=((hr.2 i.toNat _ (zip_at (List.getElem?_eq_getElem hml))).1 rfl).1
  show d.M w base _ x' ((inner.drop (i.toNat * d.sz)).take d.sz)
  rw [show (inner.drop (i.toNat * d.sz)).take d.sz=c from hc]
  exact d.M_mono (fun k hk=>⟨⟨ho k (hok k hk),fun he=>(h0 k he.symm).2 (hok k hk)⟩,if_pos (hok k hk)⟩) hM
 ·rw [List.getElem?_set_ne (Ne.symm hmi)] at hq
  exact d.M_mono (fun k hk=>⟨⟨hk.1.1.1,hk.1.2⟩,(if_neg hk.1.1.2).trans hk.2⟩) ((hr.2 m (q,m) (zip_at hq)).2 hmi)
theorem H_widen (h:H d e w base ok v xs i oki c):H d e w base ok v xs i (fun k=>oki k∨ok k∧w.heap.size≤k) c:=by
 obtain ⟨ho,f,h⟩:=h
 exact ⟨fun k hk=>hk.elim (ho k) (fun h2=>h2.1),f,R_mono (R_bound h) (fun k hk=>⟨hk.1.1,fun h2=>h2.elim hk.1.2 (fun h3=>by have:=hk.2.2.1;omega)⟩)⟩
theorem H_step (h:H d e w base ok v xs i oki c) (hm:∀ k,ok k→¬ oki k→k<w.heap.size→w1.heap[k]? = w.heap[k]?):H d e w1 base ok v xs i oki c:=by
 obtain ⟨ho,f,h⟩:=h
 exact ⟨ho,f,R_step h (fun k hk hlt=>hm k hk.1 hk.2 hlt)⟩
theorem H_grown (h:H d e w base ok v xs i oki c) {row:Option Nat} (hg:w.grownBy w1 row) (hrow:∀ k,row=some k→oki k):H d e w1 base ok v xs i oki c:=
 H_step h (fun k _ hn hlt=>hg.block k hlt (fun he=>hn (hrow k he.symm)))
theorem H_below (h:H d e w base ok v xs i oki c) (hb:Below w.heap.size w w1):H d e w1 base ok v xs i oki c:=H_step h (fun k _ _ hlt=>hb.block k hlt)
theorem H_alloc (h:H d e w base ok v xs i oki c) (o:Obj):H d e (w.alloc o) base ok v xs i oki c:=H_below h (below_alloc (Below.refl _ _) o)
theorem H_drew (h:H d e w base ok v xs i oki c):H d e w.drew base ok v xs i oki c:=H_below h (below_drew (Below.refl _ _))
theorem H_drewN (h:H d e w base ok v xs i oki c) (m:Nat):H d e (w.drewN m) base ok v xs i oki c:=H_below h (pw_below_drewN (Below.refl _ _) m)
theorem H_mono (h:H d e w base ok v xs i oki c) (hok:∀ k,ok k→ok' k):H d e w base ok' v xs i oki c:=by
 obtain ⟨ho,f,h⟩:=h
 exact ⟨fun k hk=>hok k (ho k hk),f,R_mono h (fun k hk=>⟨hok k hk.1,hk.2⟩)⟩
theorem H_more {okg:Nat→Prop} (h:H d e w base (fun k=>ok k∧¬ okg k) v xs i oki c) (hg:∀ k,okg k→ok k):H d e w base ok v xs i (fun k=>oki k∨okg k) c:=by
 obtain ⟨ho,f,h⟩:=h
 exact ⟨fun k hk=>hk.elim (fun h2=>(ho k h2).1) (hg k),f,R_mono h (fun k hk=>⟨hk.1.1,fun h2=>h2.elim hk.2 hk.1.2⟩)⟩
theorem S_borrow {ad:Addr} (h:S d e W base ok (.slice (some ad) n cap) xs) (z:α) (i:Int) (h0:0≤i) (h1:i<n) :
  ∃ (oki:Nat→Prop) (c:List Value),c.length=d.sz∧d.M W base oki (xs.getD i.toNat z) c∧(∀ j u,c[j]? = some u→W.cell? (ad.add (i.toNat * d.sz+j))=some u)∧(∀ k,oki k→ok k∧some k ≠ (Value.slice (some ad) n cap).ownBlock) ∧
   ∀ {w1:World} {row:Option Nat} {x':α},W.grownBy w1 row→(∀ k,row=some k→oki k)→d.M w1 base oki x' c→S d e w1 base ok (.slice (some ad) n cap) (xs.set i.toNat x'):=by
 obtain ⟨g,rfl⟩:=R_head (S_R h)
 obtain ⟨oki,c,hcl,hM,hcc,hoki,hH⟩:=S_lend h z i h0 h1
 refine ⟨oki,c,hcl,hM,fun j u hu=>?_,fun k hk=>⟨(hoki k hk).1,fun he=>(hoki k hk).2 ?_⟩,fun hg hrow hM1=>H_back (H_grown hH hg hrow) hM1 (fun _ hk=>hk)⟩
 ·rw [add_at,Nat.zero_add]
  exact hcc j u hu
 ·simpa [Value.ownBlock] using he
theorem S_elem (h:S d e W base ok (.slice (some ⟨g,0,none⟩) n cap) xs) (z:α) (i:Int) (h0:0≤i) (h1:i<n) :
  ∃ (oki:Nat→Prop) (c:List Value),c.length=d.sz∧d.M W base oki (xs.getD i.toNat z) c∧(∀ j u,c[j]? = some u→W.cell? ⟨g,i.toNat * d.sz+j,none⟩=some u)∧(∀ j,W.frozen? ⟨g,i.toNat * d.sz+j,none⟩=false)∧(∀ k,oki k→ok k∧k ≠ g)∧H d e W base ok (.slice (some ⟨g,0,none⟩) n cap) xs i oki c:=by
 obtain ⟨_,_,_,_,hfr⟩:=R_elem (S_R h) z i h0 h1
 obtain ⟨oki,c,hcl,hM,hcc,hoki,hH⟩:=S_lend h z i h0 h1
 exact ⟨oki,c,hcl,hM,hcc,hfr,hoki,hH⟩
theorem H_raw (h:H d e W base ok (.slice (some ⟨g,0,none⟩) n cap) xs i oki c) (h0:0≤i) (h1:i<n) :
  ∃ rows:List (List Value),rows.length=xs.length∧(raw d.sz).R e W base (fun _=>True) (.slice (some ⟨g,0,none⟩) n cap) rows∧c.length=d.sz∧(∀ u ∈ c,u.oneCell' = true)∧(∀ j u,c[j]? = some u→W.cell? ⟨g,i.toNat * d.sz+j,none⟩=some u) ∧
   ∀ w1 c',W.grownBy w1 (some g)→(raw d.sz).R e w1 base (fun _=>True) (.slice (some ⟨g,0,none⟩) n cap) (rows.set i.toNat c')→H d e w1 base ok (.slice (some ⟨g,0,none⟩) n cap) xs i oki c':=by
 obtain ⟨hoo,f,hR⟩:=h
 have hn:=(R_reads' hR).1
 rw [List.length_zipIdx] at hn
 have hgo:some g=(Value.slice (some ⟨g,0,none⟩) n cap).ownBlock:=by simp [Value.ownBlock]
 obtain ⟨hok0,inner,ho,hr⟩:=hR
 have hil:i.toNat<xs.length:=by omega
 have hlen:inner.length=xs.length * d.sz:=by have:=hr.1;rw [List.length_zipIdx] at this;exact this
 have hkg:∀ k,some k ≠ (Value.slice (some ⟨g,0,none⟩) n cap).ownBlock→k ≠ g:=fun k hk he=>hk (by rw [he];exact hgo)
 have hci:=(hr.2 i.toNat _ (zip_at (List.getElem?_eq_getElem hil))).1 rfl
 rw [hci.1] at hci
 have hc:=((hr.2 i.toNat _ (zip_at (List.getElem?_eq_getElem hil))).1 rfl).1
 refine ⟨(List.range xs.length).map fun j=>(inner.drop (j * d.sz)).take d.sz,by rw [List.length_map,List.length_range],⟨fun _ _=>trivial,inner,?_,?_,fun j p hj=>?_⟩,hci.2.1,hci.2.2,fun j u hu=>?_,fun w1 c' hg hraw=>?_⟩
 ·rw [List.length_map,List.length_range];rw [List.length_zipIdx] at ho;exact ho
 ·rw [List.length_map,List.length_range];exact hlen
 ·rw [List.getElem?_map] at hj
  obtain ⟨j',hj',rfl⟩:=Option.map_eq_some_iff.1 hj
  obtain ⟨hl,he⟩:=List.getElem?_eq_some_iff.1 hj'
  rw [List.getElem_range] at he
  subst he
  rw [List.length_range] at hl
  have hm:=(gap f d i.toNat c).K_of_M (hr.2 j _ (zip_at (List.getElem?_eq_getElem hl)))
  exact ⟨rfl,(gap f d i.toNat c).K_len hm,(gap f d i.toNat c).K_one hm⟩
 ·rw [← hc,List.getElem?_take] at hu
  split at hu
  ·rw [List.getElem?_drop] at hu
   have:=ho.cells (g:=g) hgo.symm _ u hu
   rwa [add_plain] at this
  ·cases hu
 ·obtain ⟨_,inner',ho',hr'⟩:=hraw
  have hl':inner'.length=xs.length * d.sz:=by have:=hr'.1;rw [List.length_set,List.length_map,List.length_range] at this;exact this
  rw [List.length_set,List.length_map,List.length_range] at ho'
  refine ⟨hoo,f,hok0,inner',by rw [List.length_zipIdx];exact ho',by rw [List.length_zipIdx];exact hl',fun m p hm=>?_⟩
  rw [List.getElem?_zipIdx,Nat.zero_add] at hm
  obtain ⟨q,hq,rfl⟩:=Option.map_eq_some_iff.1 hm
  have hml:m<xs.length:=(List.getElem?_eq_some_iff.1 hq).1
  have hold:=hr.2 m (q,m) (zip_at hq)
  refine ⟨fun hx=>?_,fun hx=>?_⟩
  ·have hx':m=i.toNat:=hx
   subst hx'
   exact hr'.2 i.toNat c' (List.getElem?_set_self (by rw [List.length_map,List.length_range];exact hml))
  ·have hx':m ≠ i.toNat:=hx
   have hcm:=(hr'.2 m ((inner.drop (m * d.sz)).take d.sz) (by
    rw [List.getElem?_set_ne (Ne.symm hx'),List.getElem?_map,List.getElem?_eq_getElem (by rw [List.length_range];exact hml),List.getElem_range]
    rfl)).1
   show d.M w1 base _ q ((inner'.drop (m * d.sz)).take d.sz)
   rw [show (inner'.drop (m * d.sz)).take d.sz=_ from hcm]
   exact d.M_mono (fun k hk=>hk.1) (d.M_move (w1:=w1) (fun k hk=>hg.block k hk.2.2.1 (fun he=>hkg k hk.1.1.2 (by injection he))) (d.M_bound (hold.2 hx)))
theorem H_seg (h:H d e W base ok (.slice (some ⟨g,0,none⟩) n cap) xs i oki c) (h0:0≤i) (h1:i<n) {seg:List Value} {j:Nat} (hj:j+seg.length≤d.sz) (hone:∀ q ∈ seg,q.oneCell' = true) :
  H d e (W.setCells g (i.toNat * d.sz+j) seg) base ok (.slice (some ⟨g,0,none⟩) n cap) xs i oki (c.take j ++ seg ++ c.drop (j+seg.length))∧W.grownBy (W.setCells g (i.toNat * d.sz+j) seg) (some g):=by
 obtain ⟨rows,_,hraw,hcl,hco,hcc,hback⟩:=H_raw h h0 h1
 obtain ⟨h2,h3⟩:=R_seg hraw i h0 h1 (c:=c) (seg:=seg) (j:=j) (x':=c.take j ++ seg ++ c.drop (j+seg.length)) (okp:=fun _=>False) hcl hcc hj
  ⟨rfl,by
   show (c.take j ++ seg ++ c.drop (j+seg.length)).length=d.sz
   simp only [List.length_append,List.length_take,List.length_drop];omega,fun u hu=>by
   rcases List.mem_append.1 hu with hu | hu
   ·rcases List.mem_append.1 hu with hu | hu
    ·exact hco u (List.mem_of_mem_take hu)
    ·exact hone u hu
   ·exact hco u (List.mem_of_mem_drop hu)⟩ (fun _ hk=>hk.elim)
 exact ⟨hback _ _ h3 h2,h3⟩
theorem S_seg {okg:Nat→Prop} (hH:H d e W base (fun k=>ok k∧¬ okg k) (.slice (some ⟨g,0,none⟩) n cap) xs i oki c) (h0:0≤i) (h1:i<n) {seg:List Value} {j:Nat} (hj:j+seg.length≤d.sz)
  {x':α} (hM:d.M W base okp x' (c.take j ++ seg ++ c.drop (j+seg.length))) (hokp:∀ k,okp k→oki k∨okg k) (hg:∀ k,okg k→ok k∧k ≠ g) :
  S d e (W.setCells g (i.toNat * d.sz+j) seg) base ok (.slice (some ⟨g,0,none⟩) n cap) (xs.set i.toNat x')∧W.grownBy (W.setCells g (i.toNat * d.sz+j) seg) (some g):=by
 have hne:∀ k,oki k∨okg k→k ≠ g:=by
  intro k hk he
  subst he
  rcases hk with hk | hk
  ·obtain ⟨_,f,hR⟩:=hH
   exact (hR.1 k (by simp [Value.ownBlock])).2 hk
  ·exact (hg k hk).2 rfl
 obtain ⟨h2,h3⟩:=H_seg (H_more hH (fun k hk=>(hg k hk).1)) h0 h1 hj (fun q hq=>d.K_one (d.K_of_M hM) q (List.mem_append_left _ (List.mem_append_right _ hq)))
 exact ⟨H_back h2 (M_step hM (fun k hk hlt=>h3.block k hlt (fun he=>hne k (hokp k hk) (by injection he)))) hokp,h3⟩
end
section
variable {P:Program} {ops:Array Oper} {rest:List Oper} {o:Oper} {a:Act} {Q:Exit→Act→World→Prop} {α:Type}
end
end Kd
end Go.Proofs.YtogamkblkoobkaaW.PrintWords
end
section
namespace Go.Proofs.YtogamkblkoobkaaW.PrintWords
open Go.RowKit
namespace Kd
section
variable {α:Type} {n:Nat} {d:Kd α} {hs:0<d.sz} {w:World} {base:Nat} {ok:Nat→Prop} {xs:List α} {cs:List Value}
end
section
variable {α:Type} {n:Nat} {enc:α→Value} {h1:∀ x,(enc x).oneCell' = true} {hs:0<(scalar enc h1).sz} {w:World} {base:Nat} {ok:Nat→Prop} {xs:List α} {cs:List Value}
end
end Kd
end Go.Proofs.YtogamkblkoobkaaW.PrintWords
end
section
namespace Go.Proofs.YtogamkblkoobkaaW.PrintWords
open Go.RowKit
section
variable {P:Program}
end
namespace Kd
section
variable {P:Program} {ops:Array Oper} {rest:List Oper} {o:Oper} {a:Act} {Q:Exit→Act→World→Prop} {Kc:Act→World→Prop} {α:Type}
end
section
variable {α:Type} {d:Kd α} {e:Nat} {w:World} {base:Nat} {ok:Nat→Prop} {v:Value} {xs:List α}
end
section
variable {P:Program} {ops:Array Oper} {rest:List Oper} {o:Oper} {a:Act} {Q:Exit→Act→World→Prop} {Kc:Act→World→Prop} {α:Type}
end
end Kd
end Go.Proofs.YtogamkblkoobkaaW.PrintWords
end
section
namespace Go.Proofs.YtogamkblkoobkaaW.PrintWords
open Go.RowKit
namespace Kd
section
variable {α:Type} {d:Kd α} {e base g n c:Nat} {ok:Nat→Prop} {w w0 W:World} {A:Option Addr} {xs:List α}
end
end Kd
end Go.Proofs.YtogamkblkoobkaaW.PrintWords
end
section
namespace Go.Proofs.YtogamkblkoobkaaW.PrintWords
open Go.RowKit
def Kept (w W:World) (S:Nat→Prop):Prop:=w.heap.size≤W.heap.size∧∀ i,i<w.heap.size→¬ S i→W.heap[i]? = w.heap[i]?
section
variable {w W W2:World} {S S2 S':Nat→Prop}
theorem Kept.refl (w:World) (S:Nat→Prop):Kept w w S:=⟨Nat.le_refl _,fun _ _ _=>rfl⟩
theorem Kept.of_below (h:Below w.heap.size w W) (S:Nat→Prop):Kept w W S:=⟨h.size,fun i hi _=>h.block i hi⟩
theorem Kept.mono (h:Kept w W S) (hs:∀ k,S k→S' k):Kept w W S':=⟨h.1,fun i hi hn=>h.2 i hi (fun hk=>hn (hs i hk))⟩
theorem Kept.then_ (h:Kept w W S) (k:Kept W W2 S2) (hs:∀ k,S2 k→S k∨w.heap.size≤k):Kept w W2 S:=
 ⟨Nat.le_trans h.1 k.1,fun i hi hn=>(k.2 i (Nat.lt_of_lt_of_le hi h.1) (fun h2=>(hs i h2).elim hn (fun h3=>by omega))).trans (h.2 i hi hn)⟩
theorem Kept.of_grown {row:Option Nat} (hg:W.grownBy W2 row) (h:Kept w W S) (hr:∀ k,row=some k→S k∨w.heap.size≤k):Kept w W2 S:=
 h.then_ (S2:=fun k=>row=some k) ⟨hg.size,fun i hi hn=>hg.block i hi (fun he=>hn he.symm)⟩ hr
theorem Kept.below (h:Kept w W S) (hb:Below W.heap.size W W2):Kept w W2 S:=h.then_ (Kept.of_below hb (fun _=>False)) (fun _ hk=>hk.elim)
theorem Kept.alloc (h:Kept w W S) (o:Obj):Kept w (W.alloc o) S:=h.below (below_alloc (Below.refl _ _) o)
theorem Kept.drew (h:Kept w W S):Kept w W.drew S:=h
theorem Kept.drewN (h:Kept w W S) (m:Nat):Kept w (W.drewN m) S:=h
theorem Kept.setCell (h:Kept w W S) {p:Addr} (hp:S p.block∨w.heap.size≤p.block) (u:Value):Kept w (W.setCell p u) S:=
 h.then_ (S2:=fun k=>k=p.block) ⟨by simp [World.setCell],fun i _ hn=>Below.heap_setCell W p u i hn⟩ (fun k hk=>by rw [hk];exact hp)
theorem blk_kept {g:Nat} {o:Obj} (hb:W.heap[g]? = some o) (hk:Kept W W2 S) (hne:¬ S g):W2.heap[g]? = some o:=(hk.2 g (blk_lt hb) hne).trans hb
end
namespace Kd
section
variable {α:Type} {d:Kd α} {e base n c:Nat} {ok oki S S2:Nat→Prop} {w w0 W W1 W2:World} {v:Value} {A:Option Addr} {xs:List α} {i:Int} {cs:List Value}
end
end Kd
end Go.Proofs.YtogamkblkoobkaaW.PrintWords
end
section
namespace Go.Proofs.YtogamkblkoobkaaW.PrintWords
open Go.RowKit
def Foot (P:World→Prop) (W:World) (ok:Nat→Prop):Prop:=∀ W':World,(∀ k,ok k→k<W.heap.size→W'.heap[k]? = W.heap[k]?)→P W'
theorem heap_lt {W W1:World} {k:Nat} (h:W1.heap[k]? = W.heap[k]?) (hlt:k<W.heap.size):k<W1.heap.size:=by
 rw [Array.getElem?_eq_getElem hlt] at h
 exact (Array.getElem?_eq_some_iff.1 h).1
namespace Foot
variable {P Q:World→Prop} {W W1:World} {ok ok':Nat→Prop}
theorem now (h:Foot P W ok):P W:=h W (fun _ _ _=>rfl)
theorem mono (h:Foot P W ok) (hok:∀ k,ok k→ok' k):Foot P W ok':=fun W' hW=>h W' (fun k hk hlt=>hW k (hok k hk) hlt)
theorem bound (h:Foot P W ok):Foot P W (fun k=>ok k∧k<W.heap.size):=fun W' hW=>h W' (fun k hk hlt=>hW k ⟨hk,hlt⟩ hlt)
theorem step (h:Foot P W ok) (hm:∀ k,ok k→k<W.heap.size→W1.heap[k]? = W.heap[k]?):Foot P W1 ok:=fun W' hW=>h W' (fun k hk hlt=>(hW k hk (heap_lt (hm k hk hlt) hlt)).trans (hm k hk hlt))
theorem imp (h:Foot P W ok) (hi:∀ W',P W'→Q W'):Foot Q W ok:=fun W' hW=>hi W' (h W' hW)
end Foot
namespace Kd
def F {α:Type} (d:Kd α) (W:World) (ok:Nat→Prop) (A:Option Addr) (n:Nat) (xs:List α):Prop:=Foot (fun W=>d.C W A n xs) W ok
def FK {α:Type} (d:Kd α) (W:World) (ok:Nat→Prop) (x:α) (c:List Value):Prop:=Foot (fun W=>d.K W x c) W ok
section
variable {α β:Type} {d:Kd α} {e base n n' cc g N:Nat} {ok ok' okp S:Nat→Prop} {w w0 w1 W W1:World} {A A':Option Addr} {u v v1:Value} {xs:List α} {xs':List β} {d':Kd β} {x:α} {c:List Value}
theorem F_nil (d:Kd α) (W:World) (ok:Nat→Prop):F d W ok none ([]:List α).length []:=fun W' _=>C_nil d W'
theorem R_F (h:d.R e W base ok (.slice A n cc) xs):F d W ok A n xs:=fun W' hW=>by
 have h2:=R_reads' (R_step h hW)
 rw [h2.1]
 exact h2.2.2
theorem FK_now (h:FK d W ok x c):d.K W x c:=Foot.now h
theorem FK_mono (h:FK d W ok x c) (hok:∀ k,ok k→ok' k):FK d W ok' x c:=Foot.mono h hok
theorem FK_bound (h:FK d W ok x c):FK d W (fun k=>ok k∧k<W.heap.size) x c:=Foot.bound h
theorem FK_step (h:FK d W ok x c) (hm:∀ k,ok k→k<W.heap.size→W1.heap[k]? = W.heap[k]?):FK d W1 ok x c:=Foot.step h hm
theorem FK_of_M (h:d.M W base ok x c):FK d W ok x c:=fun _ hW=>d.K_of_M (M_step h hW)
end
end Kd
end Go.Proofs.YtogamkblkoobkaaW.PrintWords
end
section
namespace Go.Proofs.YtogamkblkoobkaaW.PrintWords
open Go.RowKit
namespace Kd
def chunks (sz:Nat) (n:Nat) (inner:List Value):List (List Value):=(List.range n).map fun j=>(inner.drop (j * sz)).take sz
theorem chunks_length (sz n:Nat) (inner:List Value):(chunks sz n inner).length=n:=by simp [chunks]
theorem chunks_at {sz n:Nat} {inner:List Value} {j:Nat} (hj:j<n):(chunks sz n inner)[j]? = some ((inner.drop (j * sz)).take sz):=by simp [chunks,hj]
theorem chunks_get {sz n:Nat} {inner:List Value} {j:Nat} {c:List Value} (h:(chunks sz n inner)[j]? = some c):c=(inner.drop (j * sz)).take sz:=by
 have hj:j<n:=by have:=(List.getElem?_eq_some_iff.1 h).1;rwa [chunks_length] at this
 rw [chunks_at hj] at h
 injection h with h
 exact h.symm
theorem reps_raw {α:Type} {Rr:α→List Value→Prop} {sz:Nat} {xs:List α} {inner:List Value} (h:Reps Rr sz xs inner) (hR:∀ x c,Rr x c→c.length=sz∧∀ u ∈ c,u.oneCell' = true):Reps (fun x cs=>cs=x∧cs.length=sz∧∀ u ∈ cs,u.oneCell' = true) sz (chunks sz xs.length inner) inner:=by
 refine ⟨by rw [chunks_length];exact h.1,fun j p hj=>?_⟩
 have hjl:j<xs.length:=by have:=(List.getElem?_eq_some_iff.1 hj).1;rwa [chunks_length] at this
 have hp:=chunks_get hj
 exact ⟨hp.symm,hR _ _ (h.2 j _ (List.getElem?_eq_getElem hjl))⟩
section
variable {α:Type} {d:Kd α} {e base n cc g:Nat} {ok ok' okp S:Nat→Prop} {w w1 W W1:World} {A:Option Addr} {u v v1:Value} {xs:List α} {x:α} {c:List Value}
def N {α:Type} (d:Kd α) (e:Nat) (w:World) (base:Nat) (ok:Nat→Prop) (v:Value) (xs:List α):Prop:=
 (∀ k,v.ownBlock=some k→ok k)∧∃ rows:List (List Value),rows.length=xs.length∧(raw d.sz).R e w base (fun k=>some k=v.ownBlock) v rows∧∀ (j:Nat) (x:α) (c:List Value),xs[j]? = some x→rows[j]? = some c→FK d w (fun k=>ok k∧some k ≠ v.ownBlock) x c
theorem raw_tight {sz:Nat} {rows:List (List Value)} (h:(raw sz).R e w base ok v rows):(raw sz).R e w base (fun k=>some k=v.ownBlock) v rows:=R_tight rfl h
theorem raw_any {sz:Nat} {rows:List (List Value)} (h:(raw sz).R e w base ok v rows):(raw sz).R e w base (fun _=>True) v rows:=R_mono h (fun _ _=>trivial)
theorem R_N (h:d.R e w base ok v xs):N d e w base ok v xs:=by
 obtain ⟨h0,inner,ho,hr⟩:=h
 refine ⟨h0,chunks d.sz xs.length inner,chunks_length _ _ _,⟨fun k hk=>hk.symm,inner,by rw [chunks_length];exact ho,reps_raw hr (fun x c hp=>⟨d.K_len (d.K_of_M hp),d.K_one (d.K_of_M hp)⟩)⟩,fun j x c hx hc=>?_⟩
 rw [chunks_get hc]
 exact FK_of_M (hr.2 j x hx)
theorem N_nil (d:Kd α) (e:Nat) (w:World) (base:Nat) (ok:Nat→Prop):N d e w base ok (.slice none 0 0) []:=R_N (R_nil _ _ _ _ _)
theorem N_mono (h:N d e w base ok v xs) (hok:∀ k,ok k→ok' k):N d e w base ok' v xs:=by
 obtain ⟨h0,rows,hl,hR,hf⟩:=h
 exact ⟨fun k hk=>hok k (h0 k hk),rows,hl,hR,fun j x c hx hc=>FK_mono (hf j x c hx hc) (fun k hk=>⟨hok k hk.1,hk.2⟩)⟩
theorem N_lt (h:N d e w base ok v xs):∀ k,v.ownBlock=some k→k<w.heap.size:=by
 obtain ⟨_,rows,_,hR,_⟩:=h
 exact R_lt hR
theorem N_bound (h:N d e w base ok v xs):N d e w base (fun k=>ok k∧k<w.heap.size) v xs:=by
 have hlt:=N_lt h
 obtain ⟨h0,rows,hl,hR,hf⟩:=h
 exact ⟨fun k hk=>⟨h0 k hk,hlt k hk⟩,rows,hl,hR,fun j x c hx hc=>FK_mono (FK_bound (hf j x c hx hc)) (fun k hk=>⟨⟨hk.1.1,hk.2⟩,hk.1.2⟩)⟩
theorem N_step (h:N d e w base ok v xs) (hm:∀ k,ok k→k<w.heap.size→w1.heap[k]? = w.heap[k]?):N d e w1 base ok v xs:=by
 obtain ⟨h0,rows,hl,hR,hf⟩:=h
 exact ⟨h0,rows,hl,R_step hR (fun k hk hlt=>hm k (h0 k hk.symm) hlt),fun j x c hx hc=>FK_step (hf j x c hx hc) (fun k hk hlt=>hm k hk.1 hlt)⟩
theorem N_slice (h:N d e w base ok v xs):∃ A c,v = .slice A xs.length c:=by
 obtain ⟨_,rows,hl,hR,_⟩:=h
 obtain ⟨A,c,he⟩:=R_slice hR
 exact ⟨A,c,by rw [he,hl]⟩
theorem N_reads' {n c:Nat} (h:N d e w base ok (.slice A n c) xs):n=xs.length∧n≤c∧d.C w A xs.length xs:=by
 obtain ⟨_,rows,hl,hR,hf⟩:=h
 obtain ⟨hn,hc,hC⟩:=R_reads' hR
 refine ⟨by omega,hc,?_⟩
 rw [hl] at hC
 refine ⟨rfl,hC.2.1,fun hp=>?_⟩
 obtain ⟨ad,he,hcell⟩:=hC.2.2 hp
 refine ⟨ad,he,fun j p hj=>?_⟩
 have hjl:j<rows.length:=by have:=(List.getElem?_eq_some_iff.1 hj).1;omega
 obtain ⟨c',hcl,hK,hcc⟩:=hcell j _ (List.getElem?_eq_getElem hjl)
 have hk:=FK_now (hf j p _ hj (List.getElem?_eq_getElem hjl))
 refine ⟨c',hcl,?_,hcc⟩
 rw [show c' = rows[j] from hK.1]
 exact hk
theorem N_reads (h:N d e w base ok v xs):∃ A c,v = .slice A xs.length c∧xs.length≤c∧d.C w A xs.length xs:=by
 obtain ⟨A,c,rfl⟩:=N_slice h
 exact ⟨A,c,rfl,(N_reads' h).2⟩
end
end Kd
end Go.Proofs.YtogamkblkoobkaaW.PrintWords
end
section
namespace Go.Proofs.YtogamkblkoobkaaW.PrintWords
open Go.RowKit
namespace Kd
section
variable {α:Type} {d:Kd α} {e base n cap g:Nat} {ok ok' okp:Nat→Prop} {w w1 W:World} {v v1:Value} {xs ys:List α}
theorem N_appended {rows news:List (List Value)} (h0:∀ k,v.ownBlock=some k→ok k) (hl:rows.length=xs.length) (hf:∀ (j:Nat) (x:α) (c:List Value),xs[j]? = some x→rows[j]? = some c→FK d W (fun k=>ok k∧some k ≠ v.ownBlock) x c)
  (hl2:news.length=ys.length) (hf2:∀ (j:Nat) (x:α) (c:List Value),ys[j]? = some x→news[j]? = some c→FK d W okp x c) (hokp:∀ k,okp k→ok k∧some k ≠ v.ownBlock) (hfresh:∀ k,W.heap.size≤k→ok k)
  (hR:(raw d.sz).R e w1 base (fun _=>True) v1 (rows ++ news)) (hg:W.grownBy w1 v.ownBlock) (hat:v1.ownBlock=v.ownBlock∨∃ b,v1.ownBlock=some b∧W.heap.size≤b):N d e w1 base ok v1 (xs ++ ys):=by
 have hne:∀ k,some k ≠ v.ownBlock→k<W.heap.size→some k ≠ v1.ownBlock:=by
  intro k hk hlt
  rcases hat with hat | ⟨b,hb,hle⟩
  ·rw [hat];exact hk
  ·rw [hb]
   intro he
   injection he with he
   omega
 have step:∀ {x:α} {c:List Value} {o:Nat→Prop},FK d W o x c→(∀ k,o k→ok k∧some k ≠ v.ownBlock)→FK d w1 (fun k=>ok k∧some k ≠ v1.ownBlock) x c:=by
  intro x c o hq ho
  exact FK_mono (FK_step (FK_bound hq) (fun k hk hlt=>hg.block k hlt (ho k hk.1).2)) (fun k hk=>⟨(ho k hk.1).1,hne k (ho k hk.1).2 hk.2⟩)
 refine ⟨fun k hk=>?_,rows ++ news,by rw [List.length_append,List.length_append,hl,hl2],raw_tight hR,fun j x c hx hc=>?_⟩
 ·rcases hat with hat | ⟨b,hb,hle⟩
  ·exact h0 k (hat ▸ hk)
  ·rw [hb] at hk
   injection hk with hk
   exact hfresh k (by omega)
 ·rcases Nat.lt_or_ge j xs.length with hlt | hge
  ·rw [List.getElem?_append_left hlt] at hx
   rw [List.getElem?_append_left (by omega)] at hc
   exact step (hf j x c hx hc) (fun _ hk=>hk)
  ·rw [List.getElem?_append_right hge] at hx
   rw [List.getElem?_append_right (by omega),hl] at hc
   exact step (hf2 _ x c hx hc) hokp
theorem FK_raw {x:α} {c:List Value} (h:FK d W ok x c):c=c∧c.length=d.sz∧∀ u ∈ c,u.oneCell' = true:=⟨rfl,d.K_len (FK_now h),d.K_one (FK_now h)⟩
end
section
variable {P:Program} {ops:Array Oper} {rest:List Oper} {o:Oper} {a:Act} {Q:Exit→Act→World→Prop} {Kc:Act→World→Prop} {α:Type}
theorem N_append (d:Kd α) {w0 W:World} (base:Nat) (hgd:o.guard=none) (s x:Operand) (t e:TypeId) (z:Value) (bytes:Nat)
  (ho:o.op = .call { callee:=.builtin .append,args:=#[s,x],argTypes:=#[t,t] })
  (ht:P.underlying t=some (.slice e)) (hinfo:(P.info? e).map (fun i=>(i.zero,i.size,i.bytes))=some (some z,d.sz,bytes)) (hz:z.cells.size=d.sz) (hs0:0<d.sz) (hb0:0<bytes)
  (v:Value) (xs:List α) (p:α) (cs:List Value) (ok okp:Nat→Prop) (hs:a.eval s=v) (hx:a.eval x = .slice (some ⟨W.heap.size,0,none⟩) 1 1) (hp:FK d W okp p cs) (hokp:∀ k,okp k→ok k∧some k ≠ v.ownBlock) (hfresh:∀ k,W.heap.size≤k→ok k)
  (HO:N d e W base ok v xs) (HB:Below base w0 W) (hbase:base≤W.heap.size) (hl:(xs.length+1) * bytes≤140737488355328)
  (h:∀ v1 w1,N d e w1 base ok v1 (xs ++ [p])→Below base w0 w1→W.grownBy w1 v.ownBlock→(v1.ownBlock=v.ownBlock∨∃ b,v1.ownBlock=some b∧W.heap.size≤b)→wpList P ops Q rest (a.put o.dst v1) w1) :
  wpList P ops Q (o :: rest) a (W.alloc (.cells cs.toArray e)):=by
 obtain ⟨h0,rows,hlr,hR,hf⟩:=HO
 refine R_append (raw d.sz) base hgd s x t e z bytes ho ht hinfo hz hs0 hb0 v rows cs cs (fun _=>True) (fun _=>False) hs hx (FK_raw hp) (fun _ hk=>hk.elim) (fun _ _=>trivial) (raw_any hR) HB hbase (by rw [hlr];exact hl) ?_
 intro v1 w1 hr hb hg hat
 exact h v1 w1 (N_appended h0 hlr hf (ys:=[p]) (news:=[cs]) rfl (fun j y c hy hc=>by
  rcases j with _ | j
  ·simp only [List.getElem?_cons_zero,Option.some.injEq] at hy hc
   rw [← hy,← hc];exact hp
  ·simp at hy) hokp hfresh hr hg hat) hb hg hat
end
end Kd
end Go.Proofs.YtogamkblkoobkaaW.PrintWords
end
section
namespace Go.Proofs.YtogamkblkoobkaaW.PrintMore
open Go.RowKit Go.Proofs.YtogamkblkoobkaaW.PrintWords
namespace Kd
open Go.Proofs.YtogamkblkoobkaaW.PrintWords.Kd
end Kd
namespace Kd
open Go.Proofs.YtogamkblkoobkaaW.PrintWords.Kd
section
variable {α:Type} {d:Kd α} {e base g N:Nat} {ok:Nat→Prop} {W w1:World} {u v:Value} {xs:List α}
theorem R_oldK (hu:d.R e W base (fun k=>ok k∧k ≠ g) u xs) (hk:KeepBut W w1 g none):d.R e w1 base (fun k=>ok k∧k<W.heap.size) u xs:=
 R_mono (R_keep (R_bound hu) hk (fun _ h=>h.1.2)) (fun _ h=>⟨h.1.1,h.2.2.1⟩)
theorem R_told (h:d.R e w1 base (fun k=>ok k∧k<N) u xs) (hbase:∀ k,v.ownBlock=some k→N≤k):d.R e w1 base (fun k=>(ok k∧some k ≠ v.ownBlock)∧k<N) u xs:=
 R_mono h (fun k hk=>⟨⟨hk.1,fun e=>Nat.lt_irrefl _ (Nat.lt_of_lt_of_le hk.2 (hbase k e.symm))⟩,hk.2⟩)
end
end Kd
theorem max2_int (k k':IntKind) (x y:Int):Builtin.max2 (.int k x) (.int k' y)=pure (.int k (if x<y then y else x)):=by simp only [Builtin.max2,gt_iff_lt]
theorem min2_int (k k':IntKind) (x y:Int):Builtin.min2 (.int k x) (.int k' y)=pure (.int k (if y<x then y else x)):=by simp only [Builtin.min2]
theorem max_two (ats:Array TypeId) (ty:TypeId) (a b:Value):Builtin.max_ ats ty #[a,b]=(Builtin.max2 a b >>= fun s=>pure s):=by simp only [Builtin.max_,List.foldlM_cons,List.foldlM_nil]
theorem min_two (ats:Array TypeId) (ty:TypeId) (a b:Value):Builtin.min_ ats ty #[a,b]=(Builtin.min2 a b >>= fun s=>pure s):=by simp only [Builtin.min_,List.foldlM_cons,List.foldlM_nil]
theorem max_three (ats:Array TypeId) (ty:TypeId) (a b c:Value):Builtin.max_ ats ty #[a,b,c]=(Builtin.max2 a b >>= fun s=>Builtin.max2 s c >>= fun s=>pure s):=by simp only [Builtin.max_,List.foldlM_cons,List.foldlM_nil]
theorem min_three (ats:Array TypeId) (ty:TypeId) (a b c:Value):Builtin.min_ ats ty #[a,b,c]=(Builtin.min2 a b >>= fun s=>Builtin.min2 s c >>= fun s=>pure s):=by simp only [Builtin.min_,List.foldlM_cons,List.foldlM_nil]
theorem max_four (ats:Array TypeId) (ty:TypeId) (a b c d:Value):Builtin.max_ ats ty #[a,b,c,d]=(Builtin.max2 a b >>= fun s=>Builtin.max2 s c >>= fun s=>Builtin.max2 s d >>= fun s=>pure s):=by simp only [Builtin.max_,List.foldlM_cons,List.foldlM_nil]
theorem min_four (ats:Array TypeId) (ty:TypeId) (a b c d:Value):Builtin.min_ ats ty #[a,b,c,d]=(Builtin.min2 a b >>= fun s=>Builtin.min2 s c >>= fun s=>Builtin.min2 s d >>= fun s=>pure s):=by simp only [Builtin.min_,List.foldlM_cons,List.foldlM_nil]
end Go.Proofs.YtogamkblkoobkaaW.PrintMore
namespace Go.Proofs.YtogamkblkoobkaaW.PrintWords
open Go.RowKit
section
variable {P:Program} {ops:Array Oper} {rest:List Oper} {o:Oper} {a:Act} {Q:Exit→Act→World→Prop} {W:World}
theorem gate_callee {f:FuncId} {as_:Array Operand} {ts:Array TypeId} (_ho:o.op = .call { callee:=.value (.func f),args:=as_,argTypes:=ts }) (h:wpList P ops Q (o :: rest) a W):wpList P ops Q (o :: rest) a W:=h
theorem gate_builtin {b:Builtin} {xs:Array Operand} {ts:Array TypeId} (_ho:o.op = .call { callee:=.builtin b,args:=xs,argTypes:=ts }) (h:wpList P ops Q (o :: rest) a W):wpList P ops Q (o :: rest) a W:=h
end
def shl (k:IntKind) (x y:Int):Int:=k.wrap (x * 2 ^ min y.toNat k.bits)
def shr (k:IntKind) (x y:Int):Int:=x / 2 ^ min y.toNat k.bits
theorem shl_small {k:IntKind} {x y j:Int} (h:shl k x y=j) (hy:y≤k.bits):k.wrap (x * 2 ^ y.toNat)=j:=by rw [← h];unfold shl;rw [Nat.min_eq_left (by omega)]
theorem shr_small {k:IntKind} {x y j:Int} (h:shr k x y=j) (hy:y≤k.bits):x / 2 ^ y.toNat=j:=by rw [← h];unfold shr;rw [Nat.min_eq_left (by omega)]
theorem cell_unalloc {W:World} {o:Obj} {a:Addr} {v:Value} (h:(W.alloc o).cell? a=some v) (hlt:a.block<W.heap.size):W.cell? a=some v:=(World.cell?_alloc_lt _ _ _ hlt).symm.trans h
theorem cell_grown {W w1:World} {row:Option Nat} (hg:W.grownBy w1 row) {a:Addr} {v:Value} (h:W.cell? a=some v) (hne:some a.block ≠ row):w1.cell? a=some v:=by
 have:=hg.block a.block (World.block_lt_of_cell? W a h) hne
 simpa [World.cell?,this] using h
namespace Kd
section
variable {α:Type} {d:Kd α} {e base:Nat} {ok:Nat→Prop} {W w1:World} {v:Value} {xs:List α}
end
section
variable {α:Type} {d:Kd α} {e base g n cap:Nat} {ok oki okp:Nat→Prop} {W:World} {xs:List α} {i:Int} {c:List Value}
theorem H_at (h:H d e W base ok (.slice (some ⟨g,0,none⟩) n cap) xs i oki c) (h0:0≤i) (h1:i<n):(∀ j u,c[j]? = some u→W.cell? ⟨g,i.toNat * d.sz+j,none⟩=some u)∧∀ j,W.frozen? ⟨g,i.toNat * d.sz+j,none⟩=false:=by
 obtain ⟨rows,_,hraw,_,_,hcc,_⟩:=H_raw h h0 h1
 obtain ⟨_,_,_,_,hfr⟩:=R_elem hraw [] i h0 h1
 exact ⟨hcc,hfr⟩
theorem S_seg0 (hH:H d e W base ok (.slice (some ⟨g,0,none⟩) n cap) xs i oki c) (h0:0≤i) (h1:i<n) {seg:List Value} {j:Nat} (hj:j+seg.length≤d.sz)
  {x':α} (hM:d.M W base okp x' (c.take j ++ seg ++ c.drop (j+seg.length))) (hokp:∀ k,okp k→oki k) :
  S d e (W.setCells g (i.toNat * d.sz+j) seg) base ok (.slice (some ⟨g,0,none⟩) n cap) (xs.set i.toNat x')∧W.grownBy (W.setCells g (i.toNat * d.sz+j) seg) (some g):=
 S_seg (okg:=fun _=>False) (H_mono hH (fun _ hk=>⟨hk,fun h=>h⟩)) h0 h1 hj hM (fun k hk=>.inl (hokp k hk)) (fun _ hk=>hk.elim)
end
section
variable {α:Type} {d:Kd α} {e base b b' g N:Nat} {ok ok1:Nat→Prop} {W W2 w1:World} {u v:Value} {xs ys:List α} {S:Nat→Prop}
theorem own_raise {n size:Nat} {cs:List Value} (h:W.ownsRow b e size v n cs) (hb:∀ k,v.ownBlock=some k→b'≤k):W.ownsRow b' e size v n cs:=by
 obtain ⟨h1,h2⟩:=h
 refine ⟨h1,?_⟩
 rcases h2 with h2 | ⟨g,cap,cur,rfl,_,r⟩
 ·exact .inl h2
 ·exact .inr ⟨g,cap,cur,rfl,hb g (by simp [Value.ownBlock]),r⟩
theorem R_raise (hM:∀ w ok x cs,d.M w b ok x cs→d.M w b' ok x cs) (h:d.R e W b ok v xs) (hb:∀ k,v.ownBlock=some k→b'≤k):d.R e W b' ok v xs:=by
 obtain ⟨h0,inner,ho,hr⟩:=h
 exact ⟨h0,inner,own_raise ho hb,hr.imp_ (fun _ _ hp=>hM _ _ _ _ hp)⟩
end
end Kd
end Go.Proofs.YtogamkblkoobkaaW.PrintWords
namespace Go.Proofs.YtogamkblkoobkaaW.PrintWords
open Go.RowKit
namespace Kd
def V {α:Type} (d:Kd α) (_e:Nat) (W:World) (_base:Nat) (ok:Nat→Prop) (v:Value) (xs:List α):Prop:=∃ A c,v = .slice A xs.length c∧xs.length≤c∧F d W ok A xs.length xs
section
variable {α β:Type} {d:Kd α} {e base base' n m c g N' lo hi:Nat} {ok ok' S:Nat→Prop} {w W w1:World} {A:Option Addr} {ad:Addr} {u v v1:Value} {xs:List α}
theorem V_nil (d:Kd α) (e:Nat) (W:World) (base:Nat) (ok:Nat→Prop):V d e W base ok (.slice none 0 0) []:=⟨none,0,rfl,Nat.le_refl _,F_nil d W ok⟩
theorem FK_slice_mk {l:List α} (hl:l.length≤c) (hf:F d W ok A l.length l):FK (Kd.slice e d) W ok l [.slice A l.length c]:=fun W' hW=>⟨A,c,rfl,hl,hf W' hW⟩
theorem R_newM {M:Nat→Prop} (h:d.R e w1 W.heap.size ok v xs) (hle:w.heap.size≤W.heap.size) (hM:∀ k,w.heap.size≤k→M k):d.R e w1 W.heap.size (fun k=>M k∧ok k) v xs:=R_mono (R_bound h) (fun k hk=>⟨hM k (Nat.le_trans hle hk.2.1),hk.1⟩)
end
end Kd
end Go.Proofs.YtogamkblkoobkaaW.PrintWords
end
section
namespace Go.Proofs.YtogamkblkoobkaaW.PrintLast
open Go.Proofs.YtogamkblkoobkaaW.PrintWords (Aside0)
def needsOf (md:Region.Mode) (o:Oper):List Nat:=(o.after.toList.filter (fun e=>Region.binds md e)).map (fun e=>e.on)
def clashOf (md:Region.Mode) (ops:Array Oper) (i:Nat) (oi:Oper):List Nat:=(List.range ops.size).filter fun j=>!(j == i) && match ops[j]? with
 | some oj=>!(oj.after.any (fun e=>Region.binds md e && e.on == i) || oi.apart ops oj)
 | none=>false
def rtab (md:Region.Mode) (ops:Array Oper):Bool × List (List Nat × List Nat):=(Region.noSelect ops,(List.range ops.size).map fun i=>match ops[i]? with
 | some o=>(needsOf md o,clashOf md ops i o)
 | none=>([],[]))
def readyAt (T:List (List Nat × List Nat)) (l:List Bool) (i:Nat):Bool:=!l.getD i true && match T[i]? with
 | some r=>r.1.all (fun j=>l.getD j false)
 | none=>false
def readyT (T:List (List Nat × List Nat)) (l:List Bool):List Nat:=(List.range T.length).filter (readyAt T l)
def freeT (T:List (List Nat × List Nat)) (l:List Bool) (i:Nat):Bool:=match T[i]? with
 | some r=>r.2.all (fun j=>l.getD j true)
 | none=>false
def closedT (T:List (List Nat × List Nat)) (l:List Bool):Bool:=(List.range T.length).all fun j=>!l.getD j false || match T[j]? with
 | some r=>r.1.all (fun k=>l.getD k false)
 | none=>true
def reachT (T:List (List Nat × List Nat)) (i:Nat):Nat→Nat→Bool
 | 0,_=>false
 | fuel+1,d=>match T[d]? with
  | some r=>r.1.any fun j=>j == i || reachT T i fuel j
  | none=>false
def lastT (T:List (List Nat × List Nat)) (l:List Bool) (ds:List Nat) (i:Nat):Bool:=ds.all fun d=>l.getD d true || reachT T i T.length d
section
variable {md:Region.Mode} {ops:Array Oper} {T:Bool × List (List Nat × List Nat)} {l l' li lj lk:Array Bool} {ds:List Nat} {i j k:Nat}
theorem gd (l:Array Bool) (j:Nat) (b:Bool):l.getD j b=l.toList.getD j b:=by simp [Array.getD_eq_getD_getElem?,List.getD_eq_getElem?_getD]
theorem needs_all (o:Oper) (p:Nat→Bool):o.after.all (fun e=>!Region.binds md e || p e.on)=(needsOf md o).all p:=by
 unfold needsOf
 rw [← Array.all_toList]
 induction o.after.toList with
 | nil=>rfl
 | cons e r ih =>
  rw [List.all_cons,ih,List.filter_cons]
  cases h:Region.binds md e <;> simp
theorem needs_any (o:Oper) (p:Nat→Bool):o.after.any (fun e=>Region.binds md e && p e.on)=(needsOf md o).any p:=by
 unfold needsOf
 rw [← Array.any_toList]
 induction o.after.toList with
 | nil=>rfl
 | cons e r ih =>
  rw [List.any_cons,ih,List.filter_cons]
  cases h:Region.binds md e <;> simp
theorem rtab_length:(rtab md ops).2.length=ops.size:=by simp [rtab]
theorem rtab_some {o:Oper} (h:ops[i]? = some o):(rtab md ops).2[i]? = some (needsOf md o,clashOf md ops i o):=by
 have hi:=(Array.getElem?_eq_some_iff.1 h).1
 unfold rtab
 rw [List.getElem?_map,List.getElem?_range hi,Option.map_some,h]
theorem rtab_none (h:ops[i]? = none):(rtab md ops).2[i]? = none:=by
 have hi:ops.size≤i:=Array.getElem?_eq_none_iff.1 h
 exact List.getElem?_eq_none (by rw [rtab_length];exact hi)
theorem readyAt_eq:readyAt (rtab md ops).2 l.toList i=(!l.getD i true && ((ops[i]?).map (·.after.all fun e=>!Region.binds md e || l.getD e.on false)).getD false):=by
 unfold readyAt
 rw [gd]
 cases h:ops[i]? with
 | none=>rw [rtab_none h];rfl
 | some o =>
  rw [rtab_some h]
  simp only [Option.map_some,Option.getD_some]
  rw [← needs_all]
  simp only [gd]
theorem ready_eq:Region.ready md ops l=readyT (rtab md ops).2 l.toList:=by
 unfold Region.ready readyT
 rw [rtab_length]
 refine List.filter_congr (fun i _=>?_)
 rw [readyAt_eq]
theorem free_eq:Region.free md ops l i=freeT (rtab md ops).2 l.toList i:=by
 unfold Region.free freeT
 cases h:ops[i]? with
 | none=>rw [rtab_none h]
 | some oi =>
  rw [rtab_some h]
  simp only [clashOf]
  rw [List.all_filter]
  congr 1
  funext j
  rw [gd]
  cases hj:ops[j]? with
  | none=>cases (j == i) <;> cases (l.toList.getD j true) <;> simp
  | some oj =>
   cases (j == i) <;> cases (l.toList.getD j true) <;> cases (oj.after.any (fun e=>Region.binds md e && e.on == i) || oi.apart ops oj) <;> simp_all
theorem closed_eq:Region.closedB md ops l=closedT (rtab md ops).2 l.toList:=by
 unfold Region.closedB closedT
 rw [rtab_length]
 congr 1
 funext j
 rw [gd]
 cases h:ops[j]? with
 | none=>rw [rtab_none h]
 | some o =>
  rw [rtab_some h]
  simp only
  rw [← needs_all]
  simp only [gd]
theorem reach_eq:∀ (fuel d:Nat),Region.reachB md ops i fuel d=reachT (rtab md ops).2 i fuel d
 | 0,_=>rfl
 | fuel+1,d=>by
  unfold Region.reachB reachT
  cases h:ops[d]? with
  | none=>rw [rtab_none h]
  | some o =>
   rw [rtab_some h]
   simp only
   rw [← needs_any]
   congr 1
   funext e
   rw [reach_eq fuel]
theorem last_eq:Region.lastB md ops l ds i=lastT (rtab md ops).2 l.toList ds i:=by
 unfold Region.lastB lastT
 rw [rtab_length]
 congr 1
 funext d
 rw [gd,reach_eq]
theorem readyAt_mem (h:readyAt T.2 l.toList i=true) (hT:rtab md ops=T):(Region.ready md ops l).contains i=true:=by
 subst hT
 rw [ready_eq]
 unfold readyT
 rw [List.contains_iff_mem,List.mem_filter,List.mem_range]
 refine ⟨?_,h⟩
 unfold readyAt at h
 rw [Bool.and_eq_true] at h
 cases hq:(rtab md ops).2[i]? with
 | none=>rw [hq] at h;simp at h
 | some r=>exact (List.getElem?_eq_some_iff.1 hq).1
theorem set_of (h:(l.toList.set i true == l'.toList)=true):(l.setIfInBounds i true == l')=true:=by
 rw [beq_iff_eq] at h ⊢
 apply Array.ext'
 rw [Array.toList_setIfInBounds]
 exact h
def anyT (T:Bool × List (List Nat × List Nat)) (l l':List Bool) (i:Nat):Bool:=T.1 && freeT T.2 l i && readyAt T.2 l i && (l.set i true == l')
theorem any_of (hT:rtab md ops=T) (h:anyT T l.toList l'.toList i=true):anyB md ops l l' i=true:=by
 simp only [anyT,Bool.and_eq_true] at h
 obtain ⟨⟨⟨h1,h2⟩,h3⟩,h4⟩:=h
 have h5:=readyAt_mem h3 hT
 have h6:=set_of h4
 subst hT
 simp only [anyB,Bool.and_eq_true]
 exact ⟨⟨⟨h1,by rw [free_eq];exact h2⟩,h5⟩,h6⟩
def takeT (T:Bool × List (List Nat × List Nat)) (ds:List Nat) (l l':List Bool) (i:Nat):Bool:=T.1 && freeT T.2 l i && readyAt T.2 l i && closedT T.2 l && lastT T.2 l ds i && (l.set i true == l')
theorem take_of (hT:rtab md ops=T) (h:takeT T ds l.toList l'.toList i=true):takeB md ops ds l l' i=true:=by
 simp only [takeT,Bool.and_eq_true] at h
 obtain ⟨⟨⟨⟨⟨h1,h2⟩,h3⟩,h4⟩,h5⟩,h6⟩:=h
 have h7:=readyAt_mem h3 hT
 have h8:=set_of h6
 subst hT
 simp only [takeB,Bool.and_eq_true]
 exact ⟨⟨⟨⟨⟨h1,by rw [free_eq];exact h2⟩,h7⟩,by rw [closed_eq];exact h4⟩,by rw [last_eq];exact h5⟩,h8⟩
theorem one_of (hT:rtab md ops=T) (h:(readyT T.2 l.toList == [i] && l.toList.set i true == l'.toList)=true):readyB md ops l l' i=true:=by
 simp only [Bool.and_eq_true] at h
 obtain ⟨h1,h2⟩:=h
 subst hT
 simp only [readyB,Bool.and_eq_true]
 exact ⟨by rw [ready_eq];exact h1,set_of h2⟩
theorem two_of (hT:rtab md ops=T) (h:(readyT T.2 l.toList == [i,j] && l.toList.set i true == li.toList && l.toList.set j true == lj.toList)=true):(Region.ready md ops l == [i,j] && l.setIfInBounds i true == li && l.setIfInBounds j true == lj)=true:=by
 simp only [Bool.and_eq_true] at h ⊢
 obtain ⟨⟨h1,h2⟩,h3⟩:=h
 subst hT
 exact ⟨⟨by rw [ready_eq];exact h1,set_of h2⟩,set_of h3⟩
theorem done_of (hT:rtab md ops=T) (h:(readyT T.2 l.toList == [])=true):(Region.ready md ops l == [])=true:=by
 subst hT
 rw [ready_eq]
 exact h
def upM (B:List Nat) (d:Nat):List Nat→Nat
 | []=>0
 | n :: r=>(2 ^ n ||| (if n<d then B.getD n 0 else 0)) ||| upM B d r
def waitsOk (T:List (List Nat × List Nat)) (B:List Nat):Bool:=(List.range T.length).all fun d=>match T[d]? with
 | some r=>(B.getD d 0 ||| upM B d r.1) == upM B d r.1
 | none=>false
theorem upM_bit {B:List Nat} {d i:Nat}:∀ {ns:List Nat},(upM B d ns).testBit i=true→∃ n ∈ ns,n=i∨(n<d∧(B.getD n 0).testBit i=true)
 | [],h=>by simp [upM] at h
 | n :: r,h=>by
  unfold upM at h
  rw [Nat.testBit_or,Nat.testBit_or,Bool.or_eq_true,Bool.or_eq_true] at h
  rcases h with (h | h) | h
  ·rw [Nat.testBit_two_pow] at h
   exact ⟨n,List.mem_cons_self,.inl (by simpa using h)⟩
  ·by_cases hn:n<d
   ·rw [if_pos hn] at h
    exact ⟨n,List.mem_cons_self,.inr ⟨hn,h⟩⟩
   ·rw [if_neg hn] at h
    simp at h
  ·obtain ⟨m,hm,h2⟩:=upM_bit h
   exact ⟨m,List.mem_cons_of_mem _ hm,h2⟩
theorem reach_bit {T:List (List Nat × List Nat)} {B:List Nat} (hB:waitsOk T B=true):∀ (fuel d:Nat),d<fuel→d<T.length→(B.getD d 0).testBit i=true→reachT T i fuel d=true
 | 0,d,h,_,_=>by omega
 | fuel+1,d,h,hd,hb=>by
  have h1:=List.all_eq_true.1 hB d (List.mem_range.2 hd)
  cases hr:T[d]? with
  | none=>rw [hr] at h1;simp at h1
  | some r =>
   rw [hr] at h1
   simp only [beq_iff_eq] at h1
   have h2:(upM B d r.1).testBit i=true:=by rw [← h1,Nat.testBit_or,hb,Bool.true_or]
   obtain ⟨n,hn,h3⟩:=upM_bit h2
   unfold reachT
   rw [hr]
   simp only
   rw [List.any_eq_true]
   refine ⟨n,hn,?_⟩
   rcases h3 with rfl | ⟨h4,h5⟩
   ·simp
   ·rw [reach_bit hB fuel n (by omega) (by omega) h5,Bool.or_true]
def lastW (T:List (List Nat × List Nat)) (B:List Nat) (l:List Bool) (ds:List Nat) (i:Nat):Bool:=ds.all fun d=>l.getD d true || (decide (d<T.length) && (B.getD d 0).testBit i)
def takeW (T:Bool × List (List Nat × List Nat)) (B:List Nat) (ds:List Nat) (l l':List Bool) (i:Nat):Bool:=T.1 && freeT T.2 l i && readyAt T.2 l i && closedT T.2 l && lastW T.2 B l ds i && (l.set i true == l')
theorem take_ofW {B:List Nat} (hT:rtab md ops=T) (hB:waitsOk T.2 B=true) (h:takeW T B ds l.toList l'.toList i=true):takeB md ops ds l l' i=true:=by
 refine take_of hT ?_
 simp only [takeW,takeT,Bool.and_eq_true] at h ⊢
 obtain ⟨⟨⟨⟨⟨h1,h2⟩,h3⟩,h4⟩,h5⟩,h6⟩:=h
 refine ⟨⟨⟨⟨⟨h1,h2⟩,h3⟩,h4⟩,?_⟩,h6⟩
 unfold lastW at h5
 unfold lastT
 rw [List.all_eq_true] at h5 ⊢
 intro d hd
 have h7:=h5 d hd
 rw [Bool.or_eq_true,Bool.and_eq_true,decide_eq_true_eq] at h7
 rcases h7 with h7 | ⟨h8,h9⟩
 ·rw [h7,Bool.true_or]
 ·rw [reach_bit hB _ d h8 h8 h9,Bool.or_true]
theorem with_tabW {P:Program} {Q:Exit→Act→World→Prop} {S:World→Prop} {n:Nat} {a:Act} {w:World} {B:List Nat} (hT:rtab md ops=T) (hB:waitsOk T.2 B=true) (h:Aside0 (rtab md ops=T)→Aside0 (waitsOk T.2 B=true)→wpAnyLast P md ops Q S ds n l a w):wpAnyLast P md ops Q S ds n l a w:=h ⟨hT⟩ ⟨hB⟩
end
def opsIn:Code→Nat→Option (Array Oper)
 | .region id ops _,k=>if id == k then some ops else none
 | .seq a b,k=>match opsIn a k with
  | some o=>some o
  | none=>opsIn b k
 | .cond _ a b,k=>match opsIn a k with
  | some o=>some o
  | none=>opsIn b k
 | .block _ c,k=>opsIn c k
 | .loop c,k=>opsIn c k
 | .scope c,k=>opsIn c k
 | .rangeFunc _ _ a b,k=>match opsIn a k with
  | some o=>some o
  | none=>opsIn b k
 | _,_=>none
def opsOf (f:Func) (k:Nat):Array Oper:=((f.body.bind fun c=>opsIn c k)).getD #[]
end Go.Proofs.YtogamkblkoobkaaW.PrintLast
end
section
namespace Go.Proofs.Ytogamkblkoobkaa.P
open Go.RowKit
theorem pn_ (l:List Value) (d:List Deferred) (n:Tmp) (v:Value):Act.put ⟨⟨l⟩,d⟩ (some n) v=⟨⟨l.set n v⟩,d⟩:=by simp [Act.put]
theorem sz_ {α:Type} (a b:α) (l:List α):(a :: l).set 0 b=b :: l:=rfl
theorem ss_ {α:Type} (a b:α) (n:Nat) (l:List α):(a :: l).set (n+1) b=a :: l.set n b:=rfl
def bl (n k:Nat):Array Bool:=((List.range n).map fun i=>k.testBit i).toArray
end Go.Proofs.Ytogamkblkoobkaa.P
end
section
namespace Go.Proofs.Ytogamkblkoobkaa
open Go.RowKit Go.Proofs.Ytogamkblkoobkaa.P Go.Proofs.YtogamkblkoobkaaW.PrintWords Go.Proofs.YtogamkblkoobkaaW.PrintLast Go.Proofs.YtogamkblkoobkaaW.PrintMore
theorem pu_ {P:Program} {ops:Array Oper} {Q:Exit→Act→World→Prop} {md:Region.Mode} {S:World→Prop} {ds:List Nat} {T:Bool × List (List Nat × List Nat)} {oi:Oper} {v:Value} {fuel:Nat} {l:Array Bool} {a a':Act} {w:World} (i N:Nat) (l':Array Bool) (hT:Aside0 (rtab md ops=T)) (h:wpAnyLast P md ops Q S ds fuel l' a' w)
 (hi:ops[i]? = some oi:=by rfl) (hN:oi.dst=some N:=by rfl) (hc:anyT T l.toList l'.toList i=true:=by kernel_rfl) (hQ:∀ c a w,Q (.panic c) (a.put oi.dst v) w→Q (.panic c) a w:=by exact fun _ _ _ h=>h)
 (hy:Yields P ops oi v a:=by exact Or.inl ⟨by rfl,by intro w';go_simp;with_reducible rfl⟩) (ha:a.put (some N) v=a':=by simp only [pn_,sz_,ss_,i64_w,i32_w];rfl):wpAnyLast P md ops Q S ds (fuel+1) l a w:=pure_ l' hi hN (any_of hT.out hc) hQ hy ha h
theorem pz_ {P:Program} {ops:Array Oper} {Q:Exit→Act→World→Prop} {md:Region.Mode} {S:World→Prop} {ds:List Nat} {T:Bool × List (List Nat × List Nat)} {oi:Oper} {fuel:Nat} {l:Array Bool} {a a':Act} {w:World} (i N:Nat) (l':Array Bool) (hT:Aside0 (rtab md ops=T)) (h:wpAnyLast P md ops Q S ds fuel l' a' w)
 (hi:ops[i]? = some oi:=by rfl) (hN:oi.dst=some N:=by rfl) (hc:anyT T l.toList l'.toList i=true:=by kernel_rfl) (hQ:∀ c a w,Q (.panic c) (a.put oi.dst undef) w→Q (.panic c) a w:=by exact fun _ _ _ h=>h)
 (hy:Yields P ops oi undef a:=by exact Or.inr ⟨by rfl,rfl⟩) (ha:a.put (some N) undef=a':=by simp only [pn_,sz_,ss_,i64_w,i32_w];rfl):wpAnyLast P md ops Q S ds (fuel+1) l a w:=pure_ l' hi hN (any_of hT.out hc) hQ hy ha h
theorem tk_ {P:Program} {ops:Array Oper} {Q:Exit→Act→World→Prop} {md:Region.Mode} {S:World→Prop} {ds:List Nat} {T:Bool × List (List Nat × List Nat)} {B:List Nat} {oi:Oper} {v:Value} {fuel:Nat} {l:Array Bool} {a a':Act} {w:World} (i N:Nat) (l':Array Bool) (hT:Aside0 (rtab md ops=T)) (hB:Aside0 (waitsOk T.2 B=true)) (hS:S w) (h:wpAnyLast P md ops Q S ds fuel l' a' w)
 (hi:ops[i]? = some oi:=by rfl) (hN:oi.dst=some N:=by rfl) (hc:takeW T B ds l.toList l'.toList i=true:=by kernel_rfl) (hQ:∀ c a w,Q (.panic c) (a.put oi.dst v) w→Q (.panic c) a w:=by exact fun _ _ _ h=>h)
 (hy:YieldsIf P ops S oi v a:=by exact Or.inl ⟨by rfl,by intro w' h_;(repeat (obtain ⟨_,h_⟩:=h_));go_simp;with_reducible rfl⟩) (ha:a.put (some N) v=a':=by simp only [pn_,sz_,ss_,i64_w,i32_w];rfl):wpAnyLast P md ops Q S ds (fuel+1) l a w:=take_ l' hi hN (take_ofW hT.out hB.out hc) hQ hy hS ha h
theorem ph_ {P:Program} {ops:Array Oper} {Q:Exit→Act→World→Prop} {md:Region.Mode} {S:World→Prop} {ds:List Nat} {T:Bool × List (List Nat × List Nat)} {oi:Oper} {v:Value} {fuel:Nat} {l:Array Bool} {a a':Act} {w:World} (i N:Nat) (l':Array Bool) (hT:Aside0 (rtab md ops=T)) (h:wpAnyLast P md ops Q S ds fuel l' a' w)
 (hi:ops[i]? = some oi:=by rfl) (hN:oi.dst=some N:=by rfl) (hc:anyT T l.toList l'.toList i=true:=by kernel_rfl) (hQ:∀ c a w,Q (.panic c) (a.put oi.dst v) w→Q (.panic c) a w:=by exact fun _ _ _ h=>h)
 (hy:Yields P ops oi v a:=by exact Or.inl ⟨by rfl,by intro w';go_simp;with_reducible rfl⟩) (ha:a.put (some N) v=a':=by simp only [Act.put,List.setIfInBounds_toArray,List.set_cons_zero,List.set_cons_succ,i64_w,i32_w];rfl):wpAnyLast P md ops Q S ds (fuel+1) l a w:=pure_ l' hi hN (any_of hT.out hc) hQ hy ha h
theorem th_ {P:Program} {ops:Array Oper} {Q:Exit→Act→World→Prop} {md:Region.Mode} {S:World→Prop} {ds:List Nat} {T:Bool × List (List Nat × List Nat)} {B:List Nat} {oi:Oper} {v:Value} {fuel:Nat} {l:Array Bool} {a a':Act} {w:World} (i N:Nat) (l':Array Bool) (hT:Aside0 (rtab md ops=T)) (hB:Aside0 (waitsOk T.2 B=true)) (hS:S w) (h:wpAnyLast P md ops Q S ds fuel l' a' w)
 (hi:ops[i]? = some oi:=by rfl) (hN:oi.dst=some N:=by rfl) (hc:takeW T B ds l.toList l'.toList i=true:=by kernel_rfl) (hQ:∀ c a w,Q (.panic c) (a.put oi.dst v) w→Q (.panic c) a w:=by exact fun _ _ _ h=>h)
 (hy:YieldsIf P ops S oi v a:=by exact Or.inl ⟨by rfl,by intro w' h_;(repeat (obtain ⟨_,h_⟩:=h_));go_simp;with_reducible rfl⟩) (ha:a.put (some N) v=a':=by simp only [Act.put,List.setIfInBounds_toArray,List.set_cons_zero,List.set_cons_succ,i64_w,i32_w];rfl):wpAnyLast P md ops Q S ds (fuel+1) l a w:=take_ l' hi hN (take_ofW hT.out hB.out hc) hQ hy hS ha h
theorem rr_ {p q:Prop} (h:p) (c:p→q:=by intro h_;(with_reducible repeat (first | apply Kd.R_alloc | apply Kd.R_drewN | apply Kd.R_drew));exact h_):q:=c h
theorem rs_ {p q:Prop} (h:p) (c:p→q:=by intro h_;(with_reducible repeat (first | apply Kd.S_alloc | apply Kd.S_drewN | apply Kd.S_drew));exact h_):q:=c h
theorem rb_ {p q:Prop} (h:p) (c:p→q:=by intro h_;(with_reducible repeat (first | refine blk_drewN ?_ _ | refine blk_drew ?_ | refine blk_alloc ?_ _));exact h_):q:=c h
theorem rc_ {p q:Prop} (h:p) (c:p→q:=by intro h_;repeat (first | exact h_ | (with_reducible refine Kd.C_alloc ?_ _) | (with_reducible refine Kd.C_drewN ?_ _) | (with_reducible refine Kd.C_drew ?_))):q:=c h
theorem am_ {p:Prop} (h:p):Aside0 p:=⟨h⟩
theorem ah_ {p:Prop} (h:p:=by first | (with_reducible assumption) | assumption):p:=h
theorem b0_ {p q:Prop} (h:p) (c:p→q:=by intro h_;repeat (first | (with_reducible first | exact h_ | apply below_alloc | apply pw_below_drewN | apply below_drew1) | exact h_)):q:=c h
theorem b1_ {p q g1:Prop} (h:p) (h1:g1) (c:p→g1→q:=by intro h_ h1_;repeat (first | (with_reducible first | exact h_ | apply below_alloc | apply pw_below_drewN | apply below_drew1 | refine below_set ?_ h1_) | exact h_)):q:=c h h1
theorem b2_ {p q g1 g2:Prop} (h:p) (h1:g1) (h2:g2) (c:p→g1→g2→q:=by intro h_ h1_ h2_;repeat (first | (with_reducible first | exact h_ | apply below_alloc | apply pw_below_drewN | apply below_drew1 | refine below_set ?_ h1_ | refine below_set ?_ h2_) | exact h_)):q:=c h h1 h2
theorem b3_ {p q g1 g2 g3:Prop} (h:p) (h1:g1) (h2:g2) (h3:g3) (c:p→g1→g2→g3→q:=by intro h_ h1_ h2_ h3_;repeat (first | (with_reducible first | exact h_ | apply below_alloc | apply pw_below_drewN | apply below_drew1 | refine below_set ?_ h1_ | refine below_set ?_ h2_ | refine below_set ?_ h3_) | exact h_)):q:=c h h1 h2 h3
theorem b4_ {p q g1 g2 g3 g4:Prop} (h:p) (h1:g1) (h2:g2) (h3:g3) (h4:g4) (c:p→g1→g2→g3→g4→q:=by intro h_ h1_ h2_ h3_ h4_;repeat (first | (with_reducible first | exact h_ | apply below_alloc | apply pw_below_drewN | apply below_drew1 | refine below_set ?_ h1_ | refine below_set ?_ h2_ | refine below_set ?_ h3_ | refine below_set ?_ h4_) | exact h_)):q:=c h h1 h2 h3 h4
theorem k0_ {p q:Prop} (h:p) (c:p→q:=by intro h_;repeat (first | (with_reducible first | exact h_ | apply KeepBut.set_ | apply keep_drewN | apply keep_drew | apply keep_alloc) | exact h_)):q:=c h
theorem k1_ {p q g1:Prop} (h:p) (h1:g1) (c:p→g1→q:=by intro h_ h1_;repeat (first | (with_reducible first | exact h_ | apply KeepBut.set_ | apply keep_drewN | apply keep_drew | apply keep_alloc | refine keep_far ?_ h1_ _) | exact h_)):q:=c h h1
theorem k2_ {p q g1 g2:Prop} (h:p) (h1:g1) (h2:g2) (c:p→g1→g2→q:=by intro h_ h1_ h2_;repeat (first | (with_reducible first | exact h_ | apply KeepBut.set_ | apply keep_drewN | apply keep_drew | apply keep_alloc | refine keep_far ?_ h1_ _ | refine keep_far ?_ h2_ _) | exact h_)):q:=c h h1 h2
theorem ck_ {w:World} {g:Nat} {cs:Array Value} {t:TypeId} (h:Aside0 (w.heap[g]? = some (.cells cs t (0,0)))) (i:Nat) {v:Value} (e:cs[i]? = some v):w.cell? ⟨g,i,none⟩=some v:=(blk_cell h.out i).trans e
theorem sz_ {n:Nat} {w w':World} (h:Aside0 (n≤w.heap.size)) {B:Nat} (hb:Below B w w'):Aside0 (n≤w'.heap.size):=⟨Nat.le_trans h.out hb.size⟩
theorem bt_ {w w1 w2:World} (h:Aside0 (Below w.heap.size w w1)) (hb:Below w1.heap.size w1 w2):Aside0 (Below w.heap.size w w2):=⟨below_then h.out h.out.size hb⟩
theorem nm_ {P:Program} {ops:Array Oper} {Q:Exit→Act→World→Prop} {md:Region.Mode} {S:World→Prop} {ds:List Nat} {fuel:Nat} {l:Array Bool} {a a':Act} {w:World} {v:Value} (N:Nat) (h:wpAnyLast P md ops Q S ds fuel l a' w) (ha:a.put (some N) v=a':=by simp only [Act.put,List.setIfInBounds_toArray,List.set_cons_zero,List.set_cons_succ,i64_w,i32_w];rfl):wpAnyLast P md ops Q S ds fuel l (a.put (some N) v) w:=by
 subst ha
 exact h
theorem on_ {P:Program} {ops:Array Oper} {Q:Exit→Act→World→Prop} {md:Region.Mode} {S:World→Prop} {ds:List Nat} {T:Bool × List (List Nat × List Nat)} {oi:Oper} {fuel:Nat} {l:Array Bool} {a:Act} {w:World} (i:Nat) (N:Option Nat) (l':Array Bool) (hT:Aside0 (rtab md ops=T))
 (h:∀ K:Act→World→Prop,Shut (∀ a' w',S w'→(S w'→wpAnyLast P md ops Q S ds fuel l' a' w')→K a' w')→if Region.wanted oi (yielded ops a.tmps)=true then Oper.wp P oi a w K Q else K (a.put N undef) w)
 (hi:ops[i]? = some oi:=by rfl) (hN:oi.dst=N:=by rfl) (hc:(readyT T.2 l.toList == [i] && l.toList.set i true == l'.toList)=true:=by kernel_rfl) (hd:i ∉ ds:=by decide):wpAnyLast P md ops Q S ds (fuel+1) l a w:=one_ l' hi hN (one_of hT.out hc) hd h
section
variable {P:Program} {ops:Array Oper} {Q:Exit→Act→World→Prop}
theorem gL_ {rest:List Oper} {oi:Oper} {a:Act} {w:World} (N:Option Tmp) {f:FuncId} {fn:Func} {as_:Array Operand} {ts:Array TypeId} (hf:P.funcs[f]? = some fn) (args:Array Value)
  (h:Calls P f args w fun e w'=>∃ v,e = .returned v∧wpList P ops Q rest (a.put N v) w')
  (hd:oi.dst=N:=by rfl) (hg:oi.guard=none:=by rfl) (hname:(fn.name == "runtime.NumGoroutine")=false:=by kernel_rfl) (hb:fn.body.isSome=true:=by rfl)
  (hop:oi.op = .call { callee:=.value (.func f),args:=as_,argTypes:=ts }:=by rfl) (hargs:as_.map a.eval=args:=by (try simp only [List.map_toArray,List.map_cons,List.map_nil]);first | done | rfl | (simp only [List.length_drop,List.length_take];rfl)):wpList P ops Q (oi :: rest) a w:=
 goesL_ N hd hg hf hname hb args hop hargs h
theorem gO_ {oi:Oper} {N:Option Tmp} {a:Act} {w:World} {K:Act→World→Prop} {f:FuncId} {fn:Func} {as_:Array Operand} {ts:Array TypeId} (hf:P.funcs[f]? = some fn) (args:Array Value)
  (h:Calls P f args w fun e w'=>∃ v,e = .returned v∧K (a.put N v) w')
  (hname:(fn.name == "runtime.NumGoroutine")=false:=by kernel_rfl) (hb:fn.body.isSome=true:=by rfl) (hw:Region.wanted oi (yielded ops a.tmps)=true:=by rfl) (hN:oi.dst=N:=by rfl) (hop:oi.op = .call { callee:=.value (.func f),args:=as_,argTypes:=ts }:=by rfl) (hargs:as_.map a.eval=args:=by (try simp only [List.map_toArray,List.map_cons,List.map_nil]);first | done | rfl | (simp only [List.length_drop,List.length_take];rfl)):if Region.wanted oi (yielded ops a.tmps)=true then Oper.wp P oi a w K Q else K (a.put N undef) w:=
 goes_ hf hname hb args hw hN hop hargs h
end
end Go.Proofs.Ytogamkblkoobkaa
end
section
namespace Go.Proofs.YtogamkblkoobkaaW.PrintLast
section
variable {P:Program} {ops:Array Oper} {Q:Exit→Act→World→Prop} {md:Region.Mode} {S:World→Prop} {ds:List Nat} {T:Bool × List (List Nat × List Nat)}
end
end Go.Proofs.YtogamkblkoobkaaW.PrintLast
end
section
namespace Go.Proofs.YtogamkblkoobkaaW.PrintWords
open Go.RowKit
namespace Kd
section
variable {α:Type} {d:Kd α} {W:World} {g n:Nat} {S ok:Nat→Prop} {A:Option Addr} {ad:Addr} {xs:List α}
end
end Kd
end Go.Proofs.YtogamkblkoobkaaW.PrintWords
end
section
namespace Go.Proofs.YtogamkblkoobkaaW.PrintWords
open Go.RowKit
section
variable {w w' u:World} {m B g:Nat} {o:Obj} {row:Option Nat} {S:Nat→Prop} {a:Addr} {v:Value}
end
namespace Kd
section
variable {α:Type} {d:Kd α} {e base n m:Nat} {ok:Nat→Prop} {w w':World} {v:Value} {A:Option Addr} {xs:List α}
end
end Kd
end Go.Proofs.YtogamkblkoobkaaW.PrintWords
end
section
namespace Go.Proofs.YtogamkblkoobkaaW.PrintWords
open Go.RowKit
section
variable {P:Program} {d:Nat} {xs ys:Array Value} {f:Field} {fs:List Field} {a b:Value} {r s:Bool} {w:World}
end
end Go.Proofs.YtogamkblkoobkaaW.PrintWords
end
section
namespace Go.Proofs.YtogamkblkoobkaaW.PrintWords
theorem Reps.one {α:Type} {R:α→List Value→Prop} {ps:List α} {cs:List Value} {p:α} {v:Value} (hp:R p [v]) (h:Reps R 1 ps cs):Reps R 1 (p :: ps) (v :: cs):=by
 refine ⟨by simp [h.1],fun j q hq=>?_⟩
 cases j with
 | zero =>
  simp only [List.getElem?_cons_zero,Option.some.injEq] at hq
  subst hq
  simpa using hp
 | succ j =>
  simp only [List.getElem?_cons_succ] at hq
  have h1:=h.2 j q hq
  simpa [Nat.mul_one] using h1
theorem Reps.front {α:Type} {R:α→List Value→Prop} {size:Nat} {ps:List α} {cs c all:List Value} {p:α} (hp:R p c) (hc:c.length=size) (h:Reps R size ps cs) (ha:c ++ cs=all):Reps R size (p :: ps) all:=by
 subst ha
 refine ⟨by rw [List.length_append,hc,h.1,List.length_cons,Nat.succ_mul,Nat.add_comm],fun j q hq=>?_⟩
 cases j with
 | zero =>
  simp only [List.getElem?_cons_zero,Option.some.injEq] at hq
  subst hq
  rw [Nat.zero_mul,List.drop_zero,List.take_append_of_le_length (by omega),List.take_of_length_le (by omega)]
  exact hp
 | succ j =>
  simp only [List.getElem?_cons_succ] at hq
  have h1:=h.2 j q hq
  rw [Nat.succ_mul,List.drop_append,List.drop_of_length_le (by rw [hc];exact Nat.le_add_left _ _),List.nil_append,hc,Nat.add_sub_cancel]
  exact h1
theorem Reps.c2 {α:Type} {R:α→List Value→Prop} {ps:List α} {cs:List Value} {p:α} {va vb:Value} (hp:R p [va,vb]) (h:Reps R 2 ps cs):Reps R 2 (p :: ps) (va :: vb :: cs):=Reps.front hp rfl h rfl
theorem Reps.c3 {α:Type} {R:α→List Value→Prop} {ps:List α} {cs:List Value} {p:α} {va vb vc:Value} (hp:R p [va,vb,vc]) (h:Reps R 3 ps cs):Reps R 3 (p :: ps) (va :: vb :: vc :: cs):=Reps.front hp rfl h rfl
theorem Reps.c4 {α:Type} {R:α→List Value→Prop} {ps:List α} {cs:List Value} {p:α} {va vb vc vd:Value} (hp:R p [va,vb,vc,vd]) (h:Reps R 4 ps cs):Reps R 4 (p :: ps) (va :: vb :: vc :: vd :: cs):=Reps.front hp rfl h rfl
theorem Reps.c5 {α:Type} {R:α→List Value→Prop} {ps:List α} {cs:List Value} {p:α} {va vb vc vd ve:Value} (hp:R p [va,vb,vc,vd,ve]) (h:Reps R 5 ps cs):Reps R 5 (p :: ps) (va :: vb :: vc :: vd :: ve :: cs):=Reps.front hp rfl h rfl
theorem Reps.c6 {α:Type} {R:α→List Value→Prop} {ps:List α} {cs:List Value} {p:α} {va vb vc vd ve vf:Value} (hp:R p [va,vb,vc,vd,ve,vf]) (h:Reps R 6 ps cs):Reps R 6 (p :: ps) (va :: vb :: vc :: vd :: ve :: vf :: cs):=Reps.front hp rfl h rfl
theorem Reps.c7 {α:Type} {R:α→List Value→Prop} {ps:List α} {cs:List Value} {p:α} {va vb vc vd ve vf vg:Value} (hp:R p [va,vb,vc,vd,ve,vf,vg]) (h:Reps R 7 ps cs):Reps R 7 (p :: ps) (va :: vb :: vc :: vd :: ve :: vf :: vg :: cs):=Reps.front hp rfl h rfl
theorem Reps.c8 {α:Type} {R:α→List Value→Prop} {ps:List α} {cs:List Value} {p:α} {va vb vc vd ve vf vg vh:Value} (hp:R p [va,vb,vc,vd,ve,vf,vg,vh]) (h:Reps R 8 ps cs):Reps R 8 (p :: ps) (va :: vb :: vc :: vd :: ve :: vf :: vg :: vh :: cs):=Reps.front hp rfl h rfl
theorem Reps.c9 {α:Type} {R:α→List Value→Prop} {ps:List α} {cs:List Value} {p:α} {va vb vc vd ve vf vg vh vi:Value} (hp:R p [va,vb,vc,vd,ve,vf,vg,vh,vi]) (h:Reps R 9 ps cs):Reps R 9 (p :: ps) (va :: vb :: vc :: vd :: ve :: vf :: vg :: vh :: vi :: cs):=Reps.front hp rfl h rfl
theorem Reps.c10 {α:Type} {R:α→List Value→Prop} {ps:List α} {cs:List Value} {p:α} {va vb vc vd ve vf vg vh vi vj:Value} (hp:R p [va,vb,vc,vd,ve,vf,vg,vh,vi,vj]) (h:Reps R 10 ps cs):Reps R 10 (p :: ps) (va :: vb :: vc :: vd :: ve :: vf :: vg :: vh :: vi :: vj :: cs):=Reps.front hp rfl h rfl
end Go.Proofs.YtogamkblkoobkaaW.PrintWords
end
section
namespace Go.Proofs.YtogamkblkoobkaaW.PrintLast
section
variable {P:Program} {ops:Array Oper} {Q:Exit→Act→World→Prop} {md:Region.Mode} {T:Bool × List (List Nat × List Nat)} {B:List Nat} {O:List Nat} {b:Nat→Bool} {i j n:Nat}
end
end Go.Proofs.YtogamkblkoobkaaW.PrintLast
end
section
namespace Go.Proofs.YtogamkblkoobkaaW.PrintWords
open Go.RowKit
end Go.Proofs.YtogamkblkoobkaaW.PrintWords
namespace Go.Proofs.YtogamkblkoobkaaW.PrintLast
section
variable {ops:Array Oper} {a:Act} {o og:Oper} {g:Nat} {t:Tmp} {u:Bool}
end
end Go.Proofs.YtogamkblkoobkaaW.PrintLast
end
section
namespace Go.Proofs.YtogamkblkoobkaaW.PrintWords
open Go.RowKit
section
variable {P:Program} {ops:Array Oper} {rest:List Oper} {o:Oper} {a:Act} {Q:Exit→Act→World→Prop} {W:World}
theorem gate_guard (hw:Region.wanted o (yielded ops a.tmps)=true) (h:wpList P ops Q ({ o with guard:=none } :: rest) a W):wpList P ops Q (o :: rest) a W:=by
 have h1:Region.wanted { o with guard:=none } (yielded ops a.tmps)=true:=rfl
 unfold wpList at h ⊢
 rw [if_pos h1] at h
 rw [if_pos hw]
 exact h
end
end Go.Proofs.YtogamkblkoobkaaW.PrintWords
end
section
namespace Go.Proofs.Ytogamkblkoobkaa.P
open Go.RowKit Go.Proofs.YtogamkblkoobkaaW.PrintWords Go.Proofs.YtogamkblkoobkaaW.PrintLast Go.Proofs.YtogamkblkoobkaaW.PrintMore
attribute [local go_sem] max2_int min2_int max_two min_two max_three min_three max_four min_four
def errW:Option Int→Value
 | none=>.nilIface
 | some c=>.iface 0 (.int .i64 c)
theorem errW_none:errW none = .nilIface:=rfl
theorem errW_some (c:Int):errW (some c) = .iface 0 (.int .i64 c):=rfl
theorem info3:(Try.prog.info? 3).map (fun i=>(i.zero,i.size,i.bytes))=some (some (.int .i64 0),1,8):=by kernel_rfl
theorem info4:(Try.prog.info? 4).map (fun i=>(i.zero,i.size,i.bytes))=some (some (.bool false),1,1):=by kernel_rfl
theorem info9:(Try.prog.info? 9).map (fun i=>(i.zero,i.size,i.bytes))=some (some (.string ⟨#[]⟩),1,16):=by kernel_rfl
theorem info67:(Try.prog.info? 67).map (fun i=>(i.zero,i.size,i.bytes))=some (some (.slice none 0 0),1,24):=by kernel_rfl
def rd_L1 (xs:List (List Int)) (i:Int):(List Int):=xs.getD i.toNat ([]:List Int)
theorem at_L1 {w:World} {A:Option Addr} {n:Nat} {xs:List (List Int)} (h:Kd.C (Kd.slice 3 (Kd.int .i64)) w A n xs) (i:Int) (h0:0≤i) (h1:i<n):∃ ad A0 c0,A=some ad∧w.cell? (ad.add i.toNat)=some (.slice A0 (rd_L1 xs i).length c0)∧(rd_L1 xs i).length≤c0∧(Kd.int .i64).C w A0 (rd_L1 xs i).length (rd_L1 xs i):=by
 obtain ⟨ad,c,e,_,hK,hc0⟩:=Kd.C_get h ([]:List Int) i h0 h1
 have hc:∀ j u,c[j]? = some u→w.cell? (ad.add (i.toNat * 1+j))=some u:=hc0
 obtain ⟨A0,c0,rfl,l0,g0⟩:=hK
 exact ⟨ad,A0,c0,e,by have hq:=hc 0 _ rfl;rwa [Nat.mul_one,Nat.add_zero] at hq,l0,g0⟩
structure S78 where
 f0:Int
 f1:(List Int)
 f2:Bool
def z78:S78:=⟨(0:Int),([]:List Int),false⟩
def k78:Kd S78:=Kd.iso (Kd.pair (Kd.int .i64) (Kd.pair (Kd.slice 3 (Kd.int .i64)) Kd.bool)) (fun x:S78=>(x.f0,x.f1,x.f2))
theorem k78_open {w:World} {x:S78} {cs:List Value} (h:k78.K w x cs):∃ A1 c1,cs = [.int .i64 x.f0,.slice A1 x.f1.length c1,.bool x.f2]∧x.f1.length≤c1∧(Kd.int .i64).C w A1 x.f1.length x.f1:=by
 obtain ⟨_,_,rfl,rfl,⟨_,_,rfl,⟨A1,c1,rfl,l1,g1⟩,rfl⟩⟩:=h
 exact ⟨A1,c1,rfl,l1,g1⟩
theorem k78_mk (w:World) (x:S78) {A1:Option Addr} {c1:Nat} (l1:x.f1.length≤c1) (g1:(Kd.int .i64).C w A1 x.f1.length x.f1):k78.K w x [.int .i64 x.f0,.slice A1 x.f1.length c1,.bool x.f2]:=⟨[.int .i64 x.f0],[.slice A1 x.f1.length c1,.bool x.f2],rfl,rfl,⟨[.slice A1 x.f1.length c1],[.bool x.f2],rfl,⟨A1,c1,rfl,l1,g1⟩,rfl⟩⟩
theorem k78_mkM (w:World) (base:Nat) (ok:Nat→Prop) (x:S78) {v1:Value} (g1:(Kd.int .i64).R 3 w base ok v1 x.f1):k78.M w base ok x [.int .i64 x.f0,v1,.bool x.f2]:=⟨[.int .i64 x.f0],[v1,.bool x.f2],rfl,rfl,⟨[v1],[.bool x.f2],rfl,⟨v1,rfl,g1⟩,rfl⟩⟩
def rd_T78 (xs:List S78) (i:Int):S78:=xs.getD i.toNat z78
theorem at_T78 {w:World} {A:Option Addr} {n:Nat} {xs:List S78} (h:Kd.C k78 w A n xs) (i:Int) (h0:0≤i) (h1:i<n):∃ ad A1 c1,A=some ad∧w.cell? (ad.add (i.toNat * 3))=some (.int .i64 (rd_T78 xs i).f0)∧w.cell? ⟨(ad.add (i.toNat * 3)).block,(ad.add (i.toNat * 3)).off+1,none⟩=some (.slice A1 (rd_T78 xs i).f1.length c1)∧w.cell? ⟨(ad.add (i.toNat * 3)).block,(ad.add (i.toNat * 3)).off+2,none⟩=some (.bool (rd_T78 xs i).f2)∧(rd_T78 xs i).f1.length≤c1∧(Kd.int .i64).C w A1 (rd_T78 xs i).f1.length (rd_T78 xs i).f1:=by
 obtain ⟨ad,c,e,_,hK,hc0⟩:=Kd.C_get h z78 i h0 h1
 have hc:∀ j u,c[j]? = some u→w.cell? (ad.add (i.toNat * 3+j))=some u:=hc0
 obtain ⟨A1,c1,rfl,l1,g1⟩:=k78_open hK
 exact ⟨ad,A1,c1,e,hc 0 _ rfl,by rw [← add_field _ _ 1 (by omega)];exact hc 1 _ rfl,by rw [← add_field _ _ 2 (by omega)];exact hc 2 _ rfl,l1,g1⟩
end Go.Proofs.Ytogamkblkoobkaa.P
end
section
namespace Go.Proofs.Ytogamkblkoobkaa.Pl
open Go.RowKit Go.Proofs.YtogamkblkoobkaaW.PrintWords Go.Proofs.YtogamkblkoobkaaW.PrintLast Go.Proofs.YtogamkblkoobkaaW.PrintMore
theorem next {α:Type} {g:Nat→Option α} {r:α} (h:Ev (fun k=>g (k+1)) r):Ev g r:=by
 obtain ⟨K,hK⟩:=h
 refine ⟨K+1,fun k hk=>?_⟩
 obtain ⟨m,rfl⟩:∃ m,k=m+1:=⟨k - 1,by omega⟩
 exact hK m (by omega)
theorem ev_some {α:Type} {a b:α} (h:a=b):Ev (fun _=>some a) b:=by subst h;exact Ev.now a
theorem ev_eq {α:Type} {g:Nat→Option α} {a b:α} (h:Ev g a) (e:a=b):Ev g b:=e ▸ h
theorem w64 {x:Int} (h0 : -9223372036854775808≤x) (h1:x≤9223372036854775807):wrap64 x=x:=by
 unfold wrap64
 omega
theorem up1 {i:Nat} (h:i<9223372036854775807):wrap64 ((i:Int)+1)=((i+1:Nat):Int):=by
 rw [w64 (by omega) (by omega)]
 omega
theorem rd_get (xs:List Int) (i:Nat) (h:i<xs.length):rd xs i=xs[i]:=by
 simp [rd,List.getD_eq_getElem?_getD,h]
theorem rdOf_get {α:Type} (z:α) (xs:List α) (i:Nat) (h:i<xs.length):rdOf z xs i=xs[i]:=by
 simp [rdOf,List.getD_eq_getElem?_getD,h]
theorem len_bytes (s:ByteArray):(bytesOf s).length=s.size:=by
 simp only [bytesOf,List.length_map]
 exact Array.length_toList
theorem bt_get (s:ByteArray) (i:Nat) (h:i<s.size):bt s i=(bytesOf s)[i]'(by rw [len_bytes];exact h):=by
 simp only [bt,Int.toNat_natCast,h,dif_pos,bytesOf,List.getElem_map,Array.getElem_toList]
 rfl
theorem drop_cons (s:ByteArray) (i:Nat) (h:i<s.size):(bytesOf s).drop i=bt s i :: (bytesOf s).drop (i+1):=by
 rw [List.drop_eq_getElem_cons (by rw [len_bytes];exact h),bt_get s i h]
theorem drop_end (s:ByteArray) (i:Nat) (h:s.size≤i):(bytesOf s).drop i = []:=List.drop_eq_nil_of_le (by rw [len_bytes];exact h)
theorem bytes_extract (s:ByteArray) (a b:Nat):bytesOf (s.extract a b)=((bytesOf s).take b).drop a:=by
 simp only [bytesOf,ByteArray.data_extract,Array.toList_extract,List.extract_eq_take_drop,List.map_take,List.map_drop,List.drop_take]
end Go.Proofs.Ytogamkblkoobkaa.Pl
end
section
namespace Go.Proofs.Ytogamkblkoobkaa.Mp
open Go.RowKit Go.Maps Go.Proofs.YtogamkblkoobkaaW.PrintWords Go.Proofs.YtogamkblkoobkaaW.PrintLast Go.Proofs.YtogamkblkoobkaaW.PrintMore
structure MapTy (P:Program) (t k e:TypeId) (q:IntKind) {α:Type} (enc:α→Value) (ok:α→Prop):Prop where
 K:Keyed P k
 ht:P.underlying t=some (.map k e)
 he:P.underlying e=some (.int q)
 hz:∀ w,(zeroValue e).run P w = .ok (.int q 0) w
 key:∀ x,ok x→∃ l,keyOf P k (enc x)=some l
 inj:∀ x y,enc x=enc y→x=y
def MapIs (P:Program) (k e:TypeId) (q:IntKind) {α:Type} (enc:α→Value) (ok:α→Prop) (w:World) (b:Nat) (m:α→Option Int) (c:Nat):Prop:=
 ∃ D:DataW Unit,w.ownsMap P k (plainElem P e) b c D∧Maps.size D=c∧∀ x l,ok x→keyOf P k (enc x)=some l→Maps.has D l=(m x).isSome∧∀ v,m x=some v→∀ z,D.atKey l z = .lit (.int q v)
section
variable {P:Program} {t k e:TypeId} {q:IntKind} {α:Type} {enc:α→Value} {ok:α→Prop} {w w':World} {b c:Nat} {m:α→Option Int}
theorem MapIs.lt (h:MapIs P k e q enc ok w b m c):b<w.heap.size:=by
 obtain ⟨D,ho,_⟩:=h
 exact ho.lt
theorem MapIs.kept {row:Option Nat} (h:MapIs P k e q enc ok w b m c) (hg:w.grownBy w' row) (hne:some b ≠ row):MapIs P k e q enc ok w' b m c:=by
 obtain ⟨D,ho,hs⟩:=h
 exact ⟨D,ho.kept hg hne,hs⟩
theorem grown_below (hb:Below w.heap.size w w'):w.grownBy w' none:=⟨hb.os,hb.tape,hb.output,hb.size,fun i hi _=>hb.block i hi⟩
theorem MapIs.below (h:MapIs P k e q enc ok w b m c) (hb:Below w.heap.size w w'):MapIs P k e q enc ok w' b m c:=h.kept (grown_below hb) (by simp)
theorem MapIs.made (w:World):MapIs P k e q enc ok (w.alloc (.map #[] 0)) w.heap.size (fun _=>none) 0:=
 ⟨.map [],World.ownsMap_made _ _ _ _,rfl,fun x l _ _=>⟨rfl,fun v h=>by cases h⟩⟩
theorem MapIs.not_row (h:MapIs P k e q enc ok w b m c) {v:Value} {e':TypeId} (hty:∀ g,v.ownBlock=some g→∃ cells,w.heap[g]? = some (.cells cells e' (0,0))):some b ≠ v.ownBlock:=by
 intro he
 obtain ⟨D,⟨es,clock,hb,_⟩,_⟩:=h
 obtain ⟨cells,hc⟩:=hty b he.symm
 rw [hb] at hc
 cases hc
theorem R_over_map {β:Type} {d:Kd β} {e' base:Nat} {okk:Nat→Prop} {v:Value} {xs:List β} (h:d.R e' w base okk v xs) (hM:MapIs P k e q enc ok w b m c) (hg:w.grownBy w' (some b)):d.R e' w' base okk v xs:=by
 refine Kd.R_mono (Kd.R_move (Kd.R_bound h) (fun k hk=>hg.block k hk.2.2.1 (fun he=>?_))) (fun _ hk=>hk.1)
 obtain ⟨_,_,_,q,hq,cells,hc⟩:=hk
 obtain ⟨D,⟨es,clock,hb,_⟩,_⟩:=hM
 injection he with he
 subst he
 rw [hb] at hc
 cases hc
theorem below_map {w0:World} (h:Below w0.heap.size w0 w) (hg:w.grownBy w' (some b)) (hb:w0.heap.size≤b):Below w0.heap.size w0 w':=h.grown hg h.size (fun k hk=>by injection hk with hk;omega)
theorem put_new (T:MapTy P t k e q enc ok) (x:α) (hx:ok x) {l:Lit} (hl:keyOf P k (enc x)=some l) (v:Int) {D:DataW Unit} (h:w.ownsMap P k (plainElem P e) b c D) (hs:Maps.size D=c)
  (hm:∀ x l,ok x→keyOf P k (enc x)=some l→Maps.has D l=(m x).isSome∧∀ v,m x=some v→∀ z,D.atKey l z = .lit (.int q v)) :
  Maps.size (D.put l (.lit (.int q v)))=(if (m x).isSome then c else c+1) ∧
  ∀ y l',ok y→keyOf P k (enc y)=some l'→Maps.has (D.put l (.lit (.int q v))) l' = (open Classical in if y=x then some v else m y).isSome∧∀ u,(open Classical in if y=x then some v else m y)=some u→∀ z,(D.put l (.lit (.int q v))).atKey l' z = .lit (.int q u):=by
 refine ⟨?_,fun y l' hy hl'=>?_⟩
 ·rw [size_put (h.tidy T.K),hs,(hm x l hx hl).1]
 ·by_cases hyx:y=x
  ·subst hyx
   obtain rfl:l' = l:=Option.some.inj (hl'.symm.trans hl)
   rw [if_pos rfl]
   refine ⟨has_put_same h.isMap (T.K.key hl) _,fun u hu z=>?_⟩
   obtain rfl:=Option.some.inj hu
   exact atKey_put_same h.isMap (T.K.key hl) _ _
  ·rw [if_neg hyx]
   have hne:l' ≠ l:=fun e1=>hyx (T.inj _ _ (T.K.inj (hl'.trans (congrArg some e1)) hl))
   refine ⟨(has_put_other hne _).trans (hm y l' hy hl').1,fun u hu z=>?_⟩
   rw [atKey_put_other hne]
   exact (hm y l' hy hl').2 u hu z
open Classical in
noncomputable def upd (m:α→Option Int) (x:α) (v:Int):α→Option Int:=fun y=>if y=x then some v else m y
theorem MapIs.run (T:MapTy P t k e q enc ok) (h:MapIs P k e q enc ok w b m c) (hn:c<maxLen) (x:α) (hx:ok x) (v:Int) (hv:(Lit.int q v).wf=true) :
  ∃ w',(Instr.mapUpdate t (.map (some b)) (enc x) (.int q v)).run P w = .ok () w'∧MapIs P k e q enc ok w' b (upd m x v) (if (m x).isSome then c else c+1)∧w.grownBy w' (some b):=by
 obtain ⟨l,hl⟩:=T.key x hx
 obtain ⟨D,ho,hs,hm⟩:=h
 obtain ⟨w',hrun,ho',hg⟩:=ho.update T.K T.ht hn hl (plainElem_int T.he hv)
 obtain ⟨h1,h2⟩:=put_new T x hx hl v ho hs hm
 refine ⟨w',hrun,⟨_,?_,h1,h2⟩,hg⟩
 obtain ⟨es,clock,hb,F,hsz,hD⟩:=ho'
 refine ⟨es,clock,hb,F,?_,hD⟩
 rw [← h1,hD,size_eq,length_sorted]
 simp
variable {ops:Array Oper} {rest:List Oper} {o:Oper} {a:Act} {Q:Exit→Act→World→Prop}
theorem wp_update (T:MapTy P t k e q enc ok) (hg:o.guard=none) (mm xx vv:Operand) (hop:o.op=Op.mapUpdate t mm xx vv) (b c:Nat) (m:α→Option Int) (h:MapIs P k e q enc ok w b m c) (hn:c<maxLen)
  (hm:a.eval mm = .map (some b)) (x:α) (hx:a.eval xx=enc x) (hk:ok x) (v:Int) (hv:a.eval vv = .int q v) (hw:(Lit.int q v).wf=true)
  (hK:∀ w',MapIs P k e q enc ok w' b (upd m x v) (if (m x).isSome then c else c+1)→w.grownBy w' (some b)→wpList P ops Q rest (a.put o.dst undef) w') :
  wpList P ops Q (o :: rest) a w:=by
 refine wpList_plain hg fun K' hK'=>?_
 obtain ⟨w',hrun,r1,r2⟩:=h.run T hn x hk v hw
 unfold Oper.wp
 simp [execOp,hop,hm,hx,hv,hrun,Result.andThen]
 exact hK' _ _ (hK w' r1 r2)
theorem wp_insert (T:MapTy P t k e q enc ok) (hg:o.guard=none) (mm xx vv:Operand) (hop:o.op=Op.insert t mm xx vv) (b c:Nat) (m:α→Option Int) (h:MapIs P k e q enc ok w b m c) (hn:c<maxLen)
  (hm:a.eval mm = .map (some b)) (x:α) (hx:a.eval xx=enc x) (hk:ok x) (v:Int) (hv:a.eval vv = .int q v) (hw:(Lit.int q v).wf=true)
  (hK:∀ w',MapIs P k e q enc ok w' b (upd m x v) (if (m x).isSome then c else c+1)→w.grownBy w' (some b)→wpList P ops Q rest (a.put o.dst undef) w') :
  wpList P ops Q (o :: rest) a w:=by
 refine wpList_plain hg fun K' hK'=>?_
 obtain ⟨w',hrun,r1,r2⟩:=h.run T hn x hk v hw
 unfold Oper.wp
 simp [execOp,hop,hm,hx,hv,hrun,Result.andThen]
 exact hK' _ _ (hK w' r1 r2)
theorem wp_make (hg:o.guard=none) (hop:o.op=Op.makeMap t none)
  (hK:∀ w',MapIs P k e q enc ok w' w.heap.size (fun _=>none) 0→Below w.heap.size w w'→wpList P ops Q rest (a.put o.dst (.map (some w.heap.size))) w') :
  wpList P ops Q (o :: rest) a w:=by
 refine wpList_plain hg fun K' hK'=>?_
 unfold Oper.wp
 simp [execOp,hop,run_makeMap,Result.andThen]
 exact hK' _ _ (hK _ (MapIs.made w) ((Below.refl _ _).alloc (Nat.le_refl _) _))
theorem wp_look_ok (T:MapTy P t k e q enc ok) (hg:o.guard=none) (mm xx:Operand) (hop:o.op=Op.lookup t mm xx true) (b c:Nat) (m:α→Option Int) (h:MapIs P k e q enc ok w b m c)
  (hm:a.eval mm = .map (some b)) (x:α) (hx:a.eval xx=enc x) (hk:ok x)
  (hK:wpList P ops Q rest (a.put o.dst (.tuple #[.int q ((m x).getD 0),.bool (m x).isSome])) w):wpList P ops Q (o :: rest) a w:=by
 obtain ⟨l,hl⟩:=T.key x hk
 obtain ⟨D,ho,hs,hD⟩:=h
 refine wpList_lookup_own_ok_int w hg mm xx t hop k e q T.K T.ht T.he (T.hz w) b c D hm ho _ l hx hl (fun v hat hw=>?_)
 obtain ⟨h1,h2⟩:=hD x l hk hl
 rw [h1]
 cases hmx:m x with
 | none =>
  rw [hmx] at h1
  rw [atKey_of_not_has h1] at hat
  injection hat with hat
  injection hat with _ hat
  subst hat
  rw [hmx] at hK
  exact hK
 | some u =>
  rw [h2 u hmx] at hat
  injection hat with hat
  injection hat with _ hat
  subst hat
  rw [hmx] at hK
  exact hK
theorem wp_look (T:MapTy P t k e q enc ok) (hg:o.guard=none) (mm xx:Operand) (hop:o.op=Op.lookup t mm xx false) (b c:Nat) (m:α→Option Int) (h:MapIs P k e q enc ok w b m c)
  (hm:a.eval mm = .map (some b)) (x:α) (hx:a.eval xx=enc x) (hk:ok x)
  (hK:wpList P ops Q rest (a.put o.dst (.int q ((m x).getD 0))) w):wpList P ops Q (o :: rest) a w:=by
 obtain ⟨l,hl⟩:=T.key x hk
 obtain ⟨D,ho,hs,hD⟩:=h
 refine wpList_lookup_own_int w hg mm xx t hop k e q T.K T.ht T.he (T.hz w) b c D hm ho _ l hx hl (fun v hat hw=>?_)
 obtain ⟨h1,h2⟩:=hD x l hk hl
 cases hmx:m x with
 | none =>
  rw [hmx] at h1
  rw [atKey_of_not_has h1] at hat
  injection hat with hat
  injection hat with _ hat
  subst hat
  rw [hmx] at hK
  exact hK
 | some u =>
  rw [h2 u hmx] at hat
  injection hat with hat
  injection hat with _ hat
  subst hat
  rw [hmx] at hK
  exact hK
theorem wp_len (T:MapTy P t k e q enc ok) (hg:o.guard=none) (mm:Operand) (hop:o.op=Op.call { callee:=Callee.builtin Builtin.len,args:=#[mm],argTypes:=#[t] }) (b c:Nat) (m:α→Option Int) (h:MapIs P k e q enc ok w b m c)
  (hm:a.eval mm = .map (some b)) (hK:wpList P ops Q rest (a.put o.dst (.int .i64 c)) w):wpList P ops Q (o :: rest) a w:=by
 obtain ⟨D,ho,hs,hD⟩:=h
 refine wpList_len_own w hg mm t hop k e T.ht _ b c D hm ho ?_
 rw [hs]
 exact hK
end
theorem R_here {β:Type} (d:Kd β) (W:World) (base e:Nat) {xs:List β} {inner:List Value} {okp:Nat→Prop} (hrep:Reps (d.M W base okp) d.sz xs inner) (hbase:base≤W.heap.size) (hm:xs.length≤9223372036854775807) :
  d.R e (W.alloc (.cells inner.toArray e)) base (fun _=>True) (.slice (some ⟨W.heap.size,0,none⟩) xs.length xs.length) xs:=by
 refine ⟨fun k hk=>trivial,inner,?_,?_⟩
 ·have h2:=World.ownsRow_lit (base:=base) (e:=e) (size:=d.sz) W inner.toArray xs.length hbase (by simpa [maxLen] using hm) (by simpa using hrep.1)
  simpa using h2
 ·refine hrep.imp_ (fun p c hp=>d.M_mono (fun k hk=>⟨trivial,fun he=>?_⟩) (Kd.M_below (d.M_bound hp) (below_alloc (Below.refl _ _) _)))
  have h3:k=W.heap.size:=by simpa [Value.ownBlock] using he
  have:=hk.2.2.1
  omega
theorem int_ty (P:Program) {t k e:TypeId} {q q':IntKind} (ht:P.underlying t=some (.map k e)) (hk:P.underlying k=some (.int q')) (he:P.underlying e=some (.int q)) (hz:∀ w,(zeroValue e).run P w = .ok (.int q 0) w) :
  MapTy P t k e q (Value.int q') (fun x=>(Lit.int q' x).wf=true):=
 ⟨int_keyed hk,ht,he,hz,fun x hx=>⟨_,keyOf_int_mk hk hx⟩,fun x y h=>by injection h⟩
end Go.Proofs.Ytogamkblkoobkaa.Mp
end
section
namespace Go.Proofs.Ytogamkblkoobkaa.Bf
open Go.RowKit Go.Proofs.Ytogamkblkoobkaa.Pl Go.Proofs.Ytogamkblkoobkaa.Mp Go.Proofs.YtogamkblkoobkaaW.PrintWords Go.Proofs.YtogamkblkoobkaaW.PrintLast Go.Proofs.YtogamkblkoobkaaW.PrintMore
def pc (j:Nat):ByteArray:=(⟨#[97,98,99]⟩:ByteArray).extract j (j+1)
theorem size_pc (j:Nat) (h:j<3):(pc j).size=1:=by
 match j,h with
 | 0,_=>rfl
 | 1,_=>rfl
 | 2,_=>rfl
section
variable {α:Type} [DecidableEq α]
def idx (s:List α):α→Option Int:=fun y=>if y ∈ s then some (s.idxOf y:Int) else none
theorem idx_some {s:List α} {y:α}:(idx s y).isSome=decide (y ∈ s):=by unfold idx;split <;> simp_all
theorem idx_in {s:List α} {y:α} (h:y ∈ s):(idx s y).isSome=true:=by rw [idx_some];exact decide_eq_true h
theorem idx_out {s:List α} {y:α} (h:y ∉ s):(idx s y).isSome=false:=by rw [idx_some];exact decide_eq_false h
theorem idx_upd {s:List α} {y:α} (h:y ∉ s):upd (idx s) y (s.length:Int)=idx (s ++ [y]):=by
 funext z
 unfold upd idx
 by_cases hz:z=y
 ·subst hz
  rw [if_pos rfl,if_pos (by simp),List.idxOf_append,if_neg h]
  simp
 ·rw [if_neg hz]
  by_cases hm:z ∈ s
  ·rw [if_pos hm,if_pos (by simp [hm]),List.idxOf_append,if_pos hm]
  ·rw [if_neg hm,if_neg (by simp [hm,hz])]
theorem idx_one (x:α):upd (fun _=>none) x 0=idx [x]:=by
 funext z
 unfold upd idx
 by_cases hz:z=x
 ·subst hz;simp
 ·rw [if_neg hz,if_neg (by simp [hz])]
abbrev St (α:Type):=List α × List ByteArray
def put (y:α) (wd:ByteArray) (p:St α):St α:=if y ∈ p.1 then p else (p.1 ++ [y],p.2 ++ [wd])
end
section
variable {α:Type}
end
section
variable {α:Type} [DecidableEq α]
end
section
variable {α:Type} [DecidableEq α]
def exRow (nx:α→Nat→α) (most:Nat) (x:α):Nat→Nat→List α→List Int→Option (List α × List Int)
 | 0,_,L,row=>some (L,row)
 | d+1,j,L,row=>if nx x j ∈ L then exRow nx most x d (j+1) L (row ++ [(idx L (nx x j)).getD 0]) else if most<L.length+1 then none else exRow nx most x d (j+1) (L ++ [nx x j]) (row ++ [(L.length:Int)])
abbrev Ex (α:Type):=List α × List Bool × List (List Int)
def expl (acc:α→Bool) (nx:α→Nat→α) (most:Nat):Nat→Ex α→Nat→Option (Ex α)
 | 0,p,_=>some p
 | d+1,p,i=>if h:i<p.1.length then (exRow nx most p.1[i] 3 0 p.1 []).bind (fun q=>expl acc nx most d (q.1,p.2.1 ++ [acc p.1[i]],p.2.2 ++ [q.2]) (i+1)) else some p
end
end Go.Proofs.Ytogamkblkoobkaa.Bf
end
section
namespace Go.Proofs.Ytogamkblkoobkaa.Lg
theorem nodup_len {α:Type} [DecidableEq α]:∀ (s t:List α),s.Nodup→(∀ x ∈ s,x ∈ t)→s.length≤t.length
 | [],t,_,_=>Nat.zero_le _
 | a :: s,t,hn,hs=>by
  rw [List.nodup_cons] at hn
  have hm:=hs a List.mem_cons_self
  have h1:=nodup_len s (t.erase a) hn.2 (fun x hx=>by
   have hne:x ≠ a:=by rintro rfl;exact hn.1 hx
   exact (List.mem_erase_of_ne hne).mpr (hs x (List.mem_cons_of_mem _ hx)))
  rw [List.length_erase_of_mem hm] at h1
  have:=List.length_pos_of_mem hm
  simp only [List.length_cons]
  omega
section
variable {α:Type} [DecidableEq α]
def add (L:List α) (y:α):List α:=if y ∈ L then L else L ++ [y]
def adds (L ys:List α):List α:=ys.foldl add L
inductive Runs (succ:α→List α):List α→Nat→List α→Prop
 | stop {L:List α} {i:Nat} (h:L.length≤i):Runs succ L i L
 | step {L R:List α} {i:Nat} (h:i<L.length) (hr:Runs succ (adds L (succ L[i])) (i+1) R):Runs succ L i R
theorem mem_add {L:List α} {y z:α}:z ∈ add L y↔z ∈ L∨z=y:=by
 unfold add
 split
 ·rename_i h
  constructor
  ·exact Or.inl
  ·rintro (q | rfl)
   ·exact q
   ·exact h
 ·simp
theorem mem_adds {ys:List α}:∀ {L:List α} {z:α},z ∈ adds L ys↔z ∈ L∨z ∈ ys:=by
 induction ys with
 | nil=>intro L z;simp [adds]
 | cons y ys ih =>
  intro L z
  show z ∈ adds (add L y) ys↔_
  rw [ih,mem_add]
  simp only [List.mem_cons]
  constructor
  ·rintro ((h | h) | h) <;> simp [h]
  ·rintro (h | h | h) <;> simp [h]
theorem adds_nil (L:List α):adds L []=L:=rfl
theorem adds_cons (L:List α) (y:α) (ys:List α):adds L (y :: ys)=adds (add L y) ys:=rfl
theorem adds_append (L ys zs:List α):adds L (ys ++ zs)=adds (adds L ys) zs:=by simp [adds,List.foldl_append]
theorem add_in {L:List α} {y:α} (h:y ∈ L):add L y=L:=by unfold add;rw [if_pos h]
theorem add_out {L:List α} {y:α} (h:y ∉ L):add L y=L ++ [y]:=by unfold add;rw [if_neg h]
theorem adds_in {ys:List α}:∀ {L:List α},(∀ y ∈ ys,y ∈ L)→adds L ys=L:=by
 induction ys with
 | nil=>intro L _;rfl
 | cons y ys ih =>
  intro L h
  rw [adds_cons,add_in (h y List.mem_cons_self)]
  exact ih fun z hz=>h z (List.mem_cons_of_mem _ hz)
theorem add_pre (L:List α) (y:α):L <+: add L y:=by
 unfold add
 split
 ·exact List.prefix_refl _
 ·exact List.prefix_append _ _
theorem adds_pre (ys:List α):∀ L:List α,L <+: adds L ys:=by
 induction ys with
 | nil=>intro L;exact List.prefix_refl _
 | cons y ys ih=>intro L;exact (add_pre L y).trans (ih _)
theorem nodup_add {L:List α} (h:L.Nodup) (y:α):(add L y).Nodup:=by
 unfold add
 split
 ·exact h
 ·rename_i hn
  rw [List.nodup_append]
  refine ⟨h,by simp,?_⟩
  rintro a ha b hb rfl
  rw [List.mem_singleton] at hb
  subst hb
  exact hn ha
theorem nodup_adds (ys:List α):∀ {L:List α},L.Nodup→(adds L ys).Nodup:=by
 induction ys with
 | nil=>intro L h;exact h
 | cons y ys ih=>intro L h;exact ih (nodup_add h y)
theorem Runs.det {succ:α→List α} {L R R':List α} {i:Nat} (h:Runs succ L i R) (h':Runs succ L i R'):R=R':=by
 induction h with
 | stop h =>
  cases h' with
  | stop _=>rfl
  | step h2 _=>omega
 | step h _ ih =>
  cases h' with
  | stop h2=>omega
  | step _ hr=>exact ih hr
theorem Runs.pre {succ:α→List α} {L R:List α} {i:Nat} (h:Runs succ L i R):L <+: R:=by
 induction h with
 | stop h=>exact List.prefix_refl _
 | step h _ ih=>exact (adds_pre _ _).trans ih
theorem Runs.nodup {succ:α→List α} {L R:List α} {i:Nat} (h:Runs succ L i R):L.Nodup→R.Nodup:=by
 induction h with
 | stop h=>exact id
 | step h _ ih=>exact fun hn=>ih (nodup_adds _ hn)
theorem Runs.all {succ:α→List α} {L R:List α} {i:Nat} (h:Runs succ L i R) {p:α→Prop} (hp:∀ x,p x→∀ y ∈ succ x,p y):(∀ x ∈ L,p x)→∀ x ∈ R,p x:=by
 induction h with
 | stop h=>exact id
 | step h _ ih =>
  refine fun ha=>ih fun x hx=>?_
  rcases mem_adds.mp hx with q | q
  ·exact ha x q
  ·exact hp _ (ha _ (List.getElem_mem h)) x q
theorem Runs.closed {succ:α→List α} {L R:List α} {i:Nat} (h:Runs succ L i R) (hc:∀ j (hj:j<L.length),j<i→∀ y ∈ succ L[j],y ∈ L):∀ x ∈ R,∀ y ∈ succ x,y ∈ R:=by
 induction h with
 | stop h =>
  intro x hx y hy
  obtain ⟨j,hj,rfl⟩:=List.mem_iff_getElem.mp hx
  exact hc j hj (by omega) y hy
 | @step L R i h _ ih =>
  refine ih fun j hj hji y hy=>?_
  have hpre:=adds_pre (succ L[i]) L
  by_cases hjl:j<L.length
  ·have e:(adds L (succ L[i]))[j]=L[j]:=(hpre.getElem hjl).symm
   rw [e] at hy
   by_cases hj2:j<i
   ·exact hpre.subset (hc j hjl hj2 y hy)
   ·obtain rfl:j=i:=by omega
    exact mem_adds.mpr (Or.inr hy)
  ·omega
theorem Runs.ends {succ:α→List α} {dom:α→Prop} {N:Nat} (hd:∀ x,dom x→∀ y ∈ succ x,dom y) (hcard:∀ s:List α,s.Nodup→(∀ x ∈ s,dom x)→s.length≤N):∀ (d:Nat) (L:List α) (i:Nat),L.Nodup→(∀ x ∈ L,dom x)→i≤L.length→N≤d+i→∃ R,Runs succ L i R
 | 0,L,i,hn,ha,hi,hd0=>⟨L,.stop (by have:=hcard L hn ha;omega)⟩
 | d+1,L,i,hn,ha,hi,hd0=>by
  by_cases h:i<L.length
  ·have ha2:∀ x ∈ adds L (succ L[i]),dom x:=fun x hx=>by
    rcases mem_adds.mp hx with q | q
    ·exact ha x q
    ·exact hd _ (ha _ (List.getElem_mem h)) x q
   obtain ⟨R,hR⟩:=Runs.ends hd hcard d (adds L (succ L[i])) (i+1) (nodup_adds _ hn) ha2 (by have:=(adds_pre (succ L[i]) L).length_le;omega) (by omega)
   exact ⟨R,.step h hR⟩
  ·exact ⟨L,.stop (by omega)⟩
end
section
variable {α β:Type} [DecidableEq α] [DecidableEq β]
def dd (l:List β):List β:=adds [] l
theorem dd_snoc (l:List β) (y:β):dd (l ++ [y])=add (dd l) y:=by unfold dd;rw [adds_append];rfl
theorem mem_dd {l:List β} {y:β}:y ∈ dd l↔y ∈ l:=by unfold dd;rw [mem_adds];simp
theorem dd_append (l m:List β):dd (l ++ m)=adds (dd l) m:=adds_append _ _ _
theorem dd_nodup (l:List β):(dd l).Nodup:=nodup_adds _ (by simp)
theorem dd_id {l:List β} (h:l.Nodup):dd l=l:=by
 suffices H:∀ (m k:List β),(k ++ m).Nodup→adds k m=k ++ m from H l [] (by simpa using h)
 intro m
 induction m with
 | nil=>intro k _;simp [adds_nil]
 | cons y m ih =>
  intro k hk
  have hny:y ∉ k:=by
   intro hm
   rw [List.nodup_append] at hk
   exact hk.2.2 y hm y List.mem_cons_self rfl
  rw [adds_cons,add_out hny,ih]
  ·simp
  ·simpa using hk
theorem dd_adds (f:α→β) (xs:List α):∀ L:List α,dd ((adds L xs).map f)=adds (dd (L.map f)) (xs.map f):=by
 induction xs with
 | nil=>intro L;rfl
 | cons x xs ih =>
  intro L
  rw [adds_cons,ih,List.map_cons,adds_cons]
  congr 1
  by_cases h:x ∈ L
  ·rw [add_in h,add_in (mem_dd.mpr (List.mem_map_of_mem h))]
  ·rw [add_out h,List.map_append,List.map_singleton,dd_snoc]
theorem Runs.map {succ:α→List α} {succ':β→List β} {f:α→β} {dom:α→Prop} (hd:∀ x,dom x→∀ y ∈ succ x,dom y) (hf:∀ x,dom x→(succ x).map f=succ' (f x)) {L R:List α} {i:Nat} (h:Runs succ L i R)
  (hall:∀ x ∈ L,dom x) (hi:i≤L.length) (hc:∀ j (hj:j<L.length),j<i→∀ y ∈ succ L[j],y ∈ L):Runs succ' (dd (L.map f)) (dd ((L.take i).map f)).length (dd (R.map f)):=by
 induction h with
 | @stop L i h =>
  have e:L.take i=L:=List.take_of_length_le h
  rw [e]
  exact .stop (Nat.le_refl _)
 | @step L R i h hr ih =>
  have hpre:=adds_pre (succ L[i]) L
  have hdi:=hall _ (List.getElem_mem h)
  have ha2:∀ x ∈ adds L (succ L[i]),dom x:=fun x hx=>by
   rcases mem_adds.mp hx with q | q
   ·exact hall x q
   ·exact hd _ hdi x q
  have hc2:∀ j (hj:j<(adds L (succ L[i])).length),j<i+1→∀ y ∈ succ (adds L (succ L[i]))[j],y ∈ adds L (succ L[i]):=fun j hj hji y hy=>by
   have hjl:j<L.length:=by omega
   have e:(adds L (succ L[i]))[j]=L[j]:=(hpre.getElem hjl).symm
   rw [e] at hy
   by_cases hj2:j<i
   ·exact hpre.subset (hc j hjl hj2 y hy)
   ·obtain rfl:j=i:=by omega
    exact mem_adds.mpr (Or.inr hy)
  have IH:=ih ha2 (by have:=hpre.length_le;omega) hc2
  rw [dd_adds,hf _ hdi] at IH
  have et:(adds L (succ L[i])).take (i+1)=L.take i ++ [L[i]]:=by
   obtain ⟨t,ht⟩:=hpre
   have h2:(adds L (succ L[i])).take (i+1)=L.take (i+1):=by rw [← ht,List.take_append_of_le_length (by omega)]
   rw [h2,List.take_succ_eq_append_getElem h]
  rw [et,List.map_append,List.map_singleton,dd_snoc] at IH
  have hpm:dd ((L.take i).map f ++ [f L[i]]) <+: dd (L.map f):=by
   have e2:L.map f=((L.take i).map f ++ [f L[i]]) ++ (L.drop (i+1)).map f:=by
    rw [← List.map_singleton,← List.map_append,← List.map_append,← List.take_succ_eq_append_getElem h,List.take_append_drop]
   have h3:=adds_pre ((L.drop (i+1)).map f) (dd ((L.take i).map f ++ [f L[i]]))
   rw [← dd_append,← e2] at h3
   exact h3
  rw [dd_snoc] at hpm
  by_cases hm:f L[i] ∈ dd ((L.take i).map f)
  ·rw [add_in hm] at IH
   obtain ⟨x,hx,hxe⟩:=List.mem_map.mp (mem_dd.mp hm)
   obtain ⟨j,hj,rfl⟩:=List.mem_iff_getElem.mp hx
   have hj':j<i:=by simp only [List.length_take] at hj;omega
   have hjl:j<L.length:=by omega
   have eL:(L.take i)[j]=L[j]:=List.getElem_take
   have:adds (dd (L.map f)) (succ' (f L[i]))=dd (L.map f):=by
    refine adds_in fun y hy=>?_
    rw [← hxe,eL,← hf _ (hall _ (List.getElem_mem hjl))] at hy
    obtain ⟨z,hz,rfl⟩:=List.mem_map.mp hy
    exact mem_dd.mpr (List.mem_map_of_mem (hc j hjl hj' z hz))
   rw [this] at IH
   exact IH
  ·rw [add_out hm] at IH hpm
   have hlt:(dd ((L.take i).map f)).length<(dd (L.map f)).length:=by
    have:=hpm.length_le
    simp only [List.length_append,List.length_singleton] at this
    omega
   have eg:(dd (L.map f))[(dd ((L.take i).map f)).length]=f L[i]:=by
    rw [← hpm.getElem (by simp)]
    simp
   refine .step hlt ?_
   rw [eg]
   rw [List.length_append,List.length_singleton] at IH
   exact IH
theorem Runs.map0 {succ:α→List α} {succ':β→List β} {f:α→β} {dom:α→Prop} (hd:∀ x,dom x→∀ y ∈ succ x,dom y) (hf:∀ x,dom x→(succ x).map f=succ' (f x)) {x0:α} {R:List α} (h:Runs succ [x0] 0 R) (h0:dom x0):Runs succ' [f x0] 0 (dd (R.map f)):=by
 have:=h.map hd hf (fun x hx=>by rw [List.mem_singleton] at hx;subst hx;exact h0) (Nat.zero_le _) (fun j _ hj=>by omega)
 simpa [dd,adds,add] using this
end
end Go.Proofs.Ytogamkblkoobkaa.Lg
end
section
namespace Go.Proofs.Ytogamkblkoobkaa.Mn
open Go.RowKit Go.Proofs.Ytogamkblkoobkaa Go.Proofs.Ytogamkblkoobkaa.Lg Go.Proofs.Ytogamkblkoobkaa.Pl Go.Proofs.Ytogamkblkoobkaa.Mp Go.Proofs.Ytogamkblkoobkaa.Bf Go.Proofs.YtogamkblkoobkaaW.PrintWords Go.Proofs.YtogamkblkoobkaaW.PrintLast Go.Proofs.YtogamkblkoobkaaW.PrintMore
theorem set_mid {α:Type} (A:List α) (z y:α) (B:List α):(A ++ z :: B).set A.length y=A ++ [y] ++ B:=by
 induction A with
 | nil=>rfl
 | cons a A ih=>simp
def rowOf (l1:List (List Int)) (q:Int):List Int:=l1.getD q.toNat []
def ordF (l1:List (List Int)):Nat→List Int→Nat→List Int
 | 0,os,_=>os
 | d+1,os,i=>if h:i<os.length then ordF l1 d (adds os (rowOf l1 os[i])) (i+1) else os
def cls0 (l0:List Bool) (q:Int):Int:=if rdOf false l0 q=true then 1 else 0
def pl (os:List Int) (x:Int):Int:=(idx os x).getD 0
def pk (cl os row:List Int) (m j:Nat):Int:=if m<j then rd cl (pl os (rd row (m:Int))) else 0
abbrev K4:=Int × Int × Int × Int
def keyAt (l1:List (List Int)) (os cl:List Int) (i:Nat):K4:=
 (cl.getD i 0,rd cl (pl os (rd (rowOf l1 (os.getD i 0)) 0)),rd cl (pl os (rd (rowOf l1 (os.getD i 0)) 1)),rd cl (pl os (rd (rowOf l1 (os.getD i 0)) 2)))
def keys (l1:List (List Int)) (os cl:List Int):List K4:=(List.range os.length).map (keyAt l1 os cl)
def nmF {α:Type} [DecidableEq α]:List α→List α→List Int→List α × List Int
 | [],ks,out=>(ks,out)
 | k :: r,ks,out=>nmF r (add ks k) (out ++ [((add ks k).idxOf k:Int)])
def refF (l1:List (List Int)) (os:List Int):Nat→List Int→Nat→List Int
 | 0,cl,_=>cl
 | d+1,cl,c=>if (nmF (keys l1 os cl) [] []).1.length=c then (nmF (keys l1 os cl) [] []).2 else refF l1 os d (nmF (keys l1 os cl) [] []).2 (nmF (keys l1 os cl) [] []).1.length
def ldF:List Int→Nat→List Int→List Int→List Int × List Int
 | [],_,ns,ls=>(ns,ls)
 | c :: r,i,ns,ls=>if c ∈ ns then ldF r (i+1) ns ls else ldF r (i+1) (ns ++ [c]) (ls ++ [(i:Int)])
def outRow (l1:List (List Int)) (os cl ns:List Int) (i:Int):List Int:=(rowOf l1 (rd os i)).map fun x=>(idx ns (rd cl (pl os x))).getD 0
def outD (l0:List Bool) (l1:List (List Int)) (os cl:List Int):List Bool × List (List Int):=
 ((ldF cl 0 [] []).2.map (fun i=>rdOf false l0 (rd os i)),(ldF cl 0 [] []).2.map (outRow l1 os cl (ldF cl 0 [] []).1))
def minT (l0:List Bool) (l1:List (List Int)) (os:List Int):List Bool × List (List Int):=outD l0 l1 os (refF l1 os (os.length+2) (os.map (cls0 l0)) 0)
def minD (l0:List Bool) (l1:List (List Int)) (st:Int):List Bool × List (List Int):=minT l0 l1 (ordF l1 (l0.length+2) [st] 0)
theorem idx_nil {α:Type} [DecidableEq α]:(fun _=>none:α→Option Int)=idx []:=by
 funext x
 simp [idx]
theorem idx_val {α:Type} [DecidableEq α] {s:List α} {x:α} (h:x ∈ s):((s.idxOf x:Nat):Int)=(idx s x).getD 0:=by
 unfold idx
 rw [if_pos h]
 rfl
theorem pl_bound {os:List Int} (h:1≤os.length) (x:Int):0≤pl os x∧pl os x<(os.length:Int):=by
 unfold pl idx
 split
 ·rename_i hm
  have:=List.idxOf_lt_length_of_mem hm
  simp only [Option.getD_some]
  omega
 ·simp only [Option.getD_none]
  omega
section
variable {α β:Type} [DecidableEq α] [DecidableEq β]
theorem idxOf_pre {L R:List α} (h:L <+: R) {x:α} (hx:x ∈ L):R.idxOf x=L.idxOf x:=by
 obtain ⟨t,rfl⟩:=h
 rw [List.idxOf_append,if_pos hx]
theorem dd_map_le (f:α→β) (l:List α):(dd (l.map f)).length≤(dd l).length:=by
 have:=nodup_len (dd (l.map f)) ((dd l).map f) (dd_nodup _) (fun x hx=>by
  obtain ⟨y,hy,rfl⟩:=List.mem_map.mp (mem_dd.mp hx)
  exact List.mem_map_of_mem (mem_dd.mpr hy))
 simpa using this
theorem dd_len_le (l:List α):(dd l).length≤l.length:=nodup_len _ _ (dd_nodup l) (fun x hx=>mem_dd.mp hx)
end
theorem nmF_eq {α:Type} [DecidableEq α]:∀ (K ks:List α) (out:List Int),nmF K ks out=(adds ks K,out ++ K.map (fun k=>((adds ks K).idxOf k:Int)))
 | [],ks,out=>by simp [nmF,adds_nil]
 | k :: r,ks,out=>by
  rw [nmF,nmF_eq r,adds_cons,List.map_cons]
  have hp:=adds_pre r (add ks k)
  rw [idxOf_pre hp (mem_add.mpr (Or.inr rfl))]
  simp
theorem nm_eq {α:Type} [DecidableEq α] (K:List α):nmF K [] []=(dd K,K.map (fun k=>((dd K).idxOf k:Int))):=by rw [nmF_eq];simp [dd]
theorem nm_bound {α:Type} [DecidableEq α] (K:List α):∀ x ∈ (nmF K [] []).2,0≤x∧x<((dd K).length:Int):=by
 rw [nm_eq]
 intro x hx
 obtain ⟨y,hy,rfl⟩:=List.mem_map.mp hx
 have:=List.idxOf_lt_length_of_mem (mem_dd.mpr hy)
 omega
theorem keys_len (l1:List (List Int)) (os cl:List Int):(keys l1 os cl).length=os.length:=by simp [keys]
theorem keys_more {l1:List (List Int)} {os cl:List Int} (h:cl.length=os.length):(dd cl).length≤(dd (keys l1 os cl)).length:=by
 have e:(keys l1 os cl).map (fun k=>k.1)=cl:=by
  apply List.ext_getElem
  ·simp [keys,h]
  ·intro i h1 h2
   simp [keys,keyAt,List.getD_eq_getElem?_getD,List.getElem?_eq_getElem h2]
 have:=dd_map_le (fun k:K4=>k.1) (keys l1 os cl)
 rw [e] at this
 exact this
theorem nm_classes {α:Type} [DecidableEq α] [Inhabited α] (K:List α):(dd (nmF K [] []).2).length=(dd K).length:=by
 rw [nm_eq]
 dsimp only
 refine Nat.le_antisymm (dd_map_le _ K) ?_
 have e:(K.map (fun k=>((dd K).idxOf k:Int))).map (fun z:Int=>(dd K)[z.toNat]?)=K.map some:=by
  rw [List.map_map]
  apply List.map_congr_left
  intro k hk
  have hm:k ∈ dd K:=mem_dd.mpr hk
  have hl:=List.idxOf_lt_length_of_mem hm
  simp only [Function.comp,Int.toNat_natCast]
  rw [List.getElem?_eq_getElem hl,List.getElem_idxOf]
 have h1:=dd_map_le (fun z:Int=>(dd K)[z.toNat]?) (K.map (fun k=>((dd K).idxOf k:Int)))
 rw [e] at h1
 have h2:(dd K).length≤(dd (K.map some)).length:=by
  have:=dd_map_le (fun o:Option α=>o.getD default) (K.map some)
  rw [List.map_map,show ((fun o:Option α=>o.getD default) ∘ some)=id from rfl,List.map_id] at this
  exact this
 omega
end Go.Proofs.Ytogamkblkoobkaa.Mn
end
