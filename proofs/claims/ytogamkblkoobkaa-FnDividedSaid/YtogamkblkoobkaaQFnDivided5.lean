/- Texts of the proof of FnDivided, put together. No condition. -/
import Derived.Test.YtogamkblkoobkaaQFnDivided2
import Derived.Test.YtogamkblkoobkaaQFnDivided4
import Derived.Shelf.Abstract
import Derived.Lib.Walk
import Derived.DeepKeys4
import Derived.WideKeyPair
set_option linter.unusedVariables false
set_option linter.unusedSimpArgs false
section
namespace Go.Proofs.Ytogamkblkoobkaa.P
open Go.RowKit Go.Proofs.YtogamkblkoobkaaW.PrintWords Go.Proofs.YtogamkblkoobkaaW.PrintLast Go.Proofs.YtogamkblkoobkaaW.PrintMore
attribute [local go_sem] max2_int min2_int max_two min_two max_three min_three max_four min_four
def strings_IndexByte.f (a0:ByteArray) (a1:Int):Option (Int):=some (Lib.indexByte a0.data.toList a1.toNat.toUInt8)
theorem strings_IndexByte.calls (a0:ByteArray) (a1:Int) (r:Int) (w:World) (h:strings_IndexByte.f a0 a1=some r) :
  Calls Try.prog 122 #[.string a0,.int .u8 a1] w fun e w'=>e = .returned (.int .i64 r)∧Drawn0 w w':=by
 refine (Try.strings_IndexByte a0 a1 w).mono ?_
 rintro e w' ⟨rfl,rfl⟩
 obtain rfl:=Option.some.inj h
 exact ⟨rfl,Drawn0.refl _⟩
def impl_LetterIndex.f (a0:Int):Option (Int):=(strings_IndexByte.f (⟨#[97,98,99]⟩:ByteArray) a0).bind fun aI=>(some aI)
set_option maxHeartbeats 8000000 in
set_option maxRecDepth 100000 in
theorem impl_LetterIndex.calls (a0:Int) (r:Int) (w:World) (h:impl_LetterIndex.f a0=some r) :
  Calls Try.prog 72 #[.int .u8 a0] w fun e w'=>e = .returned (.int .i64 r)∧Drawn0 w w':=by
 have H:((strings_IndexByte.f (⟨#[97,98,99]⟩:ByteArray) a0).bind fun aI=>(some aI))=some r:=h
 clear h
 replace H:=Option.bind_eq_some_iff.mp H
 obtain ⟨aI,A20,H⟩:=H
 replace H:(some aI)=some r:=H
 have A2:=am_ A20
 clear A20
 obtain rfl:=Option.some.inj H
 simp only [Option.some.injEq,Prod.mk.injEq] at H
 obtain ⟨rfl⟩:=H
 go_enter Try.func72,Try.ntmps72
 go_wp2_with (first | ((with_reducible refine gate_callee (f:=122) rfl ?_);refine gL_ (some 4) Try.func122 #[.string (⟨#[97,98,99]⟩:ByteArray),.int .u8 a0] ?_;(with_reducible refine (strings_IndexByte.calls (⟨#[97,98,99]⟩:ByteArray) a0 aI _ A2.out).mono ?_);rintro e w' ⟨rfl,⟨nd,rfl⟩⟩;refine ⟨_,rfl,?_⟩))
 go_ret
 exact ⟨by first | rfl | (simp;done) | (simp [*];done),by repeat (first | exact Drawn0.refl _ | apply Drawn0.step)⟩
def impl_isLetters.l0:Nat→ByteArray→Int→Option (Bool)
 | 0,_,_=>none
 | k+1,x0,x3=>if x3<(x0.size:Int) then (if 0≤x3 then ((impl_LetterIndex.f (bt x0 x3)).bind fun aD=>(if aD<0 then (some false) else (impl_isLetters.l0 k x0 (wrap64 (x3+1))))) else (none)) else (some true)
def impl_isLetters.f (k:Nat) (a0:ByteArray):Option (Bool):=impl_isLetters.l0 k a0 0
theorem impl_isLetters.mono_l:∀ k,(∀ y0 y1,LeO (impl_isLetters.l0 k y0 y1) (impl_isLetters.l0 (k+1) y0 y1))
 | 0=>fun _ _ r h=>by simp [impl_isLetters.l0] at h
 | k+1=>by
  have ih0:=impl_isLetters.mono_l k
  ·intro y0 y1
   unfold impl_isLetters.l0
   repeat' first
   | (with_reducible exact ih0 _ _)
   | (with_reducible exact LeO.refl _)
   | (with_reducible exact LeO.none _)
   | (with_reducible refine LeO.ite ?_ ?_)
   | (with_reducible refine LeO.bind ?_ (fun _=>?_))
   | exact ih0 _ _
   | exact LeO.none _
   | refine LeO.ite ?_ ?_
   | refine LeO.bind ?_ (fun _=>?_)
theorem impl_isLetters.mono:∀ a0 k,LeO (impl_isLetters.f k a0) (impl_isLetters.f (k+1) a0):=by
 intro a0 k
 have ih0:=impl_isLetters.mono_l k
 unfold impl_isLetters.f
 repeat' first
  | (with_reducible exact ih0 _ _)
  | (with_reducible exact LeO.refl _)
  | (with_reducible exact LeO.none _)
  | (with_reducible refine LeO.ite ?_ ?_)
  | (with_reducible refine LeO.bind ?_ (fun _=>?_))
  | exact ih0 _ _
  | exact LeO.none _
  | refine LeO.ite ?_ ?_
  | refine LeO.bind ?_ (fun _=>?_)
set_option maxHeartbeats 8000000 in
set_option maxRecDepth 100000 in
theorem impl_isLetters.calls (k:Nat) (a0:ByteArray) (r:Bool) (w:World) (h:impl_isLetters.f k a0=some r) :
  Calls Try.prog 121 #[.string a0] w fun e w'=>e = .returned (.bool r)∧Drawn0 w w':=by
 have H:(impl_isLetters.l0 k a0 0)=some r:=h
 clear h
 have H':=am_ H
 clear H
 go_enter Try.func121,Try.ntmps121
 go_wp2
 go_loopg [3] k (fun kq v3 w'=>∃ (ag:Int),v3 = .int .i64 ag∧Aside0 (impl_isLetters.l0 kq a0 ag=some r)∧Aside0 (kq≤k)∧Drawn0 w w')
 case atStart=>exact ⟨(0),(by first | rfl | (simp;done) | (simp [*];done)),H',⟨Nat.le_refl _⟩,by repeat (first | exact Drawn0.refl _ | apply Drawn0.step)⟩
 case round =>
  clear H'
  try clear c1
  obtain ⟨ag,rfl,HA,HK1,⟨m1,rfl⟩⟩:=hrel
  cases gk with
  | zero=>exact absurd HA.out (by simp [impl_isLetters.l0])
  | succ k1 =>
   have H:=HA.out
   clear HA
   simp only [impl_isLetters.l0] at H
   by_cases c2:ag<(a0.size:Int)
   ·rw [if_pos c2] at H
    have c2b0:decide (ag<(a0.size:Int))=true:=decide_eq_true c2
    clear c2
    by_cases c3:0≤ag
    ·rw [if_pos c3] at H
     have c3b0:decide (0≤ag)=true:=decide_eq_true c3
     clear c3
     replace H:=Option.bind_eq_some_iff.mp H
     obtain ⟨aD,A50,H⟩:=H
     have A5:=am_ A50
     clear A50
     by_cases c6:aD<0
     ·rw [if_pos c6] at H
      have c6b0:decide (aD<0)=true:=decide_eq_true c6
      clear c6
      obtain rfl:=Option.some.inj H
      simp only [Option.some.injEq,Prod.mk.injEq] at H
      obtain ⟨rfl⟩:=H
      have p4:0≤(ag:Int):=of_decide_eq_true ah_
      have q4:ag<(a0.size:Int):=of_decide_eq_true ah_
      have hx4:=bt_at a0 ag
      replace p4:=eq_true p4
      replace q4:=eq_true q4
      go_wp2_with (first | ((with_reducible refine gate_callee (f:=72) rfl ?_);refine gL_ (some 13) Try.func72 #[.int .u8 (bt a0 ag)] ?_;(with_reducible refine (impl_LetterIndex.calls (bt a0 ag) aD _ A5.out).mono ?_);rintro e w' ⟨rfl,⟨nd,rfl⟩⟩;refine ⟨_,rfl,?_⟩))
      go_ret
      exact ⟨by first | rfl | (simp;done) | (simp [*];done),by repeat (first | exact Drawn0.refl _ | apply Drawn0.step)⟩
     ·rw [if_neg c6] at H
      have c6b0:decide (aD<0)=false:=decide_eq_false c6
      clear c6
      have H':=am_ H
      clear H
      have p4:0≤(ag:Int):=of_decide_eq_true ah_
      have q4:ag<(a0.size:Int):=of_decide_eq_true ah_
      have hx4:=bt_at a0 ag
      replace p4:=eq_true p4
      replace q4:=eq_true q4
      go_wp2_with (first | ((with_reducible refine gate_callee (f:=72) rfl ?_);refine gL_ (some 13) Try.func72 #[.int .u8 (bt a0 ag)] ?_;(with_reducible refine (impl_LetterIndex.calls (bt a0 ag) aD _ A5.out).mono ?_);rintro e w' ⟨rfl,⟨nd,rfl⟩⟩;refine ⟨_,rfl,?_⟩))
      go_roundg k1
      case measure=>have:=HK1.out;omega
      case rel=>exact ⟨(wrap64 (ag+1)),(by first | rfl | (simp;done) | (simp [*];done)),H',⟨by have:=HK1.out;omega⟩,by repeat (first | exact Drawn0.refl _ | apply Drawn0.step)⟩
    ·rw [if_neg c3] at H
     exact absurd H (by simp)
   ·rw [if_neg c2] at H
    have c2b0:decide (ag<(a0.size:Int))=false:=decide_eq_false c2
    clear c2
    obtain rfl:=Option.some.inj H
    simp only [Option.some.injEq,Prod.mk.injEq] at H
    obtain ⟨rfl⟩:=H
    go_wp2
    go_ret
    exact ⟨by first | rfl | (simp;done) | (simp [*];done),by repeat (first | exact Drawn0.refl _ | apply Drawn0.step)⟩
def impl_IsWord.f (k:Nat) (a0:ByteArray):Option (Bool):=if (a0.size:Int)≤30 then ((impl_isLetters.f k a0).bind fun aJ=>(some aJ)) else (some false)
theorem impl_IsWord.mono:∀ a0 k,LeO (impl_IsWord.f k a0) (impl_IsWord.f (k+1) a0):=by
 intro a0 k
 unfold impl_IsWord.f
 repeat' first
  | (with_reducible exact impl_isLetters.mono _ _)
  | (with_reducible exact LeO.refl _)
  | (with_reducible exact LeO.none _)
  | (with_reducible refine LeO.ite ?_ ?_)
  | (with_reducible refine LeO.bind ?_ (fun _=>?_))
  | exact impl_isLetters.mono _ _
  | exact LeO.none _
  | refine LeO.ite ?_ ?_
  | refine LeO.bind ?_ (fun _=>?_)
set_option maxHeartbeats 8000000 in
set_option maxRecDepth 100000 in
theorem impl_IsWord.calls (k:Nat) (a0:ByteArray) (r:Bool) (w:World) (h:impl_IsWord.f k a0=some r) :
  Calls Try.prog 71 #[.string a0] w fun e w'=>e = .returned (.bool r)∧Drawn0 w w':=by
 have H:(if (a0.size:Int)≤30 then ((impl_isLetters.f k a0).bind fun aJ=>(some aJ)) else (some false))=some r:=h
 clear h
 by_cases c2:(a0.size:Int)≤30
 ·rw [if_pos c2] at H
  have c2b0:decide ((a0.size:Int)≤30)=true:=decide_eq_true c2
  have c2b1:decide (a0.size≤30)=true:=decide_eq_true (by omega)
  clear c2
  replace H:=Option.bind_eq_some_iff.mp H
  obtain ⟨aJ,A30,H⟩:=H
  replace H:(some aJ)=some r:=H
  have A3:=am_ A30
  clear A30
  obtain rfl:=Option.some.inj H
  simp only [Option.some.injEq,Prod.mk.injEq] at H
  obtain ⟨rfl⟩:=H
  go_enter Try.func71,Try.ntmps71
  go_wp2_with (first | (go_at_call 121;(with_reducible refine (impl_isLetters.calls k a0 aJ _ A3.out).mono ?_);rintro e w' ⟨rfl,⟨nd,rfl⟩⟩))
  go_ret
  exact ⟨by first | rfl | (simp;done) | (simp [*];done),by repeat (first | exact Drawn0.refl _ | apply Drawn0.step)⟩
 ·rw [if_neg c2] at H
  have c2b0:decide ((a0.size:Int)≤30)=false:=decide_eq_false c2
  have c2b1:decide (a0.size≤30)=false:=decide_eq_false (by omega)
  clear c2
  obtain rfl:=Option.some.inj H
  simp only [Option.some.injEq,Prod.mk.injEq] at H
  obtain ⟨rfl⟩:=H
  go_enter Try.func71,Try.ntmps71
  go_wp2
  go_ret
  exact ⟨by first | rfl | (simp;done) | (simp [*];done),by repeat (first | exact Drawn0.refl _ | apply Drawn0.step)⟩
def impl_after.l0:Nat→Int→ByteArray→Int→List Bool→List (List Int)→Option (Int)
 | 0,_,_,_,_,_=>none
 | k+1,x1,x2,x7,aZ,aC=>if x7<(x2.size:Int) then (if 0≤x1 then (if x1<(aC.length:Int) then (if 0≤x7 then ((impl_LetterIndex.f (bt x2 x7)).bind fun ae=>(if 0≤ae then (if ae<((rd_L1 aC x1).length:Int) then (impl_after.l0 k (rd (rd_L1 aC x1) ae) x2 (wrap64 (x7+1)) aZ aC) else (none)) else (none))) else (none)) else (none)) else (none)) else (some x1)
def impl_after.f (k:Nat) (l0_0:List Bool) (l0_1:List (List Int)) (a1:Int) (a2:ByteArray):Option (Int):=impl_after.l0 k a1 a2 0 l0_0 l0_1
theorem impl_after.mono_l:∀ k,(∀ y0 y1 y2 y3 y4,LeO (impl_after.l0 k y0 y1 y2 y3 y4) (impl_after.l0 (k+1) y0 y1 y2 y3 y4))
 | 0=>fun _ _ _ _ _ r h=>by simp [impl_after.l0] at h
 | k+1=>by
  have ih0:=impl_after.mono_l k
  ·intro y0 y1 y2 y3 y4
   unfold impl_after.l0
   repeat' first
   | (with_reducible exact ih0 _ _ _ _ _)
   | (with_reducible exact LeO.refl _)
   | (with_reducible exact LeO.none _)
   | (with_reducible refine LeO.ite ?_ ?_)
   | (with_reducible refine LeO.bind ?_ (fun _=>?_))
   | exact ih0 _ _ _ _ _
   | exact LeO.none _
   | refine LeO.ite ?_ ?_
   | refine LeO.bind ?_ (fun _=>?_)
theorem impl_after.mono:∀ a0 a1 a2 a3 k,LeO (impl_after.f k a0 a1 a2 a3) (impl_after.f (k+1) a0 a1 a2 a3):=by
 intro a0 a1 a2 a3 k
 have ih0:=impl_after.mono_l k
 unfold impl_after.f
 repeat' first
  | (with_reducible exact ih0 _ _ _ _ _)
  | (with_reducible exact LeO.refl _)
  | (with_reducible exact LeO.none _)
  | (with_reducible refine LeO.ite ?_ ?_)
  | (with_reducible refine LeO.bind ?_ (fun _=>?_))
  | exact ih0 _ _ _ _ _
  | exact LeO.none _
  | refine LeO.ite ?_ ?_
  | refine LeO.bind ?_ (fun _=>?_)
theorem zp3_0_ {p q g1:Prop} (h:p) (h1:g1) (c:p→g1→q:=by intro h_ h1_;repeat (first | (with_reducible first | exact h_ | apply below_alloc | apply pw_below_drewN | apply below_drew1 | refine below_set ?_ h1_) | exact h_)):q:=c h h1
set_option maxHeartbeats 8000000 in
set_option maxRecDepth 100000 in
theorem impl_after.calls (k:Nat) (A0_0:Option Addr) (c0_0:Nat) (l0_0:List Bool) (A0_1:Option Addr) (c0_1:Nat) (l0_1:List (List Int)) (a1:Int) (a2:ByteArray) (r:Int) (w:World) (hr0_0:Kd.C Kd.bool w A0_0 l0_0.length l0_0) (hc0_0:l0_0.length≤c0_0) (hr0_1:Kd.C (Kd.slice 3 (Kd.int .i64)) w A0_1 l0_1.length l0_1) (hc0_1:l0_1.length≤c0_1) (h:impl_after.f k l0_0 l0_1 a1 a2=some r) :
  Calls Try.prog 109 #[.agg #[.slice A0_0 l0_0.length c0_0,.slice A0_1 l0_1.length c0_1],.int .i64 a1,.string a2] w fun e w'=>e = .returned (.int .i64 r)∧Below w.heap.size w w':=by
 have hu27:=Try.underlying27
 have ai:=am_ hr0_0
 have al:=am_ hc0_0
 clear hr0_0 hc0_0
 have am:=am_ hr0_1
 have ao:=am_ hc0_1
 clear hr0_1 hc0_1
 have HB:=am_ (Below.refl w.heap.size w)
 have H:(impl_after.l0 k a1 a2 0 l0_0 l0_1)=some r:=h
 clear h
 have H':=am_ H
 clear H
 go_enter Try.func109,Try.ntmps109
 go_wp2_with (first | ((with_reducible refine gate_dst (N:=3) rfl ?_);refine box_event ?hg (N:=3) ?hd (cs:=#[.slice A0_0 l0_0.length c0_0,.slice A0_1 l0_1.length c0_1]) (t:=27) ?hr ?_;(case hd=>rfl);(case hg=>rfl);(case hr=>first | (go_simp;done) | (go_simp;rfl));intro aw hg w4 hbox hb;replace ax:=am_ (hbox);replace aW:=am_ ((by rw [hg];exact (below_size (b0_ HB.out)):w.heap.size≤aw));replace aF:=am_ ((by rw [hg];exact (below_size (b0_ HB.out)):w.heap.size≤aw));replace HB:=am_ (below_step (b0_ HB.out) hb);clear hb hbox hg))
 repeat (go_quiet (first | ((with_reducible refine gate_dst (N:=3) rfl ?_);refine box_event ?hg (N:=3) ?hd (cs:=#[.slice A0_0 l0_0.length c0_0,.slice A0_1 l0_1.length c0_1]) (t:=27) ?hr ?_;(case hd=>rfl);(case hg=>rfl);(case hr=>first | (go_simp;done) | (go_simp;rfl));intro aw hg w4 hbox hb;replace ax:=am_ (hbox);replace aW:=am_ ((by rw [hg];exact (below_size (b0_ HB.out)):w.heap.size≤aw));replace aF:=am_ ((by rw [hg];exact (below_size (b0_ HB.out)):w.heap.size≤aw));replace HB:=am_ (below_step (b0_ HB.out) hb);clear hb hbox hg));try go_wp2_with (first | ((with_reducible refine gate_dst (N:=3) rfl ?_);refine box_event ?hg (N:=3) ?hd (cs:=#[.slice A0_0 l0_0.length c0_0,.slice A0_1 l0_1.length c0_1]) (t:=27) ?hr ?_;(case hd=>rfl);(case hg=>rfl);(case hr=>first | (go_simp;done) | (go_simp;rfl));intro aw hg w4 hbox hb;replace ax:=am_ (hbox);replace aW:=am_ ((by rw [hg];exact (below_size (b0_ HB.out)):w.heap.size≤aw));replace aF:=am_ ((by rw [hg];exact (below_size (b0_ HB.out)):w.heap.size≤aw));replace HB:=am_ (below_step (b0_ HB.out) hb);clear hb hbox hg)))
 go_loopg [1,7] k (fun kq v1 v7 w'=>∃ (ab:Int) (ap:Int),v1 = .int .i64 ab∧v7 = .int .i64 ap∧Aside0 (impl_after.l0 kq ab a2 ap l0_0 l0_1=some r)∧Aside0 (kq≤k)∧Aside0 (w'.heap[aw]? = some (.cells #[(.slice A0_0 l0_0.length c0_0),(.slice A0_1 l0_1.length c0_1)] 27 (0,0)))∧Aside0 (Below w.heap.size w w'))
 case atStart=>exact ⟨(a1),(0),(by first | rfl | (simp;done) | (simp [*];done)),(by first | rfl | (simp;done) | (simp [*];done)),H',⟨Nat.le_refl _⟩,⟨by refine rb_ ?_;exact ax.out⟩,⟨by exact zp3_0_ HB.out aF.out⟩⟩
 case round =>
  clear H'
  try clear c1
  try clear p2
  obtain ⟨ab,ap,rfl,rfl,HA,HK1,ax,HB⟩:=hrel
  cases gk with
  | zero=>exact absurd HA.out (by simp [impl_after.l0])
  | succ k1 =>
   have H:=HA.out
   clear HA
   simp only [impl_after.l0] at H
   by_cases c5:ap<(a2.size:Int)
   ·rw [if_pos c5] at H
    have c5b0:decide (ap<(a2.size:Int))=true:=decide_eq_true c5
    clear c5
    by_cases c6:0≤ab
    ·rw [if_pos c6] at H
     have c6b0:decide (0≤ab)=true:=decide_eq_true c6
     clear c6
     by_cases c7:ab<(l0_1.length:Int)
     ·rw [if_pos c7] at H
      have c7b0:decide (ab<(l0_1.length:Int))=true:=decide_eq_true c7
      clear c7
      by_cases c8:0≤ap
      ·rw [if_pos c8] at H
       have c8b0:decide (0≤ap)=true:=decide_eq_true c8
       clear c8
       replace H:=Option.bind_eq_some_iff.mp H
       obtain ⟨ae,aP,H⟩:=H
       have A10:=am_ aP
       clear aP
       by_cases c11:0≤ae
       ·rw [if_pos c11] at H
        have c11b0:decide (0≤ae)=true:=decide_eq_true c11
        clear c11
        by_cases c12:ae<((rd_L1 l0_1 ab).length:Int)
        ·rw [if_pos c12] at H
         have c12b0:decide (ae<((rd_L1 l0_1 ab).length:Int))=true:=decide_eq_true c12
         clear c12
         have H':=am_ H
         clear H
         have bi:=ck_ (v:=(.slice A0_0 l0_0.length c0_0)) ax 0 rfl
         have bj:=ck_ (v:=(.slice A0_1 l0_1.length c0_1)) ax 1 rfl
         have bk:=blk_frozen ax.out 0
         have bl:=blk_frozen ax.out 1
         have p112:0≤(ab:Int):=of_decide_eq_true ah_
         have q112:ab<(l0_1.length:Int):=of_decide_eq_true ah_
         obtain ⟨bV,A112_0,c112_0,e112,aK,hl112_0,hi112_0⟩:=at_L1 am.out ab p112 q112
         cases e112
         replace aK:=(HB.out.cell (World.block_lt_of_cell? w _ aK)).trans aK
         have aL:=am_ hi112_0
         have bm:=am_ hl112_0
         clear hi112_0 hl112_0
         replace p112:=eq_true p112
         replace q112:=eq_true q112
         have p9:0≤(ap:Int):=of_decide_eq_true ah_
         have q9:ap<(a2.size:Int):=of_decide_eq_true ah_
         have hx9:=bt_at a2 ap
         replace p9:=eq_true p9
         replace q9:=eq_true q9
         go_wp2_with (first | (go_at_call 72;(with_reducible refine (impl_LetterIndex.calls (bt a2 ap) ae _ A10.out).mono ?_);rintro e w' ⟨rfl,⟨nd,rfl⟩⟩;(try first | exact ⟨rfl,_,World.drewN_drewN _ _ _⟩ | exact ⟨rfl,_,Eq.trans (World.drewN_drewN _ _ _) (congrArg (World.drewN _) (Nat.add_assoc _ _ _))⟩);have p114:0≤(ae:Int):=of_decide_eq_true ah_;have q114:ae<((rd_L1 l0_1 ab).length:Int):=of_decide_eq_true ah_;obtain ⟨aX,e114,af⟩:=Kd.at_int aL.out ae p114 q114;cases e114;replace af:=(HB.out.cell (World.block_lt_of_cell? w _ af)).trans af;replace p114:=eq_true p114;replace q114:=eq_true q114))
         repeat (go_quiet (first | (go_at_call 72;(with_reducible refine (impl_LetterIndex.calls (bt a2 ap) ae _ A10.out).mono ?_);rintro e w' ⟨rfl,⟨nd,rfl⟩⟩;(try first | exact ⟨rfl,_,World.drewN_drewN _ _ _⟩ | exact ⟨rfl,_,Eq.trans (World.drewN_drewN _ _ _) (congrArg (World.drewN _) (Nat.add_assoc _ _ _))⟩);have p114:0≤(ae:Int):=of_decide_eq_true ah_;have q114:ae<((rd_L1 l0_1 ab).length:Int):=of_decide_eq_true ah_;obtain ⟨aX,e114,af⟩:=Kd.at_int aL.out ae p114 q114;cases e114;replace af:=(HB.out.cell (World.block_lt_of_cell? w _ af)).trans af;replace p114:=eq_true p114;replace q114:=eq_true q114));try go_wp2_with (first | (go_at_call 72;(with_reducible refine (impl_LetterIndex.calls (bt a2 ap) ae _ A10.out).mono ?_);rintro e w' ⟨rfl,⟨nd,rfl⟩⟩;(try first | exact ⟨rfl,_,World.drewN_drewN _ _ _⟩ | exact ⟨rfl,_,Eq.trans (World.drewN_drewN _ _ _) (congrArg (World.drewN _) (Nat.add_assoc _ _ _))⟩);have p114:0≤(ae:Int):=of_decide_eq_true ah_;have q114:ae<((rd_L1 l0_1 ab).length:Int):=of_decide_eq_true ah_;obtain ⟨aX,e114,af⟩:=Kd.at_int aL.out ae p114 q114;cases e114;replace af:=(HB.out.cell (World.block_lt_of_cell? w _ af)).trans af;replace p114:=eq_true p114;replace q114:=eq_true q114)))
         go_roundg k1
         case measure=>have:=HK1.out;omega
         case rel=>exact ⟨(rd (rd_L1 l0_1 ab) ae),(wrap64 (ap+1)),(by first | rfl | (simp;done) | (simp [*];done)),(by first | rfl | (simp;done) | (simp [*];done)),H',⟨by have:=HK1.out;omega⟩,⟨by refine rb_ ?_;exact ax.out⟩,⟨by exact zp3_0_ HB.out aF.out⟩⟩
        ·rw [if_neg c12] at H
         exact absurd H (by simp)
       ·rw [if_neg c11] at H
        exact absurd H (by simp)
      ·rw [if_neg c8] at H
       exact absurd H (by simp)
     ·rw [if_neg c7] at H
      exact absurd H (by simp)
    ·rw [if_neg c6] at H
     exact absurd H (by simp)
   ·rw [if_neg c5] at H
    have c5b0:decide (ap<(a2.size:Int))=false:=decide_eq_false c5
    clear c5
    obtain rfl:=Option.some.inj H
    simp only [Option.some.injEq,Prod.mk.injEq] at H
    obtain ⟨rfl⟩:=H
    go_wp2
    repeat (go_quiet (fail);try go_wp2)
    go_ret
    exact ⟨by first | rfl | (simp [errW_none,errW_some] <;> rfl) | (simp [*,errW_none,errW_some] <;> rfl),by exact zp3_0_ HB.out aF.out⟩
def impl_RunDfa.f (k:Nat) (l0_0:List Bool) (l0_1:List (List Int)) (a1:Int) (a2:ByteArray):Option (Int × Bool):=(impl_IsValidDfa.f l0_0 l0_1).bind fun aQ=>(if aQ=true then ((impl_within.f a1 0 (wrap64 ((l0_0.length:Int) - 1))).bind fun aE=>(if aE=true then ((impl_IsWord.f k a2).bind fun az=>(if az=true then ((impl_after.f k l0_0 l0_1 a1 a2).bind fun au=>(some (au,true))) else (some (0,false)))) else (some (0,false)))) else (some (0,false)))
theorem impl_RunDfa.mono:∀ a0 a1 a2 a3 k,LeO (impl_RunDfa.f k a0 a1 a2 a3) (impl_RunDfa.f (k+1) a0 a1 a2 a3):=by
 intro a0 a1 a2 a3 k
 unfold impl_RunDfa.f
 repeat' first
  | (with_reducible exact impl_IsWord.mono _ _)
  | (with_reducible exact impl_after.mono _ _ _ _ _)
  | (with_reducible exact LeO.refl _)
  | (with_reducible exact LeO.none _)
  | (with_reducible refine LeO.ite ?_ ?_)
  | (with_reducible refine LeO.bind ?_ (fun _=>?_))
  | exact impl_IsWord.mono _ _
  | exact impl_after.mono _ _ _ _ _
  | exact LeO.none _
  | refine LeO.ite ?_ ?_
  | refine LeO.bind ?_ (fun _=>?_)
set_option maxHeartbeats 8000000 in
set_option maxRecDepth 100000 in
theorem impl_RunDfa.calls (k:Nat) (A0_0:Option Addr) (c0_0:Nat) (l0_0:List Bool) (A0_1:Option Addr) (c0_1:Nat) (l0_1:List (List Int)) (a1:Int) (a2:ByteArray) (r1:Int) (r2:Bool) (w:World) (hr0_0:Kd.C Kd.bool w A0_0 l0_0.length l0_0) (hc0_0:l0_0.length≤c0_0) (hr0_1:Kd.C (Kd.slice 3 (Kd.int .i64)) w A0_1 l0_1.length l0_1) (hc0_1:l0_1.length≤c0_1) (h:impl_RunDfa.f k l0_0 l0_1 a1 a2=some (r1,r2)) :
  Calls Try.prog 42 #[.agg #[.slice A0_0 l0_0.length c0_0,.slice A0_1 l0_1.length c0_1],.int .i64 a1,.string a2] w fun e w'=>e = .returned (.tuple #[.int .i64 r1,.bool r2])∧Below w.heap.size w w':=by
 have hu27:=Try.underlying27
 have ai:=am_ hr0_0
 have al:=am_ hc0_0
 clear hr0_0 hc0_0
 have am:=am_ hr0_1
 have ao:=am_ hc0_1
 clear hr0_1 hc0_1
 have HB:=am_ (Below.refl w.heap.size w)
 have H:((impl_IsValidDfa.f l0_0 l0_1).bind fun aQ=>(if aQ=true then ((impl_within.f a1 0 (wrap64 ((l0_0.length:Int) - 1))).bind fun aE=>(if aE=true then ((impl_IsWord.f k a2).bind fun az=>(if az=true then ((impl_after.f k l0_0 l0_1 a1 a2).bind fun au=>(some (au,true))) else (some (0,false)))) else (some (0,false)))) else (some (0,false))))=some (r1,r2):=h
 clear h
 replace H:=Option.bind_eq_some_iff.mp H
 obtain ⟨aQ,A40,H⟩:=H
 have A4:=am_ A40
 clear A40
 by_cases c5:aQ=true
 ·subst c5
  have H1:((impl_within.f a1 0 (wrap64 ((l0_0.length:Int) - 1))).bind fun aE=>(if aE=true then ((impl_IsWord.f k a2).bind fun az=>(if az=true then ((impl_after.f k l0_0 l0_1 a1 a2).bind fun au=>(some (au,true))) else (some (0,false)))) else (some (0,false))))=some (r1,r2):=by rw [if_pos rfl] at H;exact H
  clear H
  have H:=H1
  clear H1
  replace H:=Option.bind_eq_some_iff.mp H
  obtain ⟨aE,A60,H⟩:=H
  have A6:=am_ A60
  clear A60
  by_cases c7:aE=true
  ·subst c7
   have H1:((impl_IsWord.f k a2).bind fun az=>(if az=true then ((impl_after.f k l0_0 l0_1 a1 a2).bind fun au=>(some (au,true))) else (some (0,false))))=some (r1,r2):=by rw [if_pos rfl] at H;exact H
   clear H
   have H:=H1
   clear H1
   replace H:=Option.bind_eq_some_iff.mp H
   obtain ⟨az,A80,H⟩:=H
   have A8:=am_ A80
   clear A80
   by_cases c9:az=true
   ·subst c9
    have H1:((impl_after.f k l0_0 l0_1 a1 a2).bind fun au=>(some (au,true)))=some (r1,r2):=by rw [if_pos rfl] at H;exact H
    clear H
    have H:=H1
    clear H1
    replace H:=Option.bind_eq_some_iff.mp H
    obtain ⟨au,aP,H⟩:=H
    replace H:(some (au,true))=some (r1,r2):=H
    have A10:=am_ aP
    clear aP
    simp only [Option.some.injEq,Prod.mk.injEq] at H
    obtain ⟨rfl,rfl⟩:=H
    go_enter Try.func42,Try.ntmps42
    go_wp2_with (first | ((with_reducible refine gate_dst (N:=3) rfl ?_);(try (refine gate_guard (by rfl) ?_;dsimp only));refine box_event ?hg (N:=3) ?hd (cs:=#[.slice A0_0 l0_0.length c0_0,.slice A0_1 l0_1.length c0_1]) (t:=27) ?hr ?_;(case hd=>rfl);(case hg=>rfl);(case hr=>first | (go_simp;done) | (go_simp;rfl));intro aq hg w11 hbox hb;replace aa:=am_ (hbox);replace aV:=am_ ((by rw [hg];exact (below_size (b0_ HB.out)):w.heap.size≤aq));replace aj:=am_ ((by rw [hg];exact (below_size (b0_ HB.out)):w.heap.size≤aq));replace HB:=am_ (below_step (b0_ HB.out) hb);clear hb hbox hg;have aR:=ck_ (v:=(.slice A0_0 l0_0.length c0_0)) aa 0 rfl;have aS:=ck_ (v:=(.slice A0_1 l0_1.length c0_1)) aa 1 rfl;have aT:=blk_frozen aa.out 0;have aU:=blk_frozen aa.out 1) | ((with_reducible refine gate_callee (f:=39) rfl ?_);refine gL_ (some 9) Try.func39 #[.agg #[.slice A0_0 l0_0.length c0_0,.slice A0_1 l0_1.length c0_1]] ?_;(with_reducible refine (impl_IsValidDfa.calls _ _ l0_0 _ _ l0_1 true _ ?side1 ?side2 ?side3 ?side4 A4.out).mono ?_);(case side1=>exact rc_ (Kd.C_below ai.out HB.out));(case side2=>exact al.out);(case side3=>exact rc_ (Kd.C_below am.out HB.out));(case side4=>exact ao.out);rintro e w13 ⟨rfl,hb⟩;refine ⟨_,rfl,?_⟩;have n0_:=am_ (blk_below (rb_ aa.out) hb);have n1_:=am_ (below_step (b1_ HB.out aj.out) hb);clear aa;clear HB;have aa:=n0_;have HB:=n1_;clear n0_ n1_;(try clear hb);(try clear hb2);(try clear hk);(try clear hi);have bn:=ck_ (v:=(.slice A0_0 l0_0.length c0_0)) aa 0 rfl;have bo:=ck_ (v:=(.slice A0_1 l0_1.length c0_1)) aa 1 rfl;have bp:=blk_frozen aa.out 0;have bq:=blk_frozen aa.out 1) | (go_at_call 101;(with_reducible refine (impl_within.calls a1 0 (wrap64 ((l0_0.length:Int) - 1)) true _ A6.out).mono ?_);rintro e w' ⟨rfl,⟨nd,rfl⟩⟩) | (go_at_call 71;(with_reducible refine (impl_IsWord.calls k a2 true _ A8.out).mono ?_);rintro e w' ⟨rfl,⟨nd,rfl⟩⟩) | ((with_reducible refine gate_callee (f:=109) rfl ?_);refine gL_ (some 28) Try.func109 #[.agg #[.slice A0_0 l0_0.length c0_0,.slice A0_1 l0_1.length c0_1],.int .i64 a1,.string a2] ?_;(with_reducible refine (impl_after.calls k _ _ l0_0 _ _ l0_1 a1 a2 au _ ?side1 ?side2 ?side3 ?side4 A10.out).mono ?_);(case side1=>exact rc_ (Kd.C_below ai.out (b1_ HB.out aj.out)));(case side2=>exact al.out);(case side3=>exact rc_ (Kd.C_below am.out (b1_ HB.out aj.out)));(case side4=>exact ao.out);rintro e w15 ⟨rfl,hb⟩;refine ⟨_,rfl,?_⟩;have n0_:=am_ (blk_below (rb_ aa.out) hb);have n1_:=am_ (below_step (b1_ HB.out aj.out) hb);clear aa;clear HB;have aa:=n0_;have HB:=n1_;clear n0_ n1_;(try clear hb);(try clear hb2);(try clear hk);(try clear hi)))
    go_ret2
    exact ⟨by first | rfl | (simp [errW_none,errW_some] <;> rfl) | (simp [*,errW_none,errW_some] <;> rfl),by exact zp3_0_ HB.out aj.out⟩
   ·replace c9:=Bool.eq_false_iff.mpr c9
    subst c9
    have H1:(some (0,false))=some (r1,r2):=by rw [if_neg (show ¬ (false=true) by decide)] at H;exact H
    clear H
    have H:=H1
    clear H1
    simp only [Option.some.injEq,Prod.mk.injEq] at H
    obtain ⟨rfl,rfl⟩:=H
    go_enter Try.func42,Try.ntmps42
    go_wp2_with (first | ((with_reducible refine gate_dst (N:=3) rfl ?_);(try (refine gate_guard (by rfl) ?_;dsimp only));refine box_event ?hg (N:=3) ?hd (cs:=#[.slice A0_0 l0_0.length c0_0,.slice A0_1 l0_1.length c0_1]) (t:=27) ?hr ?_;(case hd=>rfl);(case hg=>rfl);(case hr=>first | (go_simp;done) | (go_simp;rfl));intro aq hg w16 hbox hb;replace aa:=am_ (hbox);replace aV:=am_ ((by rw [hg];exact (below_size (b0_ HB.out)):w.heap.size≤aq));replace aj:=am_ ((by rw [hg];exact (below_size (b0_ HB.out)):w.heap.size≤aq));replace HB:=am_ (below_step (b0_ HB.out) hb);clear hb hbox hg;have br:=ck_ (v:=(.slice A0_0 l0_0.length c0_0)) aa 0 rfl;have bs:=ck_ (v:=(.slice A0_1 l0_1.length c0_1)) aa 1 rfl;have bu:=blk_frozen aa.out 0;have bv:=blk_frozen aa.out 1) | ((with_reducible refine gate_callee (f:=39) rfl ?_);refine gL_ (some 9) Try.func39 #[.agg #[.slice A0_0 l0_0.length c0_0,.slice A0_1 l0_1.length c0_1]] ?_;(with_reducible refine (impl_IsValidDfa.calls _ _ l0_0 _ _ l0_1 true _ ?side1 ?side2 ?side3 ?side4 A4.out).mono ?_);(case side1=>exact rc_ (Kd.C_below ai.out HB.out));(case side2=>exact al.out);(case side3=>exact rc_ (Kd.C_below am.out HB.out));(case side4=>exact ao.out);rintro e w18 ⟨rfl,hb⟩;refine ⟨_,rfl,?_⟩;have n0_:=am_ (blk_below (rb_ aa.out) hb);have n1_:=am_ (below_step (b1_ HB.out aj.out) hb);clear aa;clear HB;have aa:=n0_;have HB:=n1_;clear n0_ n1_;(try clear hb);(try clear hb2);(try clear hk);(try clear hi);have bw:=ck_ (v:=(.slice A0_0 l0_0.length c0_0)) aa 0 rfl;have bx:=ck_ (v:=(.slice A0_1 l0_1.length c0_1)) aa 1 rfl;have bz:=blk_frozen aa.out 0;have bA:=blk_frozen aa.out 1) | (go_at_call 101;(with_reducible refine (impl_within.calls a1 0 (wrap64 ((l0_0.length:Int) - 1)) true _ A6.out).mono ?_);rintro e w' ⟨rfl,⟨nd,rfl⟩⟩) | (go_at_call 71;(with_reducible refine (impl_IsWord.calls k a2 false _ A8.out).mono ?_);rintro e w' ⟨rfl,⟨nd,rfl⟩⟩))
    go_ret2
    exact ⟨by first | rfl | (simp [errW_none,errW_some] <;> rfl) | (simp [*,errW_none,errW_some] <;> rfl),by exact zp3_0_ HB.out aj.out⟩
  ·replace c7:=Bool.eq_false_iff.mpr c7
   subst c7
   have H1:(some (0,false))=some (r1,r2):=by rw [if_neg (show ¬ (false=true) by decide)] at H;exact H
   clear H
   have H:=H1
   clear H1
   simp only [Option.some.injEq,Prod.mk.injEq] at H
   obtain ⟨rfl,rfl⟩:=H
   go_enter Try.func42,Try.ntmps42
   go_wp2_with (first | ((with_reducible refine gate_dst (N:=3) rfl ?_);(try (refine gate_guard (by rfl) ?_;dsimp only));refine box_event ?hg (N:=3) ?hd (cs:=#[.slice A0_0 l0_0.length c0_0,.slice A0_1 l0_1.length c0_1]) (t:=27) ?hr ?_;(case hd=>rfl);(case hg=>rfl);(case hr=>first | (go_simp;done) | (go_simp;rfl));intro aq hg w20 hbox hb;replace aa:=am_ (hbox);replace aV:=am_ ((by rw [hg];exact (below_size (b0_ HB.out)):w.heap.size≤aq));replace aj:=am_ ((by rw [hg];exact (below_size (b0_ HB.out)):w.heap.size≤aq));replace HB:=am_ (below_step (b0_ HB.out) hb);clear hb hbox hg;have bB:=ck_ (v:=(.slice A0_0 l0_0.length c0_0)) aa 0 rfl;have bC:=ck_ (v:=(.slice A0_1 l0_1.length c0_1)) aa 1 rfl;have bD:=blk_frozen aa.out 0;have bE:=blk_frozen aa.out 1) | ((with_reducible refine gate_callee (f:=39) rfl ?_);refine gL_ (some 9) Try.func39 #[.agg #[.slice A0_0 l0_0.length c0_0,.slice A0_1 l0_1.length c0_1]] ?_;(with_reducible refine (impl_IsValidDfa.calls _ _ l0_0 _ _ l0_1 true _ ?side1 ?side2 ?side3 ?side4 A4.out).mono ?_);(case side1=>exact rc_ (Kd.C_below ai.out HB.out));(case side2=>exact al.out);(case side3=>exact rc_ (Kd.C_below am.out HB.out));(case side4=>exact ao.out);rintro e w22 ⟨rfl,hb⟩;refine ⟨_,rfl,?_⟩;have n0_:=am_ (blk_below (rb_ aa.out) hb);have n1_:=am_ (below_step (b1_ HB.out aj.out) hb);clear aa;clear HB;have aa:=n0_;have HB:=n1_;clear n0_ n1_;(try clear hb);(try clear hb2);(try clear hk);(try clear hi);have bF:=ck_ (v:=(.slice A0_0 l0_0.length c0_0)) aa 0 rfl;have bG:=ck_ (v:=(.slice A0_1 l0_1.length c0_1)) aa 1 rfl;have bH:=blk_frozen aa.out 0;have bI:=blk_frozen aa.out 1) | (go_at_call 101;(with_reducible refine (impl_within.calls a1 0 (wrap64 ((l0_0.length:Int) - 1)) false _ A6.out).mono ?_);rintro e w' ⟨rfl,⟨nd,rfl⟩⟩))
   go_ret2
   exact ⟨by first | rfl | (simp [errW_none,errW_some] <;> rfl) | (simp [*,errW_none,errW_some] <;> rfl),by exact zp3_0_ HB.out aj.out⟩
 ·replace c5:=Bool.eq_false_iff.mpr c5
  subst c5
  have H1:(some (0,false))=some (r1,r2):=by rw [if_neg (show ¬ (false=true) by decide)] at H;exact H
  clear H
  have H:=H1
  clear H1
  simp only [Option.some.injEq,Prod.mk.injEq] at H
  obtain ⟨rfl,rfl⟩:=H
  go_enter Try.func42,Try.ntmps42
  go_wp2_with (first | ((with_reducible refine gate_dst (N:=3) rfl ?_);(try (refine gate_guard (by rfl) ?_;dsimp only));refine box_event ?hg (N:=3) ?hd (cs:=#[.slice A0_0 l0_0.length c0_0,.slice A0_1 l0_1.length c0_1]) (t:=27) ?hr ?_;(case hd=>rfl);(case hg=>rfl);(case hr=>first | (go_simp;done) | (go_simp;rfl));intro aq hg w24 hbox hb;replace aa:=am_ (hbox);replace aV:=am_ ((by rw [hg];exact (below_size (b0_ HB.out)):w.heap.size≤aq));replace aj:=am_ ((by rw [hg];exact (below_size (b0_ HB.out)):w.heap.size≤aq));replace HB:=am_ (below_step (b0_ HB.out) hb);clear hb hbox hg;have bJ:=ck_ (v:=(.slice A0_0 l0_0.length c0_0)) aa 0 rfl;have bK:=ck_ (v:=(.slice A0_1 l0_1.length c0_1)) aa 1 rfl;have bL:=blk_frozen aa.out 0;have bM:=blk_frozen aa.out 1) | ((with_reducible refine gate_callee (f:=39) rfl ?_);refine gL_ (some 9) Try.func39 #[.agg #[.slice A0_0 l0_0.length c0_0,.slice A0_1 l0_1.length c0_1]] ?_;(with_reducible refine (impl_IsValidDfa.calls _ _ l0_0 _ _ l0_1 false _ ?side1 ?side2 ?side3 ?side4 A4.out).mono ?_);(case side1=>exact rc_ (Kd.C_below ai.out HB.out));(case side2=>exact al.out);(case side3=>exact rc_ (Kd.C_below am.out HB.out));(case side4=>exact ao.out);rintro e w26 ⟨rfl,hb⟩;refine ⟨_,rfl,?_⟩;have n0_:=am_ (blk_below (rb_ aa.out) hb);have n1_:=am_ (below_step (b1_ HB.out aj.out) hb);clear aa;clear HB;have aa:=n0_;have HB:=n1_;clear n0_ n1_;(try clear hb);(try clear hb2);(try clear hk);(try clear hi)))
  go_ret2
  exact ⟨by first | rfl | (simp [errW_none,errW_some] <;> rfl) | (simp [*,errW_none,errW_some] <;> rfl),by exact zp3_0_ HB.out aj.out⟩
def impl_AcceptsWord.f (k:Nat) (l0_0:List Bool) (l0_1:List (List Int)) (a1:ByteArray):Option (Bool):=(impl_RunDfa.f k l0_0 l0_1 0 a1).bind fun bt121=>(if bt121.2=true then (if 0≤bt121.1 then (if bt121.1<(l0_0.length:Int) then (some (rdOf false l0_0 bt121.1)) else (none)) else (none)) else (some false))
theorem impl_AcceptsWord.mono:∀ a0 a1 a2 k,LeO (impl_AcceptsWord.f k a0 a1 a2) (impl_AcceptsWord.f (k+1) a0 a1 a2):=by
 intro a0 a1 a2 k
 unfold impl_AcceptsWord.f
 repeat' first
  | (with_reducible exact impl_RunDfa.mono _ _ _ _ _)
  | (with_reducible exact LeO.refl _)
  | (with_reducible exact LeO.none _)
  | (with_reducible refine LeO.ite ?_ ?_)
  | (with_reducible refine LeO.bind ?_ (fun _=>?_))
  | exact impl_RunDfa.mono _ _ _ _ _
  | exact LeO.none _
  | refine LeO.ite ?_ ?_
  | refine LeO.bind ?_ (fun _=>?_)
set_option maxHeartbeats 8000000 in
set_option maxRecDepth 100000 in
theorem impl_AcceptsWord.calls (k:Nat) (A0_0:Option Addr) (c0_0:Nat) (l0_0:List Bool) (A0_1:Option Addr) (c0_1:Nat) (l0_1:List (List Int)) (a1:ByteArray) (r:Bool) (w:World) (hr0_0:Kd.C Kd.bool w A0_0 l0_0.length l0_0) (hc0_0:l0_0.length≤c0_0) (hr0_1:Kd.C (Kd.slice 3 (Kd.int .i64)) w A0_1 l0_1.length l0_1) (hc0_1:l0_1.length≤c0_1) (h:impl_AcceptsWord.f k l0_0 l0_1 a1=some r) :
  Calls Try.prog 34 #[.agg #[.slice A0_0 l0_0.length c0_0,.slice A0_1 l0_1.length c0_1],.string a1] w fun e w'=>e = .returned (.bool r)∧Below w.heap.size w w':=by
 have hu27:=Try.underlying27
 have ai:=am_ hr0_0
 have al:=am_ hc0_0
 clear hr0_0 hc0_0
 have am:=am_ hr0_1
 have ao:=am_ hc0_1
 clear hr0_1 hc0_1
 have HB:=am_ (Below.refl w.heap.size w)
 have H:((impl_RunDfa.f k l0_0 l0_1 0 a1).bind fun bt121=>(if bt121.2=true then (if 0≤bt121.1 then (if bt121.1<(l0_0.length:Int) then (some (rdOf false l0_0 bt121.1)) else (none)) else (none)) else (some false)))=some r:=h
 clear h
 replace H:=Option.bind_eq_some_iff.mp H
 obtain ⟨⟨av,bh⟩,A30,H⟩:=H
 have A3:=am_ A30
 clear A30
 by_cases c4:bh=true
 ·subst c4
  have H1:(if 0≤av then (if av<(l0_0.length:Int) then (some (rdOf false l0_0 av)) else (none)) else (none))=some r:=by rw [if_pos rfl] at H;exact H
  clear H
  have H:=H1
  clear H1
  by_cases c5:0≤av
  ·rw [if_pos c5] at H
   have c5b0:decide (0≤av)=true:=decide_eq_true c5
   clear c5
   by_cases c6:av<(l0_0.length:Int)
   ·rw [if_pos c6] at H
    have c6b0:decide (av<(l0_0.length:Int))=true:=decide_eq_true c6
    clear c6
    obtain rfl:=Option.some.inj H
    simp only [Option.some.injEq,Prod.mk.injEq] at H
    obtain ⟨rfl⟩:=H
    go_enter Try.func34,Try.ntmps34
    go_wp2_with (first | ((with_reducible refine gate_dst (N:=2) rfl ?_);refine box_event ?hg (N:=2) ?hd (cs:=#[.slice A0_0 l0_0.length c0_0,.slice A0_1 l0_1.length c0_1]) (t:=27) ?hr ?_;(case hd=>rfl);(case hg=>rfl);(case hr=>first | (go_simp;done) | (go_simp;rfl));intro aG hg w7 hbox hb;replace ad:=am_ (hbox);replace bf:=am_ ((by rw [hg];exact (below_size (b0_ HB.out)):w.heap.size≤aG));replace aH:=am_ ((by rw [hg];exact (below_size (b0_ HB.out)):w.heap.size≤aG));replace HB:=am_ (below_step (b0_ HB.out) hb);clear hb hbox hg;have bN:=ck_ (v:=(.slice A0_0 l0_0.length c0_0)) ad 0 rfl;have bO:=ck_ (v:=(.slice A0_1 l0_1.length c0_1)) ad 1 rfl;have bP:=blk_frozen ad.out 0;have bQ:=blk_frozen ad.out 1) | ((with_reducible refine gate_callee (f:=42) rfl ?_);refine gL_ (some 10) Try.func42 #[.agg #[.slice A0_0 l0_0.length c0_0,.slice A0_1 l0_1.length c0_1],.int .i64 0,.string a1] ?_;(with_reducible refine (impl_RunDfa.calls k _ _ l0_0 _ _ l0_1 0 a1 av true _ ?side1 ?side2 ?side3 ?side4 A3.out).mono ?_);(case side1=>exact rc_ (Kd.C_below ai.out HB.out));(case side2=>exact al.out);(case side3=>exact rc_ (Kd.C_below am.out HB.out));(case side4=>exact ao.out);rintro e w9 ⟨rfl,hb⟩;refine ⟨_,rfl,?_⟩;have n0_:=am_ (blk_below (rb_ ad.out) hb);have n1_:=am_ (below_step (b1_ HB.out aH.out) hb);clear ad;clear HB;have ad:=n0_;have HB:=n1_;clear n0_ n1_;(try clear hb);(try clear hb2);(try clear hk);(try clear hi);have ba:=ck_ (v:=(.slice A0_0 l0_0.length c0_0)) ad 0 rfl;have bb:=ck_ (v:=(.slice A0_1 l0_1.length c0_1)) ad 1 rfl;have bc:=blk_frozen ad.out 0;have bd:=blk_frozen ad.out 1;have p123:0≤(av:Int):=of_decide_eq_true ah_;have q123:av<(l0_0.length:Int):=of_decide_eq_true ah_;obtain ⟨bW,e123,aM⟩:=Kd.at_bool ai.out av p123 q123;cases e123;replace aM:=(HB.out.cell (World.block_lt_of_cell? w _ aM)).trans aM;replace p123:=eq_true p123;replace q123:=eq_true q123))
    go_ret
    exact ⟨by first | rfl | (simp [errW_none,errW_some] <;> rfl) | (simp [*,errW_none,errW_some] <;> rfl),by exact zp3_0_ HB.out aH.out⟩
   ·rw [if_neg c6] at H
    exact absurd H (by simp)
  ·rw [if_neg c5] at H
   exact absurd H (by simp)
 ·replace c4:=Bool.eq_false_iff.mpr c4
  subst c4
  have H1:(some false)=some r:=by rw [if_neg (show ¬ (false=true) by decide)] at H;exact H
  clear H
  have H:=H1
  clear H1
  obtain rfl:=Option.some.inj H
  simp only [Option.some.injEq,Prod.mk.injEq] at H
  obtain ⟨rfl⟩:=H
  go_enter Try.func34,Try.ntmps34
  go_wp2_with (first | ((with_reducible refine gate_dst (N:=2) rfl ?_);refine box_event ?hg (N:=2) ?hd (cs:=#[.slice A0_0 l0_0.length c0_0,.slice A0_1 l0_1.length c0_1]) (t:=27) ?hr ?_;(case hd=>rfl);(case hg=>rfl);(case hr=>first | (go_simp;done) | (go_simp;rfl));intro aG hg w11 hbox hb;replace ad:=am_ (hbox);replace bf:=am_ ((by rw [hg];exact (below_size (b0_ HB.out)):w.heap.size≤aG));replace aH:=am_ ((by rw [hg];exact (below_size (b0_ HB.out)):w.heap.size≤aG));replace HB:=am_ (below_step (b0_ HB.out) hb);clear hb hbox hg;have aR:=ck_ (v:=(.slice A0_0 l0_0.length c0_0)) ad 0 rfl;have aS:=ck_ (v:=(.slice A0_1 l0_1.length c0_1)) ad 1 rfl;have aT:=blk_frozen ad.out 0;have aU:=blk_frozen ad.out 1) | ((with_reducible refine gate_callee (f:=42) rfl ?_);refine gL_ (some 10) Try.func42 #[.agg #[.slice A0_0 l0_0.length c0_0,.slice A0_1 l0_1.length c0_1],.int .i64 0,.string a1] ?_;(with_reducible refine (impl_RunDfa.calls k _ _ l0_0 _ _ l0_1 0 a1 av false _ ?side1 ?side2 ?side3 ?side4 A3.out).mono ?_);(case side1=>exact rc_ (Kd.C_below ai.out HB.out));(case side2=>exact al.out);(case side3=>exact rc_ (Kd.C_below am.out HB.out));(case side4=>exact ao.out);rintro e w13 ⟨rfl,hb⟩;refine ⟨_,rfl,?_⟩;have n0_:=am_ (blk_below (rb_ ad.out) hb);have n1_:=am_ (below_step (b1_ HB.out aH.out) hb);clear ad;clear HB;have ad:=n0_;have HB:=n1_;clear n0_ n1_;(try clear hb);(try clear hb2);(try clear hk);(try clear hi)))
  go_ret
  exact ⟨by first | rfl | (simp [errW_none,errW_some] <;> rfl) | (simp [*,errW_none,errW_some] <;> rfl),by exact zp3_0_ HB.out aH.out⟩
def spec_l1In.f (a0:Int) (a1:Int) (a2:Int):Option (Bool):=if a0 ≥ a1 then (some (decide (a0≤a2))) else (some false)
set_option maxHeartbeats 8000000 in
set_option maxRecDepth 100000 in
theorem spec_l1In.calls (a0:Int) (a1:Int) (a2:Int) (r:Bool) (w:World) (h:spec_l1In.f a0 a1 a2=some r) :
  Calls Try.prog 95 #[.int .i64 a0,.int .i64 a1,.int .i64 a2] w fun e w'=>e = .returned (.bool r)∧Drawn0 w w':=by
 have H:(if a0 ≥ a1 then (some (decide (a0≤a2))) else (some false))=some r:=h
 clear h
 by_cases c4:a0 ≥ a1
 ·rw [if_pos c4] at H
  have c4b0:decide (a1≤a0)=true:=decide_eq_true c4
  clear c4
  obtain rfl:=Option.some.inj H
  simp only [Option.some.injEq,Prod.mk.injEq] at H
  obtain ⟨rfl⟩:=H
  go_enter Try.func95,Try.ntmps95
  go_wp2
  go_ret
  exact ⟨by first | rfl | (simp;done) | (simp [*];done),by repeat (first | exact Drawn0.refl _ | apply Drawn0.step)⟩
 ·rw [if_neg c4] at H
  have c4b0:decide (a1≤a0)=false:=decide_eq_false c4
  clear c4
  obtain rfl:=Option.some.inj H
  simp only [Option.some.injEq,Prod.mk.injEq] at H
  obtain ⟨rfl⟩:=H
  go_enter Try.func95,Try.ntmps95
  go_wp2
  go_ret
  exact ⟨by first | rfl | (simp;done) | (simp [*];done),by repeat (first | exact Drawn0.refl _ | apply Drawn0.step)⟩
end Go.Proofs.Ytogamkblkoobkaa.P
end
section
namespace Go.Proofs.Ytogamkblkoobkaa.P
open Go.RowKit Go.Proofs.YtogamkblkoobkaaW.PrintWords Go.Proofs.YtogamkblkoobkaaW.PrintLast Go.Proofs.YtogamkblkoobkaaW.PrintMore
attribute [local go_sem] max2_int min2_int max_two min_two max_three min_three max_four min_four
mutual
def spec_IsValidDfa.j0:Nat→Int→Bool→List Bool→List (List Int)→Option (Bool)
 | 0,_,_,_,_=>none
 | k+1,x3,x18,al,ae=>if x18=true then (some false) else (spec_IsValidDfa.l0 k x3 0 al ae)
def spec_IsValidDfa.l0:Nat→Int→Int→List Bool→List (List Int)→Option (Bool)
 | 0,_,_,_,_=>none
 | k+1,x3,x4,al,ae=>if x4<x3 then (if 0≤x4 then (if x4<(ae.length:Int) then (if ((rd_L1 ae x4).length:Int)=3 then (spec_IsValidDfa.l1 k x3 x4 0 al ae) else (some false)) else (none)) else (none)) else (some true)
def spec_IsValidDfa.l1:Nat→Int→Int→Int→List Bool→List (List Int)→Option (Bool)
 | 0,_,_,_,_,_=>none
 | k+1,x3,x4,x5,al,ae=>if 0≤x4 then (if x4<(ae.length:Int) then (if x5<((rd_L1 ae x4).length:Int) then (if 0≤x5 then ((spec_l1In.f (rd (rd_L1 ae x4) x5) 0 (wrap64 (x3 - 1))).bind fun aF=>(if aF=true then (spec_IsValidDfa.l1 k x3 x4 (wrap64 (x5+1)) al ae) else (some false))) else (none)) else (spec_IsValidDfa.l0 k x3 (wrap64 (x4+1)) al ae)) else (none)) else (none)
end
def spec_IsValidDfa.f (k:Nat) (l0_0:List Bool) (l0_1:List (List Int)):Option (Bool):=(spec_l1In.f (l0_0.length:Int) 1 40).bind fun ar=>(if ar=true then (spec_IsValidDfa.j0 k (l0_0.length:Int) ((l0_1.length:Int) != (l0_0.length:Int)) l0_0 l0_1) else (spec_IsValidDfa.j0 k (l0_0.length:Int) true l0_0 l0_1))
theorem spec_IsValidDfa.mono_l:∀ k,(∀ y0 y1 y2 y3,LeO (spec_IsValidDfa.j0 k y0 y1 y2 y3) (spec_IsValidDfa.j0 (k+1) y0 y1 y2 y3))∧(∀ y0 y1 y2 y3,LeO (spec_IsValidDfa.l0 k y0 y1 y2 y3) (spec_IsValidDfa.l0 (k+1) y0 y1 y2 y3))∧(∀ y0 y1 y2 y3 y4,LeO (spec_IsValidDfa.l1 k y0 y1 y2 y3 y4) (spec_IsValidDfa.l1 (k+1) y0 y1 y2 y3 y4))
 | 0=>⟨fun _ _ _ _ r h=>by simp [spec_IsValidDfa.j0] at h,fun _ _ _ _ r h=>by simp [spec_IsValidDfa.l0] at h,fun _ _ _ _ _ r h=>by simp [spec_IsValidDfa.l1] at h⟩
 | k+1=>by
  obtain ⟨ih0,ih1,ih2⟩:=spec_IsValidDfa.mono_l k
  refine ⟨?_,?_,?_⟩
  ·intro y0 y1 y2 y3
   unfold spec_IsValidDfa.j0
   repeat' first
   | (with_reducible exact ih0 _ _ _ _)
   | (with_reducible exact ih1 _ _ _ _)
   | (with_reducible exact ih2 _ _ _ _ _)
   | (with_reducible exact LeO.refl _)
   | (with_reducible exact LeO.none _)
   | (with_reducible refine LeO.ite ?_ ?_)
   | (with_reducible refine LeO.bind ?_ (fun _=>?_))
   | exact ih0 _ _ _ _
   | exact ih1 _ _ _ _
   | exact ih2 _ _ _ _ _
   | exact LeO.none _
   | refine LeO.ite ?_ ?_
   | refine LeO.bind ?_ (fun _=>?_)
  ·intro y0 y1 y2 y3
   unfold spec_IsValidDfa.l0
   repeat' first
   | (with_reducible exact ih0 _ _ _ _)
   | (with_reducible exact ih1 _ _ _ _)
   | (with_reducible exact ih2 _ _ _ _ _)
   | (with_reducible exact LeO.refl _)
   | (with_reducible exact LeO.none _)
   | (with_reducible refine LeO.ite ?_ ?_)
   | (with_reducible refine LeO.bind ?_ (fun _=>?_))
   | exact ih0 _ _ _ _
   | exact ih1 _ _ _ _
   | exact ih2 _ _ _ _ _
   | exact LeO.none _
   | refine LeO.ite ?_ ?_
   | refine LeO.bind ?_ (fun _=>?_)
  ·intro y0 y1 y2 y3 y4
   unfold spec_IsValidDfa.l1
   repeat' first
   | (with_reducible exact ih0 _ _ _ _)
   | (with_reducible exact ih1 _ _ _ _)
   | (with_reducible exact ih2 _ _ _ _ _)
   | (with_reducible exact LeO.refl _)
   | (with_reducible exact LeO.none _)
   | (with_reducible refine LeO.ite ?_ ?_)
   | (with_reducible refine LeO.bind ?_ (fun _=>?_))
   | exact ih0 _ _ _ _
   | exact ih1 _ _ _ _
   | exact ih2 _ _ _ _ _
   | exact LeO.none _
   | refine LeO.ite ?_ ?_
   | refine LeO.bind ?_ (fun _=>?_)
theorem spec_IsValidDfa.mono:∀ a0 a1 k,LeO (spec_IsValidDfa.f k a0 a1) (spec_IsValidDfa.f (k+1) a0 a1):=by
 intro a0 a1 k
 obtain ⟨ih0,ih1,ih2⟩:=spec_IsValidDfa.mono_l k
 unfold spec_IsValidDfa.f
 repeat' first
  | (with_reducible exact ih0 _ _ _ _)
  | (with_reducible exact ih1 _ _ _ _)
  | (with_reducible exact ih2 _ _ _ _ _)
  | (with_reducible exact LeO.refl _)
  | (with_reducible exact LeO.none _)
  | (with_reducible refine LeO.ite ?_ ?_)
  | (with_reducible refine LeO.bind ?_ (fun _=>?_))
  | exact ih0 _ _ _ _
  | exact ih1 _ _ _ _
  | exact ih2 _ _ _ _ _
  | exact LeO.none _
  | refine LeO.ite ?_ ?_
  | refine LeO.bind ?_ (fun _=>?_)
theorem zp4_0_ {p q g1:Prop} (h:p) (h1:g1) (c:p→g1→q:=by intro h_ h1_;repeat (first | (with_reducible first | exact h_ | apply below_alloc | apply pw_below_drewN | apply below_drew1 | refine below_set ?_ h1_) | exact h_)):q:=c h h1
set_option maxHeartbeats 8000000 in
set_option maxRecDepth 100000 in
theorem spec_IsValidDfa.calls (k:Nat) (A0_0:Option Addr) (c0_0:Nat) (l0_0:List Bool) (A0_1:Option Addr) (c0_1:Nat) (l0_1:List (List Int)) (r:Bool) (w:World) (hr0_0:Kd.C Kd.bool w A0_0 l0_0.length l0_0) (hc0_0:l0_0.length≤c0_0) (hr0_1:Kd.C (Kd.slice 3 (Kd.int .i64)) w A0_1 l0_1.length l0_1) (hc0_1:l0_1.length≤c0_1) (h:spec_IsValidDfa.f k l0_0 l0_1=some r) :
  Calls Try.prog 35 #[.agg #[.slice A0_0 l0_0.length c0_0,.slice A0_1 l0_1.length c0_1]] w fun e w'=>e = .returned (.bool r)∧Below w.heap.size w w':=by
 have hu27:=Try.underlying27
 have bf:=am_ hr0_0
 have bg:=am_ hc0_0
 clear hr0_0 hc0_0
 have am:=am_ hr0_1
 have bh:=am_ hc0_1
 clear hr0_1 hc0_1
 have HB:=am_ (Below.refl w.heap.size w)
 have H:((spec_l1In.f (l0_0.length:Int) 1 40).bind fun ar=>(if ar=true then (spec_IsValidDfa.j0 k (l0_0.length:Int) ((l0_1.length:Int) != (l0_0.length:Int)) l0_0 l0_1) else (spec_IsValidDfa.j0 k (l0_0.length:Int) true l0_0 l0_1)))=some r:=h
 clear h
 have HC2:=am_ H
 clear H
 go_enter Try.func35,Try.ntmps35
 go_upto_region 2 with (first | ((with_reducible refine gate_dst (N:=1) rfl ?_);(try (refine gate_guard (by rfl) ?_;dsimp only));refine box_event ?hg (N:=1) ?hd (cs:=#[.slice A0_0 l0_0.length c0_0,.slice A0_1 l0_1.length c0_1]) (t:=27) ?hr ?_;(case hd=>rfl);(case hg=>rfl);(case hr=>first | (go_simp;done) | (go_simp;rfl));intro an hg w3 hbox hb;replace ab:=am_ (hbox);replace bi:=am_ ((by rw [hg];exact (below_size (b0_ HB.out)):w.heap.size≤an));replace aj:=am_ ((by rw [hg];exact (below_size (b0_ HB.out)):w.heap.size≤an));replace HB:=am_ (below_step (b0_ HB.out) hb);clear hb hbox hg;have au:=ck_ (v:=(.slice A0_0 l0_0.length c0_0)) ab 0 rfl;have av:=ck_ (v:=(.slice A0_1 l0_1.length c0_1)) ab 1 rfl;have aw:=blk_frozen ab.out 0;have ax:=blk_frozen ab.out 1))
 (try simp only [Act.put,List.setIfInBounds_toArray,List.set_cons_zero,List.set_cons_succ])
 go_cut [18] (fun v18 wc=>∃ (kq:Nat) (aq:Bool),v18 = .bool aq∧Aside0 (spec_IsValidDfa.j0 kq (l0_0.length:Int) aq l0_0 l0_1=some r)∧Aside0 (kq≤k)∧Aside0 (wc.heap[an]? = some (.cells #[(.slice A0_0 l0_0.length c0_0),(.slice A0_1 l0_1.length c0_1)] 27 (0,0)))∧Aside0 (Below w.heap.size w wc))
 case first =>
  have H:=HC2.out
  clear HC2
  replace H:=Option.bind_eq_some_iff.mp H
  obtain ⟨ar,A50,H⟩:=H
  have A5:=am_ A50
  clear A50
  by_cases c6:ar=true
  ·subst c6
   have H1:(spec_IsValidDfa.j0 k (l0_0.length:Int) ((l0_1.length:Int) != (l0_0.length:Int)) l0_0 l0_1)=some r:=by rw [if_pos rfl] at H;exact H
   clear H
   have H:=H1
   clear H1
   have H':=am_ H
   clear H
   go_wp2_with (first | ((with_reducible refine gate_callee (f:=95) rfl ?_);refine gL_ (some 10) Try.func95 #[.int .i64 (l0_0.length:Int),.int .i64 1,.int .i64 40] ?_;(with_reducible refine (spec_l1In.calls (l0_0.length:Int) 1 40 true _ A5.out).mono ?_);rintro e w' ⟨rfl,⟨nd,rfl⟩⟩;refine ⟨_,rfl,?_⟩;have ay:=ck_ (v:=(.slice A0_0 l0_0.length c0_0)) ab 0 rfl;have az:=ck_ (v:=(.slice A0_1 l0_1.length c0_1)) ab 1 rfl;have aA:=blk_frozen ab.out 0;have aB:=blk_frozen ab.out 1))
   go_meet
   case rel=>exact ⟨_,(((l0_1.length:Int) != (l0_0.length:Int))),(by first | rfl | (simp;done) | (simp [*];done)),H',⟨by first | omega | exact Nat.le_refl _⟩,⟨by refine rb_ ?_;exact ab.out⟩,⟨by exact zp4_0_ HB.out aj.out⟩⟩
  ·replace c6:=Bool.eq_false_iff.mpr c6
   subst c6
   have H1:(spec_IsValidDfa.j0 k (l0_0.length:Int) true l0_0 l0_1)=some r:=by rw [if_neg (show ¬ (false=true) by decide)] at H;exact H
   clear H
   have H:=H1
   clear H1
   have H':=am_ H
   clear H
   go_wp2_with (first | ((with_reducible refine gate_callee (f:=95) rfl ?_);refine gL_ (some 10) Try.func95 #[.int .i64 (l0_0.length:Int),.int .i64 1,.int .i64 40] ?_;(with_reducible refine (spec_l1In.calls (l0_0.length:Int) 1 40 false _ A5.out).mono ?_);rintro e w' ⟨rfl,⟨nd,rfl⟩⟩;refine ⟨_,rfl,?_⟩))
   go_meet
   case rel=>exact ⟨_,(true),(by first | rfl | (simp;done) | (simp [*];done)),H',⟨by first | omega | exact Nat.le_refl _⟩,⟨by refine rb_ ?_;exact ab.out⟩,⟨by exact zp4_0_ HB.out aj.out⟩⟩
 case rest =>
  clear HC2
  try clear p2
  try clear c3
  try clear c6
  try clear au
  try clear av
  try clear ay
  try clear az
  try clear aw
  try clear ax
  try clear aA
  try clear aB
  obtain ⟨kq,aq,rfl,HA,HJ1,ab,HB⟩:=hcut
  cases kq with
  | zero=>exact absurd HA.out (by simp [spec_IsValidDfa.j0])
  | succ kj1 =>
   have H:=HA.out
   clear HA
   simp only [spec_IsValidDfa.j0] at H
   by_cases c8:aq=true
   ·subst c8
    have H1:(some false)=some r:=by rw [if_pos rfl] at H;exact H
    clear H
    have H:=H1
    clear H1
    obtain rfl:=Option.some.inj H
    simp only [Option.some.injEq,Prod.mk.injEq] at H
    obtain ⟨rfl⟩:=H
    go_wp2
    go_ret
    exact ⟨by first | rfl | (simp [errW_none,errW_some] <;> rfl) | (simp [*,errW_none,errW_some] <;> rfl),by exact zp4_0_ HB.out aj.out⟩
   ·replace c8:=Bool.eq_false_iff.mpr c8
    subst c8
    have H1:(spec_IsValidDfa.l0 kj1 (l0_0.length:Int) 0 l0_0 l0_1)=some r:=by rw [if_neg (show ¬ (false=true) by decide)] at H;exact H
    clear H
    have H:=H1
    clear H1
    have H':=am_ H
    clear H
    go_wp2
    go_loopg [4] kj1 (fun kq v4 w'=>∃ (aa:Int),v4 = .int .i64 aa∧Aside0 (spec_IsValidDfa.l0 kq (l0_0.length:Int) aa l0_0 l0_1=some r)∧Aside0 (kq≤kj1)∧Aside0 (w'.heap[an]? = some (.cells #[(.slice A0_0 l0_0.length c0_0),(.slice A0_1 l0_1.length c0_1)] 27 (0,0)))∧Aside0 (Below w.heap.size w w'))
    case atStart=>exact ⟨(0),(by first | rfl | (simp;done) | (simp [*];done)),H',⟨Nat.le_refl _⟩,⟨by refine rb_ ?_;exact ab.out⟩,⟨by exact zp4_0_ HB.out aj.out⟩⟩
    case round =>
     clear H'
     try clear p2
     try clear c3
     try clear c6
     try clear c8
     try clear au
     try clear av
     try clear ay
     try clear az
     try clear aw
     try clear ax
     try clear aA
     try clear aB
     try clear p2
     obtain ⟨aa,rfl,HA,HK2,ab,HB⟩:=hrel
     cases gk with
     | zero=>exact absurd HA.out (by simp [spec_IsValidDfa.l0])
     | succ k2 =>
      have H:=HA.out
      clear HA
      simp only [spec_IsValidDfa.l0] at H
      by_cases c9:aa<(l0_0.length:Int)
      ·rw [if_pos c9] at H
       have c9b0:decide (aa<(l0_0.length:Int))=true:=decide_eq_true c9
       clear c9
       by_cases c10:0≤aa
       ·rw [if_pos c10] at H
        have c10b0:decide (0≤aa)=true:=decide_eq_true c10
        clear c10
        by_cases c11:aa<(l0_1.length:Int)
        ·rw [if_pos c11] at H
         have c11b0:decide (aa<(l0_1.length:Int))=true:=decide_eq_true c11
         clear c11
         by_cases c12:((rd_L1 l0_1 aa).length:Int)=3
         ·rw [if_pos c12] at H
          have c12b0:(((rd_L1 l0_1 aa).length:Int) == 3)=true:=beq_iff_eq.mpr c12
          have c12b1:(((rd_L1 l0_1 aa).length:Int) != 3)=false:=bne_eq_false_iff_eq.mpr c12
          clear c12
          have H':=am_ H
          clear H
          have aG:=ck_ (v:=(.slice A0_0 l0_0.length c0_0)) ab 0 rfl
          have aH:=ck_ (v:=(.slice A0_1 l0_1.length c0_1)) ab 1 rfl
          have aI:=blk_frozen ab.out 0
          have aJ:=blk_frozen ab.out 1
          have p131:0≤(aa:Int):=of_decide_eq_true ah_
          have q131:aa<(l0_1.length:Int):=of_decide_eq_true ah_
          obtain ⟨ak,A131_0,c131_0,e131,ah,hl131_0,hi131_0⟩:=at_L1 am.out aa p131 q131
          cases e131
          replace ah:=(HB.out.cell (World.block_lt_of_cell? w _ ah)).trans ah
          have aK:=am_ hi131_0
          have aL:=am_ hl131_0
          clear hi131_0 hl131_0
          replace p131:=eq_true p131
          replace q131:=eq_true q131
          go_wp2
          go_loopg [5] k2 (fun kq v5 w'=>∃ (af:Int),v5 = .int .i64 af∧Aside0 (spec_IsValidDfa.l1 kq (l0_0.length:Int) aa af l0_0 l0_1=some r)∧Aside0 (kq≤k2)∧Aside0 (w'.heap[an]? = some (.cells #[(.slice A0_0 l0_0.length c0_0),(.slice (some ak) l0_1.length c0_1)] 27 (0,0)))∧Aside0 (Below w.heap.size w w'))
          case atStart=>exact ⟨(0),(by first | rfl | (simp;done) | (simp [*];done)),H',⟨Nat.le_refl _⟩,⟨by refine rb_ ?_;exact ab.out⟩,⟨by exact zp4_0_ HB.out aj.out⟩⟩
          case round =>
           clear H'
           try clear c1
           try clear p1
           try clear q1
           try clear hx1
           try clear p2
           try clear c3
           try clear c6
           try clear c8
           try clear c9
           try clear c9b0
           try clear c10
           try clear c10b0
           try clear c11
           try clear c11b0
           try clear c12
           try clear c12b0
           try clear c12b1
           try clear c13
           try clear p13
           try clear q13
           try clear hx13
           try clear aG
           try clear aH
           try clear au
           try clear av
           try clear ay
           try clear az
           try clear aI
           try clear aJ
           try clear aw
           try clear ax
           try clear aA
           try clear aB
           try clear ah
           try clear p131
           try clear p2
           try clear q131
           obtain ⟨af,rfl,HA,HK3,ab,HB⟩:=hrel
           cases gk with
           | zero=>exact absurd HA.out (by simp [spec_IsValidDfa.l1])
           | succ k3 =>
            have H:=HA.out
            clear HA
            simp only [spec_IsValidDfa.l1] at H
            by_cases c14:0≤aa
            ·rw [if_pos c14] at H
             have c14b0:decide (0≤aa)=true:=decide_eq_true c14
             clear c14
             by_cases c15:aa<(l0_1.length:Int)
             ·rw [if_pos c15] at H
              have c15b0:decide (aa<(l0_1.length:Int))=true:=decide_eq_true c15
              clear c15
              by_cases c16:af<((rd_L1 l0_1 aa).length:Int)
              ·rw [if_pos c16] at H
               have c16b0:decide (af<((rd_L1 l0_1 aa).length:Int))=true:=decide_eq_true c16
               clear c16
               by_cases c17:0≤af
               ·rw [if_pos c17] at H
                have c17b0:decide (0≤af)=true:=decide_eq_true c17
                clear c17
                replace H:=Option.bind_eq_some_iff.mp H
                obtain ⟨aF,aN,H⟩:=H
                have A18:=am_ aN
                clear aN
                by_cases c19:aF=true
                ·subst c19
                 have H1:(spec_IsValidDfa.l1 k3 (l0_0.length:Int) aa (wrap64 (af+1)) l0_0 l0_1)=some r:=by rw [if_pos rfl] at H;exact H
                 clear H
                 have H:=H1
                 clear H1
                 have H':=am_ H
                 clear H
                 have aP:=ck_ (v:=(.slice A0_0 l0_0.length c0_0)) ab 0 rfl
                 have aQ:=ck_ (v:=(.slice (some ak) l0_1.length c0_1)) ab 1 rfl
                 have aR:=blk_frozen ab.out 0
                 have aS:=blk_frozen ab.out 1
                 have p132:0≤(aa:Int):=of_decide_eq_true ah_
                 have q132:aa<(l0_1.length:Int):=of_decide_eq_true ah_
                 obtain ⟨ao,A132_0,c132_0,e132,ad,hl132_0,hi132_0⟩:=at_L1 am.out aa p132 q132
                 obtain rfl:ak=ao:=(by injection e132)
                 replace ad:=(HB.out.cell (World.block_lt_of_cell? w _ ad)).trans ad
                 have aC:=am_ hi132_0
                 have aD:=am_ hl132_0
                 clear hi132_0 hl132_0
                 replace p132:=eq_true p132
                 replace q132:=eq_true q132
                 have p133:0≤(aa:Int):=of_decide_eq_true ah_
                 have q133:aa<(l0_1.length:Int):=of_decide_eq_true ah_
                 obtain ⟨aE,A133_0,c133_0,e133,ag,hl133_0,hi133_0⟩:=at_L1 am.out aa p133 q133
                 obtain rfl:ak=aE:=(by injection e133)
                 replace ag:=(HB.out.cell (World.block_lt_of_cell? w _ ag)).trans ag
                 have ap:=am_ hi133_0
                 have aM:=am_ hl133_0
                 clear hi133_0 hl133_0
                 replace p133:=eq_true p133
                 replace q133:=eq_true q133
                 have ea_:=Option.some.inj (ad.symm.trans ag)
                 injection ea_ with ea_ en_ ec_
                 subst ea_
                 subst ec_
                 clear en_
                 have p134:0≤(af:Int):=of_decide_eq_true ah_
                 have q134:af<((rd_L1 l0_1 aa).length:Int):=of_decide_eq_true ah_
                 obtain ⟨aO,e134,ai⟩:=Kd.at_int ap.out af p134 q134
                 cases e134
                 replace ai:=(HB.out.cell (World.block_lt_of_cell? w _ ai)).trans ai
                 replace p134:=eq_true p134
                 replace q134:=eq_true q134
                 go_wp2_with (first | ((with_reducible refine gate_callee (f:=95) rfl ?_);refine gL_ (some 51) Try.func95 #[.int .i64 (rd (rd_L1 l0_1 aa) af),.int .i64 0,.int .i64 (wrap64 ((l0_0.length:Int) - 1))] ?_;(with_reducible refine (spec_l1In.calls (rd (rd_L1 l0_1 aa) af) 0 (wrap64 ((l0_0.length:Int) - 1)) true _ A18.out).mono ?_);rintro e w' ⟨rfl,⟨nd,rfl⟩⟩;refine ⟨_,rfl,?_⟩))
                 go_roundg k3
                 case measure=>have:=HJ1.out;have:=HK2.out;have:=HK3.out;omega
                 case rel=>exact ⟨(wrap64 (af+1)),(by first | rfl | (simp;done) | (simp [*];done)),H',⟨by have:=HJ1.out;have:=HK2.out;have:=HK3.out;omega⟩,⟨by refine rb_ ?_;exact ab.out⟩,⟨by exact zp4_0_ HB.out aj.out⟩⟩
                ·replace c19:=Bool.eq_false_iff.mpr c19
                 subst c19
                 have H1:(some false)=some r:=by rw [if_neg (show ¬ (false=true) by decide)] at H;exact H
                 clear H
                 have H:=H1
                 clear H1
                 obtain rfl:=Option.some.inj H
                 simp only [Option.some.injEq,Prod.mk.injEq] at H
                 obtain ⟨rfl⟩:=H
                 have aT:=ck_ (v:=(.slice A0_0 l0_0.length c0_0)) ab 0 rfl
                 have aU:=ck_ (v:=(.slice (some ak) l0_1.length c0_1)) ab 1 rfl
                 have aV:=blk_frozen ab.out 0
                 have aW:=blk_frozen ab.out 1
                 have p132:0≤(aa:Int):=of_decide_eq_true ah_
                 have q132:aa<(l0_1.length:Int):=of_decide_eq_true ah_
                 obtain ⟨ao,A132_0,c132_0,e132,ad,hl132_0,hi132_0⟩:=at_L1 am.out aa p132 q132
                 obtain rfl:ak=ao:=(by injection e132)
                 replace ad:=(HB.out.cell (World.block_lt_of_cell? w _ ad)).trans ad
                 have aC:=am_ hi132_0
                 have aD:=am_ hl132_0
                 clear hi132_0 hl132_0
                 replace p132:=eq_true p132
                 replace q132:=eq_true q132
                 have p133:0≤(aa:Int):=of_decide_eq_true ah_
                 have q133:aa<(l0_1.length:Int):=of_decide_eq_true ah_
                 obtain ⟨aE,A133_0,c133_0,e133,ag,hl133_0,hi133_0⟩:=at_L1 am.out aa p133 q133
                 obtain rfl:ak=aE:=(by injection e133)
                 replace ag:=(HB.out.cell (World.block_lt_of_cell? w _ ag)).trans ag
                 have ap:=am_ hi133_0
                 have aM:=am_ hl133_0
                 clear hi133_0 hl133_0
                 replace p133:=eq_true p133
                 replace q133:=eq_true q133
                 have ea_:=Option.some.inj (ad.symm.trans ag)
                 injection ea_ with ea_ en_ ec_
                 subst ea_
                 subst ec_
                 clear en_
                 have p134:0≤(af:Int):=of_decide_eq_true ah_
                 have q134:af<((rd_L1 l0_1 aa).length:Int):=of_decide_eq_true ah_
                 obtain ⟨aO,e134,ai⟩:=Kd.at_int ap.out af p134 q134
                 cases e134
                 replace ai:=(HB.out.cell (World.block_lt_of_cell? w _ ai)).trans ai
                 replace p134:=eq_true p134
                 replace q134:=eq_true q134
                 go_wp2_with (first | ((with_reducible refine gate_callee (f:=95) rfl ?_);refine gL_ (some 51) Try.func95 #[.int .i64 (rd (rd_L1 l0_1 aa) af),.int .i64 0,.int .i64 (wrap64 ((l0_0.length:Int) - 1))] ?_;(with_reducible refine (spec_l1In.calls (rd (rd_L1 l0_1 aa) af) 0 (wrap64 ((l0_0.length:Int) - 1)) false _ A18.out).mono ?_);rintro e w' ⟨rfl,⟨nd,rfl⟩⟩;refine ⟨_,rfl,?_⟩))
                 go_ret
                 exact ⟨by first | rfl | (simp [errW_none,errW_some] <;> rfl) | (simp [*,errW_none,errW_some] <;> rfl),by exact zp4_0_ HB.out aj.out⟩
               ·rw [if_neg c17] at H
                exact absurd H (by simp)
              ·rw [if_neg c16] at H
               have c16b0:decide (af<((rd_L1 l0_1 aa).length:Int))=false:=decide_eq_false c16
               clear c16
               have H':=am_ H
               clear H
               have aX:=ck_ (v:=(.slice A0_0 l0_0.length c0_0)) ab 0 rfl
               have aY:=ck_ (v:=(.slice (some ak) l0_1.length c0_1)) ab 1 rfl
               have aZ:=blk_frozen ab.out 0
               have ba:=blk_frozen ab.out 1
               have p132:0≤(aa:Int):=of_decide_eq_true ah_
               have q132:aa<(l0_1.length:Int):=of_decide_eq_true ah_
               obtain ⟨ao,A132_0,c132_0,e132,ad,hl132_0,hi132_0⟩:=at_L1 am.out aa p132 q132
               obtain rfl:ak=ao:=(by injection e132)
               replace ad:=(HB.out.cell (World.block_lt_of_cell? w _ ad)).trans ad
               have aC:=am_ hi132_0
               have aD:=am_ hl132_0
               clear hi132_0 hl132_0
               replace p132:=eq_true p132
               replace q132:=eq_true q132
               go_wp2
               go_roundg k3
               case measure=>have:=HJ1.out;have:=HK2.out;have:=HK3.out;omega
               case rel=>exact ⟨(wrap64 (aa+1)),(by first | rfl | (simp;done) | (simp [*];done)),H',⟨by have:=HJ1.out;have:=HK2.out;have:=HK3.out;omega⟩,⟨by refine rb_ ?_;exact ab.out⟩,⟨by exact zp4_0_ HB.out aj.out⟩⟩
             ·rw [if_neg c15] at H
              exact absurd H (by simp)
            ·rw [if_neg c14] at H
             exact absurd H (by simp)
         ·rw [if_neg c12] at H
          have c12b0:(((rd_L1 l0_1 aa).length:Int) == 3)=false:=beq_eq_false_iff_ne.mpr c12
          have c12b1:(((rd_L1 l0_1 aa).length:Int) != 3)=true:=bne_iff_ne.mpr c12
          obtain rfl:=Option.some.inj H
          simp only [Option.some.injEq,Prod.mk.injEq] at H
          obtain ⟨rfl⟩:=H
          have bb:=ck_ (v:=(.slice A0_0 l0_0.length c0_0)) ab 0 rfl
          have bc:=ck_ (v:=(.slice A0_1 l0_1.length c0_1)) ab 1 rfl
          have bd:=blk_frozen ab.out 0
          have be:=blk_frozen ab.out 1
          have p131:0≤(aa:Int):=of_decide_eq_true ah_
          have q131:aa<(l0_1.length:Int):=of_decide_eq_true ah_
          obtain ⟨ak,A131_0,c131_0,e131,ah,hl131_0,hi131_0⟩:=at_L1 am.out aa p131 q131
          cases e131
          replace ah:=(HB.out.cell (World.block_lt_of_cell? w _ ah)).trans ah
          have aK:=am_ hi131_0
          have aL:=am_ hl131_0
          clear hi131_0 hl131_0
          replace p131:=eq_true p131
          replace q131:=eq_true q131
          go_wp2
          go_ret
          exact ⟨by first | rfl | (simp [errW_none,errW_some] <;> rfl) | (simp [*,errW_none,errW_some] <;> rfl),by exact zp4_0_ HB.out aj.out⟩
        ·rw [if_neg c11] at H
         exact absurd H (by simp)
       ·rw [if_neg c10] at H
        exact absurd H (by simp)
      ·rw [if_neg c9] at H
       have c9b0:decide (aa<(l0_0.length:Int))=false:=decide_eq_false c9
       clear c9
       obtain rfl:=Option.some.inj H
       simp only [Option.some.injEq,Prod.mk.injEq] at H
       obtain ⟨rfl⟩:=H
       go_wp2
       go_ret
       exact ⟨by first | rfl | (simp [errW_none,errW_some] <;> rfl) | (simp [*,errW_none,errW_some] <;> rfl),by exact zp4_0_ HB.out aj.out⟩
end Go.Proofs.Ytogamkblkoobkaa.P
end
section
namespace Go.Proofs.Ytogamkblkoobkaa.Pl
open Go.RowKit Go.Proofs.Ytogamkblkoobkaa.P Go.Proofs.YtogamkblkoobkaaW.PrintWords Go.Proofs.YtogamkblkoobkaaW.PrintLast Go.Proofs.YtogamkblkoobkaaW.PrintMore Wk
theorem rows_get (xs:List (List Int)) (i:Nat) (h:i<xs.length):rd_L1 xs i=xs[i]:=by
 simp [rd_L1,List.getD_eq_getElem?_getD,h]
theorem spec_in (a lo hi:Int):spec_l1In.f a lo hi=some (decide (lo≤a) && decide (a≤hi)):=by
 unfold spec_l1In.f
 by_cases h:a ≥ lo
 ·rw [if_pos h,decide_eq_true (show lo≤a from h),Bool.true_and]
 ·rw [if_neg h,decide_eq_false (show ¬ lo≤a from h),Bool.false_and]
theorem impl_in (a lo hi:Int):impl_within.f a lo hi=some (decide (lo≤a) && decide (a≤hi)):=by
 unfold impl_within.f
 by_cases h:a ≥ lo
 ·rw [if_pos h,decide_eq_true (show lo≤a from h),Bool.true_and]
 ·rw [if_neg h,decide_eq_false (show ¬ lo≤a from h),Bool.false_and]
theorem badState_eq (n q:Int):badState n q = !(decide (0≤q) && decide (q≤n - 1)):=by
 unfold badState
 cases decide (0≤q) <;> cases decide (q≤n - 1) <;> rfl
theorem spec_valid_l1 (acc:List Bool) (nxt:List (List Int)) (q:Nat) (hq:q<nxt.length) (hnl:nxt.length≤1048576) (h3:nxt[q].length=3) (hn1:1≤acc.length) (hn:acc.length≤40) (res:Bool) (h:Ev (fun k=>spec_IsValidDfa.l0 k (acc.length:Int) ((q+1:Nat):Int) acc nxt) res) :
  ∀ d i:Nat,i+d=3→Ev (fun k=>spec_IsValidDfa.l1 k (acc.length:Int) q i acc nxt) (if (nxt[q].drop i).any (badState acc.length)=true then false else res):=by
 intro d
 induction d with
 | zero =>
  intro i hd
  refine next ?_
  simp only [spec_IsValidDfa.l1,if_pos (show (0:Int)≤q by omega),if_pos (show (q:Int)<(nxt.length:Int) by omega),rows_get nxt q hq,if_neg (show ¬ (i:Int)<(nxt[q].length:Int) by omega)]
  rw [List.drop_eq_nil_of_le (by omega),List.any_nil,if_neg (by simp)]
  simp only [up1 (show q<9223372036854775807 by omega)]
  exact h
 | succ d ih =>
  intro i hd
  refine next ?_
  have hi:i<nxt[q].length:=by omega
  have hw:wrap64 ((acc.length:Int) - 1)=(acc.length:Int) - 1:=w64 (by omega) (by omega)
  simp only [spec_IsValidDfa.l1,if_pos (show (0:Int)≤q by omega),if_pos (show (q:Int)<(nxt.length:Int) by omega),rows_get nxt q hq,if_pos (show (i:Int)<(nxt[q].length:Int) by omega),if_pos (show (0:Int)≤i by omega),rd_get nxt[q] i hi,spec_in,Option.bind_some,hw,up1 (show i<9223372036854775807 by omega)]
  rw [List.drop_eq_getElem_cons hi,List.any_cons]
  have hbe:=badState_eq (acc.length:Int) nxt[q][i]
  by_cases hb:badState acc.length nxt[q][i]=true
  ·have hb2:(decide (0≤nxt[q][i]) && decide (nxt[q][i]≤(acc.length:Int) - 1))=false:=by
    rw [hb] at hbe
    cases hc:(decide (0≤nxt[q][i]) && decide (nxt[q][i]≤(acc.length:Int) - 1)) with
    | true=>rw [hc] at hbe;cases hbe
    | false=>rfl
   simp only [hb2,Bool.false_ne_true,if_false,hb,Bool.true_or,if_true]
   exact Ev.now _
  ·have hb2:(decide (0≤nxt[q][i]) && decide (nxt[q][i]≤(acc.length:Int) - 1))=true:=by
    rw [eq_false_of_ne_true hb] at hbe
    cases hc:(decide (0≤nxt[q][i]) && decide (nxt[q][i]≤(acc.length:Int) - 1)) with
    | true=>rfl
    | false=>rw [hc] at hbe;cases hbe
   simp only [hb2,if_true,eq_false_of_ne_true hb,Bool.false_or]
   exact ih (i+1) (by omega)
theorem spec_valid_l0 (acc:List Bool) (nxt:List (List Int)) (hl:nxt.length=acc.length) (hn1:1≤acc.length) (hn:acc.length≤40) :
  ∀ d q:Nat,q+d=acc.length→Ev (fun k=>spec_IsValidDfa.l0 k (acc.length:Int) q acc nxt) (!((nxt.drop q).any (badRow acc.length))):=by
 intro d
 induction d with
 | zero =>
  intro q hd
  refine next ?_
  simp only [spec_IsValidDfa.l0,if_neg (show ¬ (q:Int)<(acc.length:Int) by omega)]
  exact ev_some (by rw [List.drop_eq_nil_of_le (by omega)];rfl)
 | succ d ih =>
  intro q hd
  have hq:q<nxt.length:=by omega
  refine next ?_
  simp only [spec_IsValidDfa.l0,if_pos (show (q:Int)<(acc.length:Int) by omega),if_pos (show (0:Int)≤q by omega),if_pos (show (q:Int)<(nxt.length:Int) by omega),rows_get nxt q hq]
  rw [List.drop_eq_getElem_cons hq,List.any_cons]
  by_cases h3:nxt[q].length=3
  ·simp only [if_pos (show (nxt[q].length:Int)=3 by omega)]
   refine ev_eq (spec_valid_l1 acc nxt q hq (by omega) h3 hn1 hn _ (ih (q+1) (by omega)) 3 0 rfl) ?_
   rw [List.drop_zero]
   have e:badRow acc.length nxt[q]=nxt[q].any (badState acc.length):=by simp [badRow,h3]
   rw [e]
   cases nxt[q].any (badState acc.length) <;> simp
  ·simp only [if_neg (show ¬ (nxt[q].length:Int)=3 by omega)]
   exact ev_some (by simp [badRow,h3])
theorem spec_valid (acc:List Bool) (nxt:List (List Int)) (ha:acc.length≤1048576) (hn:nxt.length≤1048576):Ev (fun k=>spec_IsValidDfa.f k acc nxt) (validD acc nxt):=by
 have jt:∀ b:Bool,Ev (fun k=>spec_IsValidDfa.j0 k (acc.length:Int) true acc nxt) false:=by
  intro b
  refine next ?_
  simp only [spec_IsValidDfa.j0,if_true]
  exact Ev.now _
 simp only [spec_IsValidDfa.f,spec_in,Option.bind_some,validD]
 by_cases h:1≤acc.length∧acc.length≤40
 ·have e1:(decide ((1:Int)≤(acc.length:Int)) && decide ((acc.length:Int)≤40))=true:=by
   rw [decide_eq_true (show (1:Int)≤(acc.length:Int) by omega),decide_eq_true (show (acc.length:Int)≤40 by omega)];rfl
  simp only [e1,if_true,decide_eq_true h.1,decide_eq_true h.2,Bool.true_and]
  by_cases hl:nxt.length=acc.length
  ·have e2:((nxt.length:Int) != (acc.length:Int))=false:=by rw [bne_eq_false_iff_eq];omega
   simp only [e2,decide_eq_true hl,Bool.true_and]
   refine next ?_
   simp only [spec_IsValidDfa.j0,Bool.false_ne_true,if_false]
   exact spec_valid_l0 acc nxt hl h.1 h.2 acc.length 0 (by omega)
  ·have e2:((nxt.length:Int) != (acc.length:Int))=true:=by rw [bne_iff_ne];omega
   simp only [e2,decide_eq_false hl,Bool.false_and]
   exact jt true
 ·have e1:(decide ((1:Int)≤(acc.length:Int)) && decide ((acc.length:Int)≤40))=false:=by
   by_cases h1:1≤acc.length
   ·rw [decide_eq_false (show ¬ (acc.length:Int)≤40 by omega),Bool.and_false]
   ·rw [decide_eq_false (show ¬ (1:Int)≤(acc.length:Int) by omega),Bool.false_and]
  have e2:(decide (1≤acc.length) && decide (acc.length≤40))=false:=by
   by_cases h1:1≤acc.length
   ·rw [decide_eq_false (show ¬ acc.length≤40 by omega),Bool.and_false]
   ·rw [decide_eq_false h1,Bool.false_and]
  simp only [e1,e2,Bool.false_ne_true,if_false,Bool.false_and]
  exact jt true
theorem valid_facts {acc:List Bool} {nxt:List (List Int)} (h:validD acc nxt=true):1≤acc.length∧acc.length≤40∧nxt.length=acc.length∧∀ r ∈ nxt,r.length=3∧∀ x ∈ r,0≤x∧x<(acc.length:Int):=by
 simp only [validD,Bool.and_eq_true,decide_eq_true_eq,Bool.not_eq_true',List.any_eq_false] at h
 obtain ⟨⟨⟨h1,h2⟩,h3⟩,h4⟩:=h
 refine ⟨h1,h2,h3,fun r hr=>?_⟩
 have:=h4 r hr
 simp only [badRow,Bool.or_eq_true,decide_eq_true_eq,not_or,List.any_eq_true,not_exists,not_and] at this
 refine ⟨by omega,fun x hx=>?_⟩
 have hb:=this.2 x hx
 rw [badState_eq] at hb
 simp at hb
 omega
theorem next_range {acc:List Bool} {nxt:List (List Int)} (h:validD acc nxt=true) (q:Int) (h0:0≤q) (h1:q<(acc.length:Int)) (i:Int) (hi0:0≤i) (hi1:i<3):(rd_L1 nxt q).length=3∧0≤rd (rd_L1 nxt q) i∧rd (rd_L1 nxt q) i<(acc.length:Int):=by
 obtain ⟨_,_,hl,hr⟩:=valid_facts h
 obtain ⟨n,rfl⟩:=Int.eq_ofNat_of_zero_le h0
 obtain ⟨j,rfl⟩:=Int.eq_ofNat_of_zero_le hi0
 have hn:n<nxt.length:=by omega
 rw [rows_get nxt n hn]
 have h3:=hr nxt[n] (List.getElem_mem _)
 have hj:j<nxt[n].length:=by omega
 rw [rd_get _ j hj]
 exact ⟨h3.1,h3.2 _ (List.getElem_mem _)⟩
end Go.Proofs.Ytogamkblkoobkaa.Pl
end
section
namespace Go.Proofs.Ytogamkblkoobkaa.Wk
open Go.RowKit Go.Shelf Go.Proofs.Ytogamkblkoobkaa.P Go.Proofs.Ytogamkblkoobkaa.Pl Go.Proofs.Ytogamkblkoobkaa.Mp Go.Proofs.Ytogamkblkoobkaa.Bf Go.Proofs.YtogamkblkoobkaaW.PrintWords Go.Proofs.YtogamkblkoobkaaW.PrintLast Go.Proofs.YtogamkblkoobkaaW.PrintMore
abbrev wfI (x:Int):Prop:=(Lit.int .i64 x).wf=true
theorem mapInt:MapTy Try.prog 118 3 3 .i64 (Value.int .i64) wfI:=int_ty Try.prog Try.underlying118 Try.underlying3 Try.underlying3 (fun w=>by kernel_rfl)
abbrev IsM (w:World) (b:Nat) (m:Int→Option Int) (c:Nat):Prop:=MapIs Try.prog 3 3 .i64 (Value.int .i64) wfI w b m c
end Go.Proofs.Ytogamkblkoobkaa.Wk
end
section
namespace Go.Proofs.Ytogamkblkoobkaa.Bf
open Go.Proofs.Ytogamkblkoobkaa.Pl
theorem nodup_le {α:Type} [DecidableEq α]:∀ (s t:List α),s.Nodup→(∀ x ∈ s,x ∈ t)→s.length≤t.length
 | [],t,_,_=>Nat.zero_le _
 | a :: s,t,hn,hs=>by
  rw [List.nodup_cons] at hn
  have hm:=hs a List.mem_cons_self
  have h1:=nodup_le s (t.erase a) hn.2 (fun x hx=>by
   have hne:x ≠ a:=by rintro rfl;exact hn.1 hx
   exact (List.mem_erase_of_ne hne).mpr (hs x (List.mem_cons_of_mem _ hx)))
  rw [List.length_erase_of_mem hm] at h1
  have:=List.length_pos_of_mem hm
  simp only [List.length_cons]
  omega
theorem card_range (n:Nat) (s:List Int) (hn:s.Nodup) (h:∀ x ∈ s,0≤x∧x<n):s.length≤n:=by
 have:=nodup_le s ((List.range n).map fun (i:Nat)=>(i:Int)) hn (fun x hx=>by
  have:=h x hx
  exact List.mem_map.mpr ⟨x.toNat,List.mem_range.mpr (by omega),by omega⟩)
 simpa using this
end Go.Proofs.Ytogamkblkoobkaa.Bf
namespace Go.Proofs.Ytogamkblkoobkaa.Wk
open Go.RowKit Go.Shelf Go.Proofs.Ytogamkblkoobkaa.P Go.Proofs.Ytogamkblkoobkaa.Pl Go.Proofs.Ytogamkblkoobkaa.Mp Go.Proofs.Ytogamkblkoobkaa.Bf Go.Proofs.YtogamkblkoobkaaW.PrintWords Go.Proofs.YtogamkblkoobkaaW.PrintLast Go.Proofs.YtogamkblkoobkaaW.PrintMore
def nxD (l1:List (List Int)) (x:Int) (j:Nat):Int:=rd (l1.getD x.toNat []) j
theorem badState_eq2 (n q:Int):badState n q = !(decide (0≤q) && decide (q≤n - 1)):=by
 unfold badState
 cases decide (0≤q) <;> cases decide (q≤n - 1) <;> rfl
theorem validD_facts {l0:List Bool} {l1:List (List Int)} (h:validD l0 l1=true):1≤l0.length∧l0.length≤40∧l1.length=l0.length∧∀ r ∈ l1,r.length=3∧∀ q ∈ r,0≤q∧q<l0.length:=by
 simp only [validD,Bool.and_eq_true,decide_eq_true_eq,Bool.not_eq_true',List.any_eq_false] at h
 obtain ⟨⟨⟨h1,h2⟩,h3⟩,h4⟩:=h
 refine ⟨h1,h2,h3,fun r hr=>?_⟩
 have:=h4 r hr
 simp only [badRow,Bool.or_eq_true,decide_eq_true_eq,not_or,List.any_eq_true,not_exists,not_and] at this
 refine ⟨by omega,fun x hx=>?_⟩
 have hb:=this.2 x hx
 rw [badState_eq2] at hb
 simp at hb
 omega
end Go.Proofs.Ytogamkblkoobkaa.Wk
end
section
namespace Go.Proofs.Ytogamkblkoobkaa.Wk
open Go.RowKit Go.Proofs.Ytogamkblkoobkaa.P Go.Proofs.Ytogamkblkoobkaa.Mp Go.Proofs.Ytogamkblkoobkaa.Bf Go.Proofs.YtogamkblkoobkaaW.PrintWords Go.Proofs.YtogamkblkoobkaaW.PrintLast Go.Proofs.YtogamkblkoobkaaW.PrintMore
abbrev Q4:=Int × Int × Int × Int
def enc4 (x:Q4):Value:=.agg #[.int .i64 x.1,.int .i64 x.2.1,.int .i64 x.2.2.1,.int .i64 x.2.2.2]
abbrev wf4 (x:Q4):Prop:=wfI x.1∧wfI x.2.1∧wfI x.2.2.1∧wfI x.2.2.2
theorem laidOut4:laidOutB Try.prog=true:=by kernel_rfl
theorem arr4:Go.WideMaps.ArrKey Try.prog 120 3 4:=⟨Try.underlying120,by kernel_rfl,by kernel_rfl,by kernel_rfl⟩
theorem keyOf_four {P:Program} {k e:TypeId} {q:IntKind} (A:Go.WideMaps.ArrKey P k e 4) (he:P.underlying e=some (.int q)) (hsz:∃ m,P.types.size=m+1) {a b c d:Int} (wa:(Lit.int q a).wf=true) (wb:(Lit.int q b).wf=true) (wc:(Lit.int q c).wf=true) (wd:(Lit.int q d).wf=true) :
  keyOf P k (.agg #[.int q a,.int q b,.int q c,.int q d])=some (.string (keyBytes [.int q a,.int q b,.int q c,.int q d])):=by
 have hkt:=A.keyType hsz
 obtain ⟨m,hm⟩:=hsz
 unfold keyOf
 simp only [A.hu]
 rw [if_pos (by simp [hkt,Value.formed,A.hu,A.size]),hm]
 unfold Program.keyLits
 simp only [A.hu,Value.cells]
 rw [if_pos (by rw [A.size];rfl),show List.range 4 = [0,1,2,3] from rfl,List.mapM_cons,List.mapM_cons,List.mapM_cons,List.mapM_cons,List.mapM_nil]
 simp [A.one,Program.keyLits,he,wa,wb,wc,wd]
theorem key4 (x:Q4) (h:wf4 x):∃ l,keyOf Try.prog 120 (enc4 x)=some l:=⟨_,keyOf_four arr4 Try.underlying3 ⟨Try.prog.types.size - 1,by have:0<Try.prog.types.size:=of_decide_eq_true (by kernel_rfl);omega⟩ h.1 h.2.1 h.2.2.1 h.2.2.2⟩
theorem map4:MapTy Try.prog 119 120 3 .i64 enc4 wf4 where
 K:=Go.Maps.Keyed.of_law (deep_law_laid laidOut4 (m:=2) (by omega) (of_decide_eq_true (by kernel_rfl)) (by kernel_rfl) (by rw [Try.underlying120]))
 ht:=Try.underlying119
 he:=Try.underlying3
 hz:=fun w=>by kernel_rfl
 key:=key4
 inj:=fun x y h=>by
  unfold enc4 at h
  injection h with h
  have h1:=congrArg (fun z:Array Value=>z[0]?) h
  have h2:=congrArg (fun z:Array Value=>z[1]?) h
  have h3:=congrArg (fun z:Array Value=>z[2]?) h
  have h4:=congrArg (fun z:Array Value=>z[3]?) h
  simp at h1 h2 h3 h4
  obtain ⟨a,b,c,d⟩:=x
  obtain ⟨a',b',c',d'⟩:=y
  dsimp only at h1 h2 h3 h4
  rw [h1,h2,h3,h4]
abbrev IsM4 (w:World) (b:Nat) (m:Q4→Option Int) (c:Nat):Prop:=MapIs Try.prog 120 3 .i64 enc4 wf4 w b m c
end Go.Proofs.Ytogamkblkoobkaa.Wk
end
