/- Texts of the proof of FnExactDerivativeOf, put together. No condition. -/
import Derived.Test.YtldgkgdgcfllmaaQFnExactDerivativeOf2
import Derived.Test.YtldgkgdgcfllmaaQFnExactDerivativeOf4
import Derived.Shelf.Small.Strs
import Derived.Shelf.Strings.Search1
import Derived.Test.YtldgkgdgcfllmaaProg
import Derived.Test.YtldgkgdgcfllmaaQFnExactDerivativeOf3
section
namespace Go.Proofs.Ytldgkgdgcfllmaa.P
open Go.RowKit Go.Proofs.YtldgkgdgcfllmaaW.PrintWords Go.Proofs.YtldgkgdgcfllmaaW.PrintLast Go.Proofs.YtldgkgdgcfllmaaW.PrintMore
attribute [local go_sem] max2_int min2_int max_two min_two max_three min_three max_four min_four
set_option linter.unusedVariables false
set_option linter.unusedSimpArgs false
mutual
def spec_l3All.l0 : Nat → Int → Int → ByteArray → List (S29) → Option (Bool)
  | 0, _, _, _, _ => none
  | k + 1, x3, am, an, ae => if x3 < (ae.length : Int) then (if 0 ≤ x3 then ((spec_l3All.f k ((rd_T29 ae x3).f0) ((rd_T29 ae x3).f1) ((rd_T29 ae x3).f2)).bind fun ao => (if ao = true then (spec_l3All.l0 k (wrap64 (x3 + 1)) am an ae) else (some false))) else (none)) else (if am = 3 then (if (an.size : Int) = 1 then ((spec_IsWord.f k an).bind fun ap => (if ap = true then (some ((ae.length : Int) == 0)) else (some false))) else (some false)) else ((spec_l1In.f am 1 9).bind fun aq => (if aq = true then (if an.toList = ([] : List UInt8) then ((spec_l3Args.f k am).bind fun al => (some ((ae.length : Int) == al))) else (some false)) else (some false))))
def spec_l3All.f : Nat → Int → ByteArray → List (S29) → Option (Bool)
  | 0, _, _, _ => none
  | k + 1, a0_0, a0_1, l0_2 => spec_l3All.l0 k 0 a0_0 a0_1 l0_2
end
theorem spec_l3All.mono_l : ∀ k, (∀ y0 y1 y2, LeO (spec_l3All.f k y0 y1 y2) (spec_l3All.f (k + 1) y0 y1 y2)) ∧ (∀ y0 y1 y2 y3, LeO (spec_l3All.l0 k y0 y1 y2 y3) (spec_l3All.l0 (k + 1) y0 y1 y2 y3))
 | 0 => ⟨fun _ _ _ r h => by simp [spec_l3All.f] at h, fun _ _ _ _ r h => by simp [spec_l3All.l0] at h⟩
 | k + 1 => by
  obtain ⟨ih0, ih1⟩ := spec_l3All.mono_l k
  refine ⟨?_, ?_⟩
  ·intro y0 y1 y2
   unfold spec_l3All.f
   repeat' first
   | (with_reducible exact ih0 _ _ _)
   | (with_reducible exact ih1 _ _ _ _)
   | (with_reducible exact spec_IsWord.mono _ _)
   | (with_reducible exact spec_l3Args.mono _ _)
   | (with_reducible exact LeO.refl _)
   | (with_reducible exact LeO.none _)
   | (with_reducible refine LeO.ite ?_ ?_)
   | (with_reducible refine LeO.bind ?_ (fun _ => ?_))
   | exact ih0 _ _ _
   | exact ih1 _ _ _ _
   | exact spec_IsWord.mono _ _
   | exact spec_l3Args.mono _ _
   | exact LeO.none _
   | refine LeO.ite ?_ ?_
   | refine LeO.bind ?_ (fun _ => ?_)
  ·intro y0 y1 y2 y3
   unfold spec_l3All.l0
   repeat' first
   | (with_reducible exact ih0 _ _ _)
   | (with_reducible exact ih1 _ _ _ _)
   | (with_reducible exact spec_IsWord.mono _ _)
   | (with_reducible exact spec_l3Args.mono _ _)
   | (with_reducible exact LeO.refl _)
   | (with_reducible exact LeO.none _)
   | (with_reducible refine LeO.ite ?_ ?_)
   | (with_reducible refine LeO.bind ?_ (fun _ => ?_))
   | exact ih0 _ _ _
   | exact ih1 _ _ _ _
   | exact spec_IsWord.mono _ _
   | exact spec_l3Args.mono _ _
   | exact LeO.none _
   | refine LeO.ite ?_ ?_
   | refine LeO.bind ?_ (fun _ => ?_)
theorem spec_l3All.mono : ∀ a0 a1 a2 k, LeO (spec_l3All.f k a0 a1 a2) (spec_l3All.f (k + 1) a0 a1 a2) := by
 intro a0 a1 a2 k
 obtain ⟨ih0, ih1⟩ := spec_l3All.mono_l k
 exact ih0 a0 a1 a2
theorem zp11_0_ {p q g1 : Prop} (h : p) (h1 : g1) (c : p → g1 → q := by intro h_ h1_; repeat (first | (with_reducible first | exact h_ | apply below_alloc | apply pw_below_drewN | apply below_drew1 | refine below_set ?_ h1_) | exact h_)) : q := c h h1
set_option maxHeartbeats 8000000 in
set_option maxRecDepth 100000 in
theorem spec_l3All.calls (k : Nat) : ∀ (a0_0 : Int) (a0_1 : ByteArray) (A0_2 : Option Addr) (c0_2 : Nat) (l0_2 : List (S29)) (r : Bool) (w : World) (hr0_2 : Kd.C k29 w A0_2 l0_2.length l0_2) (hc0_2 : l0_2.length ≤ c0_2) (h : spec_l3All.f k a0_0 a0_1 l0_2 = some r),
  Calls Try.prog 43 #[.agg #[.int .i64 a0_0, .string a0_1, .slice A0_2 l0_2.length c0_2]] w fun e w' => e = .returned (.bool r) ∧ Below w.heap.size w w' := by
 induction k using Nat.strongRecOn with
 | _ k ih =>
 intro a0_0 a0_1 A0_2 c0_2 l0_2 r w hr0_2 hc0_2 h
 cases k with
 | zero => exact absurd h (by simp [spec_l3All.f])
 | succ k =>
 simp only [spec_l3All.f] at h
 have hu29 := Try.underlying29
 have ar := am_ hr0_2
 have bv := am_ hc0_2
 clear hr0_2 hc0_2
 have HB := am_ (Below.refl w.heap.size w)
 have H : (spec_l3All.l0 k 0 a0_0 a0_1 l0_2) = some r := h
 clear h
 have H' := am_ H
 clear H
 go_enter Try.func43, Try.ntmps43
 go_wp2_with (first | ((with_reducible refine gate_dst (N := 1) rfl ?_); (try (refine gate_guard (by rfl) ?_; dsimp only)); refine box_event ?hg (N := 1) ?hd (cs := #[.int .i64 a0_0, .string a0_1, .slice A0_2 l0_2.length c0_2]) (t := 29) ?hr ?_; (case hd => rfl); (case hg => rfl); (case hr => first | (go_simp; done) | (go_simp; rfl)); intro ak hg w2 hbox hb; replace aa := am_ (hbox); replace au := am_ ((by rw [hg]; exact (below_size (b0_ HB.out)) : w.heap.size ≤ ak)); replace ad := am_ ((by rw [hg]; exact (below_size (b0_ HB.out)) : w.heap.size ≤ ak)); replace HB := am_ (below_step (b0_ HB.out) hb); clear hb hbox hg))
 repeat (go_quiet (first | ((with_reducible refine gate_dst (N := 1) rfl ?_); (try (refine gate_guard (by rfl) ?_; dsimp only)); refine box_event ?hg (N := 1) ?hd (cs := #[.int .i64 a0_0, .string a0_1, .slice A0_2 l0_2.length c0_2]) (t := 29) ?hr ?_; (case hd => rfl); (case hg => rfl); (case hr => first | (go_simp; done) | (go_simp; rfl)); intro ak hg w2 hbox hb; replace aa := am_ (hbox); replace au := am_ ((by rw [hg]; exact (below_size (b0_ HB.out)) : w.heap.size ≤ ak)); replace ad := am_ ((by rw [hg]; exact (below_size (b0_ HB.out)) : w.heap.size ≤ ak)); replace HB := am_ (below_step (b0_ HB.out) hb); clear hb hbox hg)); try go_wp2_with (first | ((with_reducible refine gate_dst (N := 1) rfl ?_); (try (refine gate_guard (by rfl) ?_; dsimp only)); refine box_event ?hg (N := 1) ?hd (cs := #[.int .i64 a0_0, .string a0_1, .slice A0_2 l0_2.length c0_2]) (t := 29) ?hr ?_; (case hd => rfl); (case hg => rfl); (case hr => first | (go_simp; done) | (go_simp; rfl)); intro ak hg w2 hbox hb; replace aa := am_ (hbox); replace au := am_ ((by rw [hg]; exact (below_size (b0_ HB.out)) : w.heap.size ≤ ak)); replace ad := am_ ((by rw [hg]; exact (below_size (b0_ HB.out)) : w.heap.size ≤ ak)); replace HB := am_ (below_step (b0_ HB.out) hb); clear hb hbox hg)))
 go_loopg [3] k (fun kq v3 w' => ∃ (ab : Int), v3 = .int .i64 ab ∧ Aside0 (spec_l3All.l0 kq ab a0_0 a0_1 l0_2 = some r) ∧ Aside0 (kq ≤ k) ∧ Aside0 (w'.heap[ak]? = some (.cells #[.int .i64 a0_0, .string a0_1, (.slice A0_2 l0_2.length c0_2)] 29 (0, 0))) ∧ Aside0 (Below w.heap.size w w'))
 case atStart => exact ⟨(0), (by first | rfl | (simp; done) | (simp [*]; done)), H', ⟨Nat.le_refl _⟩, ⟨by refine rb_ ?_; exact aa.out⟩, ⟨by exact zp11_0_ HB.out ad.out⟩⟩
 case round =>
  clear H'
  try clear p2
  obtain ⟨ab, rfl, HA, HK1, aa, HB⟩ := hrel
  cases gk with
  | zero => exact absurd HA.out (by simp [spec_l3All.l0])
  | succ k1 =>
   have H := HA.out
   clear HA
   simp only [spec_l3All.l0] at H
   by_cases c3 : ab < (l0_2.length : Int)
   ·rw [if_pos c3] at H
    have c3b0 : decide (ab < (l0_2.length : Int)) = true := decide_eq_true c3
    clear c3
    by_cases c4 : 0 ≤ ab
    ·rw [if_pos c4] at H
     have c4b0 : decide (0 ≤ ab) = true := decide_eq_true c4
     clear c4
     replace H := Option.bind_eq_some_iff.mp H
     obtain ⟨ao, A50, H⟩ := H
     have A5 := am_ A50
     clear A50
     by_cases c6 : ao = true
     ·subst c6
      have H1 : (spec_l3All.l0 k1 (wrap64 (ab + 1)) a0_0 a0_1 l0_2) = some r := by rw [if_pos rfl] at H; exact H
      clear H
      have H := H1
      clear H1
      have H' := am_ H
      clear H
      have bj := ck_ (v := (.int .i64 a0_0)) aa 0 rfl
      have bk := ck_ (v := (.string a0_1)) aa 1 rfl
      have bl := ck_ (v := (.slice A0_2 l0_2.length c0_2)) aa 2 rfl
      have bm := blk_frozen aa.out 0
      have bn := blk_frozen aa.out 1
      have bo := blk_frozen aa.out 2
      have p207 : 0 ≤ (ab : Int) := of_decide_eq_true ah_
      have q207 : ab < (l0_2.length : Int) := of_decide_eq_true ah_
      obtain ⟨ay, A207_2, c207_2, e207, af, ag, ah, hl207_2, hi207_2⟩ := at_T29 ar.out ab p207 q207
      cases e207
      replace af := (HB.out.cell (World.block_lt_of_cell? w _ af)).trans af
      replace ag := (HB.out.cell (World.block_lt_of_cell? w _ ag)).trans ag
      replace ah := (HB.out.cell (World.block_lt_of_cell? w _ ah)).trans ah
      have ai := am_ hi207_2
      have aj := am_ hl207_2
      clear hi207_2 hl207_2
      replace p207 := eq_true p207
      replace q207 := eq_true q207
      go_wp2_with (first | (go_at_call 43; (with_reducible refine (ih k1 (by have := HK1.out; omega) ((rd_T29 l0_2 ab).f0) ((rd_T29 l0_2 ab).f1) _ _ ((rd_T29 l0_2 ab).f2) true _ ?side1 ?side2 A5.out).mono ?_); (case side1 => exact rc_ (Kd.C_below ai.out HB.out)); (case side2 => exact aj.out); rintro e w8 ⟨rfl, hb⟩; have n0_ := am_ (blk_below (rb_ aa.out) hb); have n1_ := am_ (below_step (b1_ HB.out ad.out) hb); clear aa; clear HB; have aa := n0_; have HB := n1_; clear n0_ n1_; (try clear hb); (try clear hb2); (try clear hk); (try clear hi)))
      repeat (go_quiet (first | (go_at_call 43; (with_reducible refine (ih k1 (by have := HK1.out; omega) ((rd_T29 l0_2 ab).f0) ((rd_T29 l0_2 ab).f1) _ _ ((rd_T29 l0_2 ab).f2) true _ ?side1 ?side2 A5.out).mono ?_); (case side1 => exact rc_ (Kd.C_below ai.out HB.out)); (case side2 => exact aj.out); rintro e w8 ⟨rfl, hb⟩; have n0_ := am_ (blk_below (rb_ aa.out) hb); have n1_ := am_ (below_step (b1_ HB.out ad.out) hb); clear aa; clear HB; have aa := n0_; have HB := n1_; clear n0_ n1_; (try clear hb); (try clear hb2); (try clear hk); (try clear hi))); try go_wp2_with (first | (go_at_call 43; (with_reducible refine (ih k1 (by have := HK1.out; omega) ((rd_T29 l0_2 ab).f0) ((rd_T29 l0_2 ab).f1) _ _ ((rd_T29 l0_2 ab).f2) true _ ?side1 ?side2 A5.out).mono ?_); (case side1 => exact rc_ (Kd.C_below ai.out HB.out)); (case side2 => exact aj.out); rintro e w8 ⟨rfl, hb⟩; have n0_ := am_ (blk_below (rb_ aa.out) hb); have n1_ := am_ (below_step (b1_ HB.out ad.out) hb); clear aa; clear HB; have aa := n0_; have HB := n1_; clear n0_ n1_; (try clear hb); (try clear hb2); (try clear hk); (try clear hi))))
      go_roundg k1
      case measure => have := HK1.out; omega
      case rel => exact ⟨(wrap64 (ab + 1)), (by first | rfl | (simp; done) | (simp [*]; done)), H', ⟨by have := HK1.out; omega⟩, ⟨by refine rb_ ?_; exact aa.out⟩, ⟨by exact zp11_0_ HB.out ad.out⟩⟩
     ·replace c6 := Bool.eq_false_iff.mpr c6
      subst c6
      have H1 : (some false) = some r := by rw [if_neg (show ¬ (false = true) by decide)] at H; exact H
      clear H
      have H := H1
      clear H1
      obtain rfl := Option.some.inj H
      simp only [Option.some.injEq, Prod.mk.injEq] at H
      obtain ⟨rfl⟩ := H
      have bp := ck_ (v := (.int .i64 a0_0)) aa 0 rfl
      have bq := ck_ (v := (.string a0_1)) aa 1 rfl
      have br := ck_ (v := (.slice A0_2 l0_2.length c0_2)) aa 2 rfl
      have bs := blk_frozen aa.out 0
      have bt := blk_frozen aa.out 1
      have bu := blk_frozen aa.out 2
      have p207 : 0 ≤ (ab : Int) := of_decide_eq_true ah_
      have q207 : ab < (l0_2.length : Int) := of_decide_eq_true ah_
      obtain ⟨ay, A207_2, c207_2, e207, af, ag, ah, hl207_2, hi207_2⟩ := at_T29 ar.out ab p207 q207
      cases e207
      replace af := (HB.out.cell (World.block_lt_of_cell? w _ af)).trans af
      replace ag := (HB.out.cell (World.block_lt_of_cell? w _ ag)).trans ag
      replace ah := (HB.out.cell (World.block_lt_of_cell? w _ ah)).trans ah
      have ai := am_ hi207_2
      have aj := am_ hl207_2
      clear hi207_2 hl207_2
      replace p207 := eq_true p207
      replace q207 := eq_true q207
      go_wp2_with (first | (go_at_call 43; (with_reducible refine (ih k1 (by have := HK1.out; omega) ((rd_T29 l0_2 ab).f0) ((rd_T29 l0_2 ab).f1) _ _ ((rd_T29 l0_2 ab).f2) false _ ?side1 ?side2 A5.out).mono ?_); (case side1 => exact rc_ (Kd.C_below ai.out HB.out)); (case side2 => exact aj.out); rintro e w10 ⟨rfl, hb⟩; have n0_ := am_ (blk_below (rb_ aa.out) hb); have n1_ := am_ (below_step (b1_ HB.out ad.out) hb); clear aa; clear HB; have aa := n0_; have HB := n1_; clear n0_ n1_; (try clear hb); (try clear hb2); (try clear hk); (try clear hi)))
      repeat (go_quiet (first | (go_at_call 43; (with_reducible refine (ih k1 (by have := HK1.out; omega) ((rd_T29 l0_2 ab).f0) ((rd_T29 l0_2 ab).f1) _ _ ((rd_T29 l0_2 ab).f2) false _ ?side1 ?side2 A5.out).mono ?_); (case side1 => exact rc_ (Kd.C_below ai.out HB.out)); (case side2 => exact aj.out); rintro e w10 ⟨rfl, hb⟩; have n0_ := am_ (blk_below (rb_ aa.out) hb); have n1_ := am_ (below_step (b1_ HB.out ad.out) hb); clear aa; clear HB; have aa := n0_; have HB := n1_; clear n0_ n1_; (try clear hb); (try clear hb2); (try clear hk); (try clear hi))); try go_wp2_with (first | (go_at_call 43; (with_reducible refine (ih k1 (by have := HK1.out; omega) ((rd_T29 l0_2 ab).f0) ((rd_T29 l0_2 ab).f1) _ _ ((rd_T29 l0_2 ab).f2) false _ ?side1 ?side2 A5.out).mono ?_); (case side1 => exact rc_ (Kd.C_below ai.out HB.out)); (case side2 => exact aj.out); rintro e w10 ⟨rfl, hb⟩; have n0_ := am_ (blk_below (rb_ aa.out) hb); have n1_ := am_ (below_step (b1_ HB.out ad.out) hb); clear aa; clear HB; have aa := n0_; have HB := n1_; clear n0_ n1_; (try clear hb); (try clear hb2); (try clear hk); (try clear hi))))
      go_ret
      exact ⟨by first | rfl | (simp [errW_none, errW_some] <;> rfl) | (simp [*, errW_none, errW_some] <;> rfl), by exact zp11_0_ HB.out ad.out⟩
    ·rw [if_neg c4] at H
     exact absurd H (by simp)
   ·rw [if_neg c3] at H
    have c3b0 : decide (ab < (l0_2.length : Int)) = false := decide_eq_false c3
    clear c3
    by_cases c11 : a0_0 = 3
    ·rw [if_pos c11] at H
     have c11b0 : (a0_0 == 3) = true := beq_iff_eq.mpr c11
     have c11b1 : (a0_0 != 3) = false := bne_eq_false_iff_eq.mpr c11
     clear c11
     by_cases c12 : (a0_1.size : Int) = 1
     ·rw [if_pos c12] at H
      have c12b0 : ((a0_1.size : Int) == 1) = true := beq_iff_eq.mpr c12
      have c12b1 : ((a0_1.size : Int) != 1) = false := bne_eq_false_iff_eq.mpr c12
      clear c12
      replace H := Option.bind_eq_some_iff.mp H
      obtain ⟨ap, av, H⟩ := H
      have A13 := am_ av
      clear av
      by_cases c14 : ap = true
      ·subst c14
       have H1 : (some ((l0_2.length : Int) == 0)) = some r := by rw [if_pos rfl] at H; exact H
       clear H
       have H := H1
       clear H1
       obtain rfl := Option.some.inj H
       simp only [Option.some.injEq, Prod.mk.injEq] at H
       obtain ⟨rfl⟩ := H
       have az := ck_ (v := (.int .i64 a0_0)) aa 0 rfl
       have aA := ck_ (v := (.string a0_1)) aa 1 rfl
       have aB := ck_ (v := (.slice A0_2 l0_2.length c0_2)) aa 2 rfl
       have aC := blk_frozen aa.out 0
       have aD := blk_frozen aa.out 1
       have aE := blk_frozen aa.out 2
       go_wp2_with (first | (go_at_call 51; (with_reducible refine (spec_IsWord.calls k1 a0_1 true _ A13.out).mono ?_); rintro e w' ⟨rfl, ⟨nd, rfl⟩⟩; (try first | exact ⟨rfl, _, World.drewN_drewN _ _ _⟩ | exact ⟨rfl, _, Eq.trans (World.drewN_drewN _ _ _) (congrArg (World.drewN _) (Nat.add_assoc _ _ _))⟩)))
       repeat (go_quiet (first | (go_at_call 51; (with_reducible refine (spec_IsWord.calls k1 a0_1 true _ A13.out).mono ?_); rintro e w' ⟨rfl, ⟨nd, rfl⟩⟩; (try first | exact ⟨rfl, _, World.drewN_drewN _ _ _⟩ | exact ⟨rfl, _, Eq.trans (World.drewN_drewN _ _ _) (congrArg (World.drewN _) (Nat.add_assoc _ _ _))⟩))); try go_wp2_with (first | (go_at_call 51; (with_reducible refine (spec_IsWord.calls k1 a0_1 true _ A13.out).mono ?_); rintro e w' ⟨rfl, ⟨nd, rfl⟩⟩; (try first | exact ⟨rfl, _, World.drewN_drewN _ _ _⟩ | exact ⟨rfl, _, Eq.trans (World.drewN_drewN _ _ _) (congrArg (World.drewN _) (Nat.add_assoc _ _ _))⟩))))
       go_ret
       exact ⟨by first | rfl | (simp [errW_none, errW_some] <;> rfl) | (simp [*, errW_none, errW_some] <;> rfl), by exact zp11_0_ HB.out ad.out⟩
      ·replace c14 := Bool.eq_false_iff.mpr c14
       subst c14
       have H1 : (some false) = some r := by rw [if_neg (show ¬ (false = true) by decide)] at H; exact H
       clear H
       have H := H1
       clear H1
       obtain rfl := Option.some.inj H
       simp only [Option.some.injEq, Prod.mk.injEq] at H
       obtain ⟨rfl⟩ := H
       have aF := ck_ (v := (.int .i64 a0_0)) aa 0 rfl
       have aG := ck_ (v := (.string a0_1)) aa 1 rfl
       have aH := ck_ (v := (.slice A0_2 l0_2.length c0_2)) aa 2 rfl
       have aI := blk_frozen aa.out 0
       have aJ := blk_frozen aa.out 1
       have aK := blk_frozen aa.out 2
       go_wp2_with (first | (go_at_call 51; (with_reducible refine (spec_IsWord.calls k1 a0_1 false _ A13.out).mono ?_); rintro e w' ⟨rfl, ⟨nd, rfl⟩⟩; (try first | exact ⟨rfl, _, World.drewN_drewN _ _ _⟩ | exact ⟨rfl, _, Eq.trans (World.drewN_drewN _ _ _) (congrArg (World.drewN _) (Nat.add_assoc _ _ _))⟩)))
       repeat (go_quiet (first | (go_at_call 51; (with_reducible refine (spec_IsWord.calls k1 a0_1 false _ A13.out).mono ?_); rintro e w' ⟨rfl, ⟨nd, rfl⟩⟩; (try first | exact ⟨rfl, _, World.drewN_drewN _ _ _⟩ | exact ⟨rfl, _, Eq.trans (World.drewN_drewN _ _ _) (congrArg (World.drewN _) (Nat.add_assoc _ _ _))⟩))); try go_wp2_with (first | (go_at_call 51; (with_reducible refine (spec_IsWord.calls k1 a0_1 false _ A13.out).mono ?_); rintro e w' ⟨rfl, ⟨nd, rfl⟩⟩; (try first | exact ⟨rfl, _, World.drewN_drewN _ _ _⟩ | exact ⟨rfl, _, Eq.trans (World.drewN_drewN _ _ _) (congrArg (World.drewN _) (Nat.add_assoc _ _ _))⟩))))
       go_ret
       exact ⟨by first | rfl | (simp [errW_none, errW_some] <;> rfl) | (simp [*, errW_none, errW_some] <;> rfl), by exact zp11_0_ HB.out ad.out⟩
     ·rw [if_neg c12] at H
      have c12b0 : ((a0_1.size : Int) == 1) = false := beq_eq_false_iff_ne.mpr c12
      have c12b1 : ((a0_1.size : Int) != 1) = true := bne_iff_ne.mpr c12
      obtain rfl := Option.some.inj H
      simp only [Option.some.injEq, Prod.mk.injEq] at H
      obtain ⟨rfl⟩ := H
      have aL := ck_ (v := (.int .i64 a0_0)) aa 0 rfl
      have aM := ck_ (v := (.string a0_1)) aa 1 rfl
      have aN := ck_ (v := (.slice A0_2 l0_2.length c0_2)) aa 2 rfl
      have aO := blk_frozen aa.out 0
      have aP := blk_frozen aa.out 1
      have aQ := blk_frozen aa.out 2
      go_wp2
      repeat (go_quiet (fail); try go_wp2)
      go_ret
      exact ⟨by first | rfl | (simp [errW_none, errW_some] <;> rfl) | (simp [*, errW_none, errW_some] <;> rfl), by exact zp11_0_ HB.out ad.out⟩
    ·rw [if_neg c11] at H
     have c11b0 : (a0_0 == 3) = false := beq_eq_false_iff_ne.mpr c11
     have c11b1 : (a0_0 != 3) = true := bne_iff_ne.mpr c11
     replace H := Option.bind_eq_some_iff.mp H
     obtain ⟨aq, aw, H⟩ := H
     have A18 := am_ aw
     clear aw
     by_cases c19 : aq = true
     ·subst c19
      have H1 : (if a0_1.toList = ([] : List UInt8) then ((spec_l3Args.f k1 a0_0).bind fun al => (some ((l0_2.length : Int) == al))) else (some false)) = some r := by rw [if_pos rfl] at H; exact H
      clear H
      have H := H1
      clear H1
      by_cases c20 : a0_1.toList = ([] : List UInt8)
      ·rw [if_pos c20] at H
       have c20b0 : (a0_1.toList == ([] : List UInt8)) = true := beq_iff_eq.mpr c20
       have c20b1 : (a0_1.toList != ([] : List UInt8)) = false := bne_eq_false_iff_eq.mpr c20
       clear c20
       replace H := Option.bind_eq_some_iff.mp H
       obtain ⟨al, ax, H⟩ := H
       replace H : (some ((l0_2.length : Int) == al)) = some r := H
       have A21 := am_ ax
       clear ax
       obtain rfl := Option.some.inj H
       simp only [Option.some.injEq, Prod.mk.injEq] at H
       obtain ⟨rfl⟩ := H
       have aR := ck_ (v := (.int .i64 a0_0)) aa 0 rfl
       have aS := ck_ (v := (.string a0_1)) aa 1 rfl
       have aT := ck_ (v := (.slice A0_2 l0_2.length c0_2)) aa 2 rfl
       have aU := blk_frozen aa.out 0
       have aV := blk_frozen aa.out 1
       have aW := blk_frozen aa.out 2
       go_wp2_with (first | (go_at_call 68; (with_reducible refine (spec_l1In.calls a0_0 1 9 true _ A18.out).mono ?_); rintro e w' ⟨rfl, ⟨nd, rfl⟩⟩; (try first | exact ⟨rfl, _, World.drewN_drewN _ _ _⟩ | exact ⟨rfl, _, Eq.trans (World.drewN_drewN _ _ _) (congrArg (World.drewN _) (Nat.add_assoc _ _ _))⟩)) | (go_at_call 69; (with_reducible refine (spec_l3Args.calls k1 a0_0 al _ A21.out).mono ?_); rintro e w' ⟨rfl, ⟨nd, rfl⟩⟩; (try first | exact ⟨rfl, _, World.drewN_drewN _ _ _⟩ | exact ⟨rfl, _, Eq.trans (World.drewN_drewN _ _ _) (congrArg (World.drewN _) (Nat.add_assoc _ _ _))⟩)))
       repeat (go_quiet (first | (go_at_call 68; (with_reducible refine (spec_l1In.calls a0_0 1 9 true _ A18.out).mono ?_); rintro e w' ⟨rfl, ⟨nd, rfl⟩⟩; (try first | exact ⟨rfl, _, World.drewN_drewN _ _ _⟩ | exact ⟨rfl, _, Eq.trans (World.drewN_drewN _ _ _) (congrArg (World.drewN _) (Nat.add_assoc _ _ _))⟩)) | (go_at_call 69; (with_reducible refine (spec_l3Args.calls k1 a0_0 al _ A21.out).mono ?_); rintro e w' ⟨rfl, ⟨nd, rfl⟩⟩; (try first | exact ⟨rfl, _, World.drewN_drewN _ _ _⟩ | exact ⟨rfl, _, Eq.trans (World.drewN_drewN _ _ _) (congrArg (World.drewN _) (Nat.add_assoc _ _ _))⟩))); try go_wp2_with (first | (go_at_call 68; (with_reducible refine (spec_l1In.calls a0_0 1 9 true _ A18.out).mono ?_); rintro e w' ⟨rfl, ⟨nd, rfl⟩⟩; (try first | exact ⟨rfl, _, World.drewN_drewN _ _ _⟩ | exact ⟨rfl, _, Eq.trans (World.drewN_drewN _ _ _) (congrArg (World.drewN _) (Nat.add_assoc _ _ _))⟩)) | (go_at_call 69; (with_reducible refine (spec_l3Args.calls k1 a0_0 al _ A21.out).mono ?_); rintro e w' ⟨rfl, ⟨nd, rfl⟩⟩; (try first | exact ⟨rfl, _, World.drewN_drewN _ _ _⟩ | exact ⟨rfl, _, Eq.trans (World.drewN_drewN _ _ _) (congrArg (World.drewN _) (Nat.add_assoc _ _ _))⟩))))
       go_ret
       exact ⟨by first | rfl | (simp [errW_none, errW_some] <;> rfl) | (simp [*, errW_none, errW_some] <;> rfl), by exact zp11_0_ HB.out ad.out⟩
      ·rw [if_neg c20] at H
       have c20b0 : (a0_1.toList == ([] : List UInt8)) = false := beq_eq_false_iff_ne.mpr c20
       have c20b1 : (a0_1.toList != ([] : List UInt8)) = true := bne_iff_ne.mpr c20
       obtain rfl := Option.some.inj H
       simp only [Option.some.injEq, Prod.mk.injEq] at H
       obtain ⟨rfl⟩ := H
       have aX := ck_ (v := (.int .i64 a0_0)) aa 0 rfl
       have aY := ck_ (v := (.string a0_1)) aa 1 rfl
       have aZ := ck_ (v := (.slice A0_2 l0_2.length c0_2)) aa 2 rfl
       have ba := blk_frozen aa.out 0
       have bb := blk_frozen aa.out 1
       have bc := blk_frozen aa.out 2
       go_wp2_with (first | (go_at_call 68; (with_reducible refine (spec_l1In.calls a0_0 1 9 true _ A18.out).mono ?_); rintro e w' ⟨rfl, ⟨nd, rfl⟩⟩; (try first | exact ⟨rfl, _, World.drewN_drewN _ _ _⟩ | exact ⟨rfl, _, Eq.trans (World.drewN_drewN _ _ _) (congrArg (World.drewN _) (Nat.add_assoc _ _ _))⟩)))
       repeat (go_quiet (first | (go_at_call 68; (with_reducible refine (spec_l1In.calls a0_0 1 9 true _ A18.out).mono ?_); rintro e w' ⟨rfl, ⟨nd, rfl⟩⟩; (try first | exact ⟨rfl, _, World.drewN_drewN _ _ _⟩ | exact ⟨rfl, _, Eq.trans (World.drewN_drewN _ _ _) (congrArg (World.drewN _) (Nat.add_assoc _ _ _))⟩))); try go_wp2_with (first | (go_at_call 68; (with_reducible refine (spec_l1In.calls a0_0 1 9 true _ A18.out).mono ?_); rintro e w' ⟨rfl, ⟨nd, rfl⟩⟩; (try first | exact ⟨rfl, _, World.drewN_drewN _ _ _⟩ | exact ⟨rfl, _, Eq.trans (World.drewN_drewN _ _ _) (congrArg (World.drewN _) (Nat.add_assoc _ _ _))⟩))))
       go_ret
       exact ⟨by first | rfl | (simp [errW_none, errW_some] <;> rfl) | (simp [*, errW_none, errW_some] <;> rfl), by exact zp11_0_ HB.out ad.out⟩
     ·replace c19 := Bool.eq_false_iff.mpr c19
      subst c19
      have H1 : (some false) = some r := by rw [if_neg (show ¬ (false = true) by decide)] at H; exact H
      clear H
      have H := H1
      clear H1
      obtain rfl := Option.some.inj H
      simp only [Option.some.injEq, Prod.mk.injEq] at H
      obtain ⟨rfl⟩ := H
      have bd := ck_ (v := (.int .i64 a0_0)) aa 0 rfl
      have be := ck_ (v := (.string a0_1)) aa 1 rfl
      have bf := ck_ (v := (.slice A0_2 l0_2.length c0_2)) aa 2 rfl
      have bg := blk_frozen aa.out 0
      have bh := blk_frozen aa.out 1
      have bi := blk_frozen aa.out 2
      go_wp2_with (first | (go_at_call 68; (with_reducible refine (spec_l1In.calls a0_0 1 9 false _ A18.out).mono ?_); rintro e w' ⟨rfl, ⟨nd, rfl⟩⟩; (try first | exact ⟨rfl, _, World.drewN_drewN _ _ _⟩ | exact ⟨rfl, _, Eq.trans (World.drewN_drewN _ _ _) (congrArg (World.drewN _) (Nat.add_assoc _ _ _))⟩)))
      repeat (go_quiet (first | (go_at_call 68; (with_reducible refine (spec_l1In.calls a0_0 1 9 false _ A18.out).mono ?_); rintro e w' ⟨rfl, ⟨nd, rfl⟩⟩; (try first | exact ⟨rfl, _, World.drewN_drewN _ _ _⟩ | exact ⟨rfl, _, Eq.trans (World.drewN_drewN _ _ _) (congrArg (World.drewN _) (Nat.add_assoc _ _ _))⟩))); try go_wp2_with (first | (go_at_call 68; (with_reducible refine (spec_l1In.calls a0_0 1 9 false _ A18.out).mono ?_); rintro e w' ⟨rfl, ⟨nd, rfl⟩⟩; (try first | exact ⟨rfl, _, World.drewN_drewN _ _ _⟩ | exact ⟨rfl, _, Eq.trans (World.drewN_drewN _ _ _) (congrArg (World.drewN _) (Nat.add_assoc _ _ _))⟩))))
      go_ret
      exact ⟨by first | rfl | (simp [errW_none, errW_some] <;> rfl) | (simp [*, errW_none, errW_some] <;> rfl), by exact zp11_0_ HB.out ad.out⟩
end Go.Proofs.Ytldgkgdgcfllmaa.P
end
section
namespace Go.Proofs
open Go.Shelf
def Try.lays137_ren : Go.Shelf.Ren := ⟨fun | 137 => 84 | 217 => 89 | 266 => 90 | n => n, fun | 9 => 9 | 5 => 5 | 3 => 3 | n => n, fun | n => n⟩
theorem Try.lays137 : Go.Proofs.Lays.n137 Try.prog Try.lays137_ren := {
  mixed := by kernel_rfl
  f137 := Try.func84.trans (congrArg some (by kernel_rfl))
  f217 := Try.func89.trans (congrArg some (by kernel_rfl))
  f266 := Try.func90.trans (congrArg some (by kernel_rfl))
  t3 := Try.underlying3
  a3 := Try.isAgg3
  z3 := Try.sizeOf3
  v3 := Try.zeroValue3
  t5 := Try.underlying5
  a5 := Try.isAgg5
  z5 := Try.sizeOf5
  v5 := Try.zeroValue5
  t9 := Try.underlying9
  a9 := Try.isAgg9
  z9 := Try.sizeOf9
  v9 := Try.zeroValue9 }
open Go.RowKit in
theorem Try.strings_IndexByte (s : ByteArray) (c : Int) (w : World) :
    Calls Try.prog 84 #[.string s, .int .u8 c] w fun e w' => e = .returned (.int .i64 (Lib.indexByte s.data.toList c.toNat.toUInt8)) ∧ w' = w := Any.strings_IndexByte Try.lays137 s c w
end Go.Proofs
end
section
namespace Go.Proofs.Ytldgkgdgcfllmaa.P
open Go.RowKit Go.Proofs.YtldgkgdgcfllmaaW.PrintWords Go.Proofs.YtldgkgdgcfllmaaW.PrintLast Go.Proofs.YtldgkgdgcfllmaaW.PrintMore
attribute [local go_sem] max2_int min2_int max_two min_two max_three min_three max_four min_four
set_option linter.unusedVariables false
set_option linter.unusedSimpArgs false
def spec_IsValidRegex.f (k : Nat) (a0_0 : Int) (a0_1 : ByteArray) (l0_2 : List (S29)) : Option (Bool) := (spec_l3Left.f k a0_0 a0_1 l0_2 16).bind fun af => (if af ≥ 0 then ((spec_l3Depth.f k a0_0 a0_1 l0_2).bind fun ag => (if ag ≤ 6 then ((spec_l3All.f k a0_0 a0_1 l0_2).bind fun ak => (some ak)) else (some false))) else (some false))
theorem spec_IsValidRegex.mono : ∀ a0 a1 a2 k, LeO (spec_IsValidRegex.f k a0 a1 a2) (spec_IsValidRegex.f (k + 1) a0 a1 a2) := by
  intro a0 a1 a2 k
  unfold spec_IsValidRegex.f
  repeat' first
      | (with_reducible exact spec_l3All.mono _ _ _ _)
      | (with_reducible exact spec_l3Depth.mono _ _ _ _)
      | (with_reducible exact spec_l3Left.mono _ _ _ _ _)
      | (with_reducible exact LeO.refl _)
      | (with_reducible exact LeO.none _)
      | (with_reducible refine LeO.ite ?_ ?_)
      | (with_reducible refine LeO.bind ?_ (fun _ => ?_))
      | exact spec_l3All.mono _ _ _ _
      | exact spec_l3Depth.mono _ _ _ _
      | exact spec_l3Left.mono _ _ _ _ _
      | exact LeO.none _
      | refine LeO.ite ?_ ?_
      | refine LeO.bind ?_ (fun _ => ?_)
set_option maxHeartbeats 8000000 in
set_option maxRecDepth 100000 in
theorem spec_IsValidRegex.calls (k : Nat) (a0_0 : Int) (a0_1 : ByteArray) (A0_2 : Option Addr) (c0_2 : Nat) (l0_2 : List (S29)) (r : Bool) (w : World) (hr0_2 : Kd.C k29 w A0_2 l0_2.length l0_2) (hc0_2 : l0_2.length ≤ c0_2) (h : spec_IsValidRegex.f k a0_0 a0_1 l0_2 = some r) :
    Calls Try.prog 17 #[.agg #[.int .i64 a0_0, .string a0_1, .slice A0_2 l0_2.length c0_2]] w fun e w' => e = .returned (.bool r) ∧ Below w.heap.size w w' := by
  have hu29 := Try.underlying29
  have ah := am_ hr0_2
  have ai := am_ hc0_2
  clear hr0_2 hc0_2
  have HB := am_ (Below.refl w.heap.size w)
  have H : ((spec_l3Left.f k a0_0 a0_1 l0_2 16).bind fun af => (if af ≥ 0 then ((spec_l3Depth.f k a0_0 a0_1 l0_2).bind fun ag => (if ag ≤ 6 then ((spec_l3All.f k a0_0 a0_1 l0_2).bind fun ak => (some ak)) else (some false))) else (some false))) = some r := h
  clear h
  replace H := Option.bind_eq_some_iff.mp H
  obtain ⟨af, A20, H⟩ := H
  have A2 := am_ A20
  clear A20
  by_cases c3 : af ≥ 0
  · rw [if_pos c3] at H
    have c3b0 : decide (0 ≤ af) = true := decide_eq_true c3
    clear c3
    replace H := Option.bind_eq_some_iff.mp H
    obtain ⟨ag, A40, H⟩ := H
    have A4 := am_ A40
    clear A40
    by_cases c5 : ag ≤ 6
    · rw [if_pos c5] at H
      have c5b0 : decide (ag ≤ 6) = true := decide_eq_true c5
      clear c5
      replace H := Option.bind_eq_some_iff.mp H
      obtain ⟨ak, A60, H⟩ := H
      replace H : (some ak) = some r := H
      have A6 := am_ A60
      clear A60
      obtain rfl := Option.some.inj H
      simp only [Option.some.injEq, Prod.mk.injEq] at H
      obtain ⟨rfl⟩ := H
      go_enter Try.func17, Try.ntmps17
      go_wp2_with (first | ((with_reducible refine gate_dst (N := 1) rfl ?_); refine box_event ?hg (N := 1) ?hd (cs := #[.int .i64 a0_0, .string a0_1, .slice A0_2 l0_2.length c0_2]) (t := 29) ?hr ?_; (case hd => rfl); (case hg => rfl); (case hr => first | (go_simp; done) | (go_simp; rfl)); intro ae hg w7 hbox hb; replace aa := am_ (hbox); replace ap := am_ ((by rw [hg]; exact (below_size (b0_ HB.out)) : w.heap.size ≤ ae)); replace ad := am_ ((by rw [hg]; exact (below_size (b0_ HB.out)) : w.heap.size ≤ ae)); replace HB := am_ (below_step (b0_ HB.out) hb); clear hb hbox hg; have aW := ck_ (v := (.int .i64 a0_0)) aa 0 rfl; have aX := ck_ (v := (.string a0_1)) aa 1 rfl; have aY := ck_ (v := (.slice A0_2 l0_2.length c0_2)) aa 2 rfl; have aZ := blk_frozen aa.out 0; have ba := blk_frozen aa.out 1; have bb := blk_frozen aa.out 2) | ((with_reducible refine gate_callee (f := 41) rfl ?_); refine gL_ (some 4) Try.func41 #[.agg #[.int .i64 a0_0, .string a0_1, .slice A0_2 l0_2.length c0_2], .int .i64 16] ?_; (with_reducible refine (spec_l3Left.calls k a0_0 a0_1 _ _ l0_2 16 af _ ?side1 ?side2 A2.out).mono ?_); (case side1 => exact rc_ (Kd.C_below ah.out HB.out)); (case side2 => exact ai.out); rintro e w9 ⟨rfl, hb⟩; refine ⟨_, rfl, ?_⟩; have n0_ := am_ (blk_below (rb_ aa.out) hb); have n1_ := am_ (below_step (b1_ HB.out ad.out) hb); clear aa; clear HB; have aa := n0_; have HB := n1_; clear n0_ n1_; (try clear hb); (try clear hb2); (try clear hk); (try clear hi); have aq := ck_ (v := (.int .i64 a0_0)) aa 0 rfl; have ar := ck_ (v := (.string a0_1)) aa 1 rfl; have au := ck_ (v := (.slice A0_2 l0_2.length c0_2)) aa 2 rfl; have av := blk_frozen aa.out 0; have aw := blk_frozen aa.out 1; have ax := blk_frozen aa.out 2) | (go_at_call 42; (with_reducible refine (spec_l3Depth.calls k a0_0 a0_1 _ _ l0_2 ag _ ?side1 ?side2 A4.out).mono ?_); (case side1 => exact rc_ (Kd.C_below ah.out HB.out)); (case side2 => exact ai.out); rintro e w11 ⟨rfl, hb⟩; have n0_ := am_ (blk_below (rb_ aa.out) hb); have n1_ := am_ (below_step (b1_ HB.out ad.out) hb); clear aa; clear HB; have aa := n0_; have HB := n1_; clear n0_ n1_; (try clear hb); (try clear hb2); (try clear hk); (try clear hi); have ay := ck_ (v := (.int .i64 a0_0)) aa 0 rfl; have az := ck_ (v := (.string a0_1)) aa 1 rfl; have aA := ck_ (v := (.slice A0_2 l0_2.length c0_2)) aa 2 rfl; have aB := blk_frozen aa.out 0; have aC := blk_frozen aa.out 1; have aD := blk_frozen aa.out 2) | (go_at_call 43; (with_reducible refine (spec_l3All.calls k a0_0 a0_1 _ _ l0_2 ak _ ?side1 ?side2 A6.out).mono ?_); (case side1 => exact rc_ (Kd.C_below ah.out HB.out)); (case side2 => exact ai.out); rintro e w13 ⟨rfl, hb⟩; have n0_ := am_ (blk_below (rb_ aa.out) hb); have n1_ := am_ (below_step (b1_ HB.out ad.out) hb); clear aa; clear HB; have aa := n0_; have HB := n1_; clear n0_ n1_; (try clear hb); (try clear hb2); (try clear hk); (try clear hi)))
      go_ret
      exact ⟨by first | rfl | (simp [errW_none, errW_some] <;> rfl) | (simp [*, errW_none, errW_some] <;> rfl), by repeat (first | (with_reducible first | exact HB.out | apply below_alloc | apply pw_below_drewN | apply below_drew1 | refine below_set ?_ ad.out) | exact HB.out)⟩
    · rw [if_neg c5] at H
      have c5b0 : decide (ag ≤ 6) = false := decide_eq_false c5
      clear c5
      obtain rfl := Option.some.inj H
      simp only [Option.some.injEq, Prod.mk.injEq] at H
      obtain ⟨rfl⟩ := H
      go_enter Try.func17, Try.ntmps17
      go_wp2_with (first | ((with_reducible refine gate_dst (N := 1) rfl ?_); refine box_event ?hg (N := 1) ?hd (cs := #[.int .i64 a0_0, .string a0_1, .slice A0_2 l0_2.length c0_2]) (t := 29) ?hr ?_; (case hd => rfl); (case hg => rfl); (case hr => first | (go_simp; done) | (go_simp; rfl)); intro ae hg w14 hbox hb; replace aa := am_ (hbox); replace ap := am_ ((by rw [hg]; exact (below_size (b0_ HB.out)) : w.heap.size ≤ ae)); replace ad := am_ ((by rw [hg]; exact (below_size (b0_ HB.out)) : w.heap.size ≤ ae)); replace HB := am_ (below_step (b0_ HB.out) hb); clear hb hbox hg; have aE := ck_ (v := (.int .i64 a0_0)) aa 0 rfl; have aF := ck_ (v := (.string a0_1)) aa 1 rfl; have aG := ck_ (v := (.slice A0_2 l0_2.length c0_2)) aa 2 rfl; have aH := blk_frozen aa.out 0; have aI := blk_frozen aa.out 1; have aJ := blk_frozen aa.out 2) | ((with_reducible refine gate_callee (f := 41) rfl ?_); refine gL_ (some 4) Try.func41 #[.agg #[.int .i64 a0_0, .string a0_1, .slice A0_2 l0_2.length c0_2], .int .i64 16] ?_; (with_reducible refine (spec_l3Left.calls k a0_0 a0_1 _ _ l0_2 16 af _ ?side1 ?side2 A2.out).mono ?_); (case side1 => exact rc_ (Kd.C_below ah.out HB.out)); (case side2 => exact ai.out); rintro e w16 ⟨rfl, hb⟩; refine ⟨_, rfl, ?_⟩; have n0_ := am_ (blk_below (rb_ aa.out) hb); have n1_ := am_ (below_step (b1_ HB.out ad.out) hb); clear aa; clear HB; have aa := n0_; have HB := n1_; clear n0_ n1_; (try clear hb); (try clear hb2); (try clear hk); (try clear hi); have aK := ck_ (v := (.int .i64 a0_0)) aa 0 rfl; have aL := ck_ (v := (.string a0_1)) aa 1 rfl; have aM := ck_ (v := (.slice A0_2 l0_2.length c0_2)) aa 2 rfl; have aN := blk_frozen aa.out 0; have aO := blk_frozen aa.out 1; have aP := blk_frozen aa.out 2) | (go_at_call 42; (with_reducible refine (spec_l3Depth.calls k a0_0 a0_1 _ _ l0_2 ag _ ?side1 ?side2 A4.out).mono ?_); (case side1 => exact rc_ (Kd.C_below ah.out HB.out)); (case side2 => exact ai.out); rintro e w18 ⟨rfl, hb⟩; have n0_ := am_ (blk_below (rb_ aa.out) hb); have n1_ := am_ (below_step (b1_ HB.out ad.out) hb); clear aa; clear HB; have aa := n0_; have HB := n1_; clear n0_ n1_; (try clear hb); (try clear hb2); (try clear hk); (try clear hi)))
      go_ret
      exact ⟨by first | rfl | (simp [errW_none, errW_some] <;> rfl) | (simp [*, errW_none, errW_some] <;> rfl), by repeat (first | (with_reducible first | exact HB.out | apply below_alloc | apply pw_below_drewN | apply below_drew1 | refine below_set ?_ ad.out) | exact HB.out)⟩
  · rw [if_neg c3] at H
    have c3b0 : decide (0 ≤ af) = false := decide_eq_false c3
    clear c3
    obtain rfl := Option.some.inj H
    simp only [Option.some.injEq, Prod.mk.injEq] at H
    obtain ⟨rfl⟩ := H
    go_enter Try.func17, Try.ntmps17
    go_wp2_with (first | ((with_reducible refine gate_dst (N := 1) rfl ?_); refine box_event ?hg (N := 1) ?hd (cs := #[.int .i64 a0_0, .string a0_1, .slice A0_2 l0_2.length c0_2]) (t := 29) ?hr ?_; (case hd => rfl); (case hg => rfl); (case hr => first | (go_simp; done) | (go_simp; rfl)); intro ae hg w19 hbox hb; replace aa := am_ (hbox); replace ap := am_ ((by rw [hg]; exact (below_size (b0_ HB.out)) : w.heap.size ≤ ae)); replace ad := am_ ((by rw [hg]; exact (below_size (b0_ HB.out)) : w.heap.size ≤ ae)); replace HB := am_ (below_step (b0_ HB.out) hb); clear hb hbox hg; have aQ := ck_ (v := (.int .i64 a0_0)) aa 0 rfl; have aR := ck_ (v := (.string a0_1)) aa 1 rfl; have aS := ck_ (v := (.slice A0_2 l0_2.length c0_2)) aa 2 rfl; have aT := blk_frozen aa.out 0; have aU := blk_frozen aa.out 1; have aV := blk_frozen aa.out 2) | ((with_reducible refine gate_callee (f := 41) rfl ?_); refine gL_ (some 4) Try.func41 #[.agg #[.int .i64 a0_0, .string a0_1, .slice A0_2 l0_2.length c0_2], .int .i64 16] ?_; (with_reducible refine (spec_l3Left.calls k a0_0 a0_1 _ _ l0_2 16 af _ ?side1 ?side2 A2.out).mono ?_); (case side1 => exact rc_ (Kd.C_below ah.out HB.out)); (case side2 => exact ai.out); rintro e w21 ⟨rfl, hb⟩; refine ⟨_, rfl, ?_⟩; have n0_ := am_ (blk_below (rb_ aa.out) hb); have n1_ := am_ (below_step (b1_ HB.out ad.out) hb); clear aa; clear HB; have aa := n0_; have HB := n1_; clear n0_ n1_; (try clear hb); (try clear hb2); (try clear hk); (try clear hi)))
    go_ret
    exact ⟨by first | rfl | (simp [errW_none, errW_some] <;> rfl) | (simp [*, errW_none, errW_some] <;> rfl), by repeat (first | (with_reducible first | exact HB.out | apply below_alloc | apply pw_below_drewN | apply below_drew1 | refine below_set ?_ ad.out) | exact HB.out)⟩
def strings_IndexByte.f (a0 : ByteArray) (a1 : Int) : Option (Int) := some (Lib.indexByte a0.data.toList a1.toNat.toUInt8)
theorem strings_IndexByte.calls (a0 : ByteArray) (a1 : Int) (r : Int) (w : World) (h : strings_IndexByte.f a0 a1 = some r) :
    Calls Try.prog 84 #[.string a0, .int .u8 a1] w fun e w' => e = .returned (.int .i64 r) ∧ Drawn0 w w' := by
  refine (Try.strings_IndexByte a0 a1 w).mono ?_
  rintro e w' ⟨rfl, rfl⟩
  obtain rfl := Option.some.inj h
  exact ⟨rfl, Drawn0.refl _⟩
def impl_LetterIndex.f (a0 : Int) : Option (Int) := (strings_IndexByte.f (⟨#[97, 98, 99]⟩ : ByteArray) a0).bind fun al => (some al)
set_option maxHeartbeats 8000000 in
set_option maxRecDepth 100000 in
theorem impl_LetterIndex.calls (a0 : Int) (r : Int) (w : World) (h : impl_LetterIndex.f a0 = some r) :
    Calls Try.prog 73 #[.int .u8 a0] w fun e w' => e = .returned (.int .i64 r) ∧ Drawn0 w w' := by
  have H : ((strings_IndexByte.f (⟨#[97, 98, 99]⟩ : ByteArray) a0).bind fun al => (some al)) = some r := h
  clear h
  replace H := Option.bind_eq_some_iff.mp H
  obtain ⟨al, A20, H⟩ := H
  replace H : (some al) = some r := H
  have A2 := am_ A20
  clear A20
  obtain rfl := Option.some.inj H
  simp only [Option.some.injEq, Prod.mk.injEq] at H
  obtain ⟨rfl⟩ := H
  go_enter Try.func73, Try.ntmps73
  go_wp2_with (first | ((with_reducible refine gate_callee (f := 84) rfl ?_); refine gL_ (some 4) Try.func84 #[.string (⟨#[97, 98, 99]⟩ : ByteArray), .int .u8 a0] ?_; (with_reducible refine (strings_IndexByte.calls (⟨#[97, 98, 99]⟩ : ByteArray) a0 al _ A2.out).mono ?_); rintro e w' ⟨rfl, ⟨nd, rfl⟩⟩; refine ⟨_, rfl, ?_⟩))
  go_ret
  exact ⟨by first | rfl | (simp; done) | (simp [*]; done), by repeat (first | exact Drawn0.refl _ | apply Drawn0.step)⟩
def impl_isLetters.l0 : Nat → ByteArray → Int → Option (Bool)
  | 0, _, _ => none
  | k + 1, x0, x3 => if x3 < (x0.size : Int) then (if 0 ≤ x3 then ((impl_LetterIndex.f (bt x0 x3)).bind fun aj => (if aj < 0 then (some false) else (impl_isLetters.l0 k x0 (wrap64 (x3 + 1))))) else (none)) else (some true)
def impl_isLetters.f (k : Nat) (a0 : ByteArray) : Option (Bool) := impl_isLetters.l0 k a0 0
theorem impl_isLetters.mono_l : ∀ k, (∀ y0 y1, LeO (impl_isLetters.l0 k y0 y1) (impl_isLetters.l0 (k + 1) y0 y1))
  | 0 => fun _ _ r h => by simp [impl_isLetters.l0] at h
  | k + 1 => by
    have ih0 := impl_isLetters.mono_l k
    · intro y0 y1
      unfold impl_isLetters.l0
      repeat' first
      | (with_reducible exact ih0 _ _)
      | (with_reducible exact LeO.refl _)
      | (with_reducible exact LeO.none _)
      | (with_reducible refine LeO.ite ?_ ?_)
      | (with_reducible refine LeO.bind ?_ (fun _ => ?_))
      | exact ih0 _ _
      | exact LeO.none _
      | refine LeO.ite ?_ ?_
      | refine LeO.bind ?_ (fun _ => ?_)
theorem impl_isLetters.mono : ∀ a0 k, LeO (impl_isLetters.f k a0) (impl_isLetters.f (k + 1) a0) := by
  intro a0 k
  have ih0 := impl_isLetters.mono_l k
  unfold impl_isLetters.f
  repeat' first
      | (with_reducible exact ih0 _ _)
      | (with_reducible exact LeO.refl _)
      | (with_reducible exact LeO.none _)
      | (with_reducible refine LeO.ite ?_ ?_)
      | (with_reducible refine LeO.bind ?_ (fun _ => ?_))
      | exact ih0 _ _
      | exact LeO.none _
      | refine LeO.ite ?_ ?_
      | refine LeO.bind ?_ (fun _ => ?_)
set_option maxHeartbeats 8000000 in
set_option maxRecDepth 100000 in
theorem impl_isLetters.calls (k : Nat) (a0 : ByteArray) (r : Bool) (w : World) (h : impl_isLetters.f k a0 = some r) :
    Calls Try.prog 78 #[.string a0] w fun e w' => e = .returned (.bool r) ∧ Drawn0 w w' := by
  have H : (impl_isLetters.l0 k a0 0) = some r := h
  clear h
  have H' := am_ H
  clear H
  go_enter Try.func78, Try.ntmps78
  go_wp2
  go_loopg [3] k (fun kq v3 w' => ∃ (ab : Int), v3 = .int .i64 ab ∧ Aside0 (impl_isLetters.l0 kq a0 ab = some r) ∧ Aside0 (kq ≤ k) ∧ Drawn0 w w')
  case atStart => exact ⟨(0), (by first | rfl | (simp; done) | (simp [*]; done)), H', ⟨Nat.le_refl _⟩, by repeat (first | exact Drawn0.refl _ | apply Drawn0.step)⟩
  case round =>
    clear H'
    obtain ⟨ab, rfl, HA, HK1, ⟨m1, rfl⟩⟩ := hrel
    cases gk with
    | zero => exact absurd HA.out (by simp [impl_isLetters.l0])
    | succ k1 =>
      have H := HA.out
      clear HA
      simp only [impl_isLetters.l0] at H
      by_cases c2 : ab < (a0.size : Int)
      · rw [if_pos c2] at H
        have c2b0 : decide (ab < (a0.size : Int)) = true := decide_eq_true c2
        clear c2
        by_cases c3 : 0 ≤ ab
        · rw [if_pos c3] at H
          have c3b0 : decide (0 ≤ ab) = true := decide_eq_true c3
          clear c3
          replace H := Option.bind_eq_some_iff.mp H
          obtain ⟨aj, A50, H⟩ := H
          have A5 := am_ A50
          clear A50
          by_cases c6 : aj < 0
          · rw [if_pos c6] at H
            have c6b0 : decide (aj < 0) = true := decide_eq_true c6
            clear c6
            obtain rfl := Option.some.inj H
            simp only [Option.some.injEq, Prod.mk.injEq] at H
            obtain ⟨rfl⟩ := H
            have p4 : 0 ≤ (ab : Int) := of_decide_eq_true ah_
            have q4 : ab < (a0.size : Int) := of_decide_eq_true ah_
            have hx4 := bt_at a0 ab
            replace p4 := eq_true p4
            replace q4 := eq_true q4
            go_wp2_with (first | ((with_reducible refine gate_callee (f := 73) rfl ?_); refine gL_ (some 13) Try.func73 #[.int .u8 (bt a0 ab)] ?_; (with_reducible refine (impl_LetterIndex.calls (bt a0 ab) aj _ A5.out).mono ?_); rintro e w' ⟨rfl, ⟨nd, rfl⟩⟩; refine ⟨_, rfl, ?_⟩))
            go_ret
            exact ⟨by first | rfl | (simp; done) | (simp [*]; done), by repeat (first | exact Drawn0.refl _ | apply Drawn0.step)⟩
          · rw [if_neg c6] at H
            have c6b0 : decide (aj < 0) = false := decide_eq_false c6
            clear c6
            have H' := am_ H
            clear H
            have p4 : 0 ≤ (ab : Int) := of_decide_eq_true ah_
            have q4 : ab < (a0.size : Int) := of_decide_eq_true ah_
            have hx4 := bt_at a0 ab
            replace p4 := eq_true p4
            replace q4 := eq_true q4
            go_wp2_with (first | ((with_reducible refine gate_callee (f := 73) rfl ?_); refine gL_ (some 13) Try.func73 #[.int .u8 (bt a0 ab)] ?_; (with_reducible refine (impl_LetterIndex.calls (bt a0 ab) aj _ A5.out).mono ?_); rintro e w' ⟨rfl, ⟨nd, rfl⟩⟩; refine ⟨_, rfl, ?_⟩))
            go_roundg k1
            case measure => have := HK1.out; omega
            case rel => exact ⟨(wrap64 (ab + 1)), (by first | rfl | (simp; done) | (simp [*]; done)), H', ⟨by have := HK1.out; omega⟩, by repeat (first | exact Drawn0.refl _ | apply Drawn0.step)⟩
        · rw [if_neg c3] at H
          exact absurd H (by simp)
      · rw [if_neg c2] at H
        have c2b0 : decide (ab < (a0.size : Int)) = false := decide_eq_false c2
        clear c2
        obtain rfl := Option.some.inj H
        simp only [Option.some.injEq, Prod.mk.injEq] at H
        obtain ⟨rfl⟩ := H
        go_wp2
        go_ret
        exact ⟨by first | rfl | (simp; done) | (simp [*]; done), by repeat (first | exact Drawn0.refl _ | apply Drawn0.step)⟩
def impl_IsWord.f (k : Nat) (a0 : ByteArray) : Option (Bool) := if (a0.size : Int) ≤ 30 then ((impl_isLetters.f k a0).bind fun am => (some am)) else (some false)
theorem impl_IsWord.mono : ∀ a0 k, LeO (impl_IsWord.f k a0) (impl_IsWord.f (k + 1) a0) := by
  intro a0 k
  unfold impl_IsWord.f
  repeat' first
      | (with_reducible exact impl_isLetters.mono _ _)
      | (with_reducible exact LeO.refl _)
      | (with_reducible exact LeO.none _)
      | (with_reducible refine LeO.ite ?_ ?_)
      | (with_reducible refine LeO.bind ?_ (fun _ => ?_))
      | exact impl_isLetters.mono _ _
      | exact LeO.none _
      | refine LeO.ite ?_ ?_
      | refine LeO.bind ?_ (fun _ => ?_)
set_option maxHeartbeats 8000000 in
set_option maxRecDepth 100000 in
theorem impl_IsWord.calls (k : Nat) (a0 : ByteArray) (r : Bool) (w : World) (h : impl_IsWord.f k a0 = some r) :
    Calls Try.prog 53 #[.string a0] w fun e w' => e = .returned (.bool r) ∧ Drawn0 w w' := by
  have H : (if (a0.size : Int) ≤ 30 then ((impl_isLetters.f k a0).bind fun am => (some am)) else (some false)) = some r := h
  clear h
  by_cases c2 : (a0.size : Int) ≤ 30
  · rw [if_pos c2] at H
    have c2b0 : decide ((a0.size : Int) ≤ 30) = true := decide_eq_true c2
    have c2b1 : decide (a0.size ≤ 30) = true := decide_eq_true (by omega)
    clear c2
    replace H := Option.bind_eq_some_iff.mp H
    obtain ⟨am, A30, H⟩ := H
    replace H : (some am) = some r := H
    have A3 := am_ A30
    clear A30
    obtain rfl := Option.some.inj H
    simp only [Option.some.injEq, Prod.mk.injEq] at H
    obtain ⟨rfl⟩ := H
    go_enter Try.func53, Try.ntmps53
    go_wp2_with (first | (go_at_call 78; (with_reducible refine (impl_isLetters.calls k a0 am _ A3.out).mono ?_); rintro e w' ⟨rfl, ⟨nd, rfl⟩⟩))
    go_ret
    exact ⟨by first | rfl | (simp; done) | (simp [*]; done), by repeat (first | exact Drawn0.refl _ | apply Drawn0.step)⟩
  · rw [if_neg c2] at H
    have c2b0 : decide ((a0.size : Int) ≤ 30) = false := decide_eq_false c2
    have c2b1 : decide (a0.size ≤ 30) = false := decide_eq_false (by omega)
    clear c2
    obtain rfl := Option.some.inj H
    simp only [Option.some.injEq, Prod.mk.injEq] at H
    obtain ⟨rfl⟩ := H
    go_enter Try.func53, Try.ntmps53
    go_wp2
    go_ret
    exact ⟨by first | rfl | (simp; done) | (simp [*]; done), by repeat (first | exact Drawn0.refl _ | apply Drawn0.step)⟩
mutual
def impl_argsOf.j0 : Nat → Int → Bool → Option (Int)
  | 0, _, _ => none
  | k + 1, x3, x4 => if x4 = true then (some 0) else (if x3 = 8 then (impl_argsOf.j1 k x3 (x3 == 8)) else (impl_argsOf.j1 k x3 (x3 == 9)))
def impl_argsOf.j1 : Nat → Int → Bool → Option (Int)
  | 0, _, _ => none
  | k + 1, x3, x9 => if x9 = true then (some 1) else (if x3 = 5 then (some 2) else (if x3 = 6 then (some 2) else (if x3 = 7 then (some 2) else (some (-1)))))
end
def impl_argsOf.f (k : Nat) (a0 : Int) : Option (Int) := if a0 = 1 then (impl_argsOf.j0 k a0 (a0 == 1)) else (if a0 = 2 then (impl_argsOf.j0 k a0 (a0 == 2)) else (if a0 = 3 then (impl_argsOf.j0 k a0 (a0 == 3)) else (impl_argsOf.j0 k a0 (a0 == 4))))
theorem impl_argsOf.mono_l : ∀ k, (∀ y0 y1, LeO (impl_argsOf.j0 k y0 y1) (impl_argsOf.j0 (k + 1) y0 y1)) ∧ (∀ y0 y1, LeO (impl_argsOf.j1 k y0 y1) (impl_argsOf.j1 (k + 1) y0 y1))
  | 0 => ⟨fun _ _ r h => by simp [impl_argsOf.j0] at h, fun _ _ r h => by simp [impl_argsOf.j1] at h⟩
  | k + 1 => by
    obtain ⟨ih0, ih1⟩ := impl_argsOf.mono_l k
    refine ⟨?_, ?_⟩
    · intro y0 y1
      unfold impl_argsOf.j0
      repeat' first
      | (with_reducible exact ih0 _ _)
      | (with_reducible exact ih1 _ _)
      | (with_reducible exact LeO.refl _)
      | (with_reducible exact LeO.none _)
      | (with_reducible refine LeO.ite ?_ ?_)
      | (with_reducible refine LeO.bind ?_ (fun _ => ?_))
      | exact ih0 _ _
      | exact ih1 _ _
      | exact LeO.none _
      | refine LeO.ite ?_ ?_
      | refine LeO.bind ?_ (fun _ => ?_)
    · intro y0 y1
      unfold impl_argsOf.j1
      repeat' first
      | (with_reducible exact ih0 _ _)
      | (with_reducible exact ih1 _ _)
      | (with_reducible exact LeO.refl _)
      | (with_reducible exact LeO.none _)
      | (with_reducible refine LeO.ite ?_ ?_)
      | (with_reducible refine LeO.bind ?_ (fun _ => ?_))
      | exact ih0 _ _
      | exact ih1 _ _
      | exact LeO.none _
      | refine LeO.ite ?_ ?_
      | refine LeO.bind ?_ (fun _ => ?_)
theorem impl_argsOf.mono : ∀ a0 k, LeO (impl_argsOf.f k a0) (impl_argsOf.f (k + 1) a0) := by
  intro a0 k
  obtain ⟨ih0, ih1⟩ := impl_argsOf.mono_l k
  unfold impl_argsOf.f
  repeat' first
      | (with_reducible exact ih0 _ _)
      | (with_reducible exact ih1 _ _)
      | (with_reducible exact LeO.refl _)
      | (with_reducible exact LeO.none _)
      | (with_reducible refine LeO.ite ?_ ?_)
      | (with_reducible refine LeO.bind ?_ (fun _ => ?_))
      | exact ih0 _ _
      | exact ih1 _ _
      | exact LeO.none _
      | refine LeO.ite ?_ ?_
      | refine LeO.bind ?_ (fun _ => ?_)
set_option maxHeartbeats 8000000 in
set_option maxRecDepth 100000 in
theorem impl_argsOf.calls (k : Nat) (a0 : Int) (r : Int) (w : World) (h : impl_argsOf.f k a0 = some r) :
    Calls Try.prog 70 #[.int .i64 a0] w fun e w' => e = .returned (.int .i64 r) ∧ Drawn0 w w' := by
  have H : (if a0 = 1 then (impl_argsOf.j0 k a0 (a0 == 1)) else (if a0 = 2 then (impl_argsOf.j0 k a0 (a0 == 2)) else (if a0 = 3 then (impl_argsOf.j0 k a0 (a0 == 3)) else (impl_argsOf.j0 k a0 (a0 == 4))))) = some r := h
  clear h
  have HC2 := am_ H
  clear H
  go_enter Try.func70, Try.ntmps70
  go_upto_if 4 with (fail)
  go_cut [4] (fun v4 wc => ∃ (kq : Nat) (an : Bool), v4 = .bool an ∧ Aside0 (impl_argsOf.j0 kq a0 an = some r) ∧ Aside0 (kq ≤ k) ∧ Drawn0 w wc)
  case first =>
    have H := HC2.out
    clear HC2
    by_cases c3 : a0 = 1
    · rw [if_pos c3] at H
      have c3b0 : (a0 == 1) = true := beq_iff_eq.mpr c3
      have c3b1 : (a0 != 1) = false := bne_eq_false_iff_eq.mpr c3
      clear c3
      (first | rw [c3b0] | (simp only [i64_w, i32_w]; rw [c3b0]) | skip)
      have H' := am_ H
      clear H
      go_wp2
      go_meet
      case rel => exact ⟨_, ((a0 == 1)), (by first | rfl | (simp; done) | (simp [*]; done)), H', ⟨by first | omega | exact Nat.le_refl _⟩, by repeat (first | exact Drawn0.refl _ | apply Drawn0.step)⟩
    · rw [if_neg c3] at H
      have c3b0 : (a0 == 1) = false := beq_eq_false_iff_ne.mpr c3
      have c3b1 : (a0 != 1) = true := bne_iff_ne.mpr c3
      (first | rw [c3b0] | (simp only [i64_w, i32_w]; rw [c3b0]) | skip)
      by_cases c4 : a0 = 2
      · rw [if_pos c4] at H
        have c4b0 : (a0 == 2) = true := beq_iff_eq.mpr c4
        have c4b1 : (a0 != 2) = false := bne_eq_false_iff_eq.mpr c4
        clear c4
        have H' := am_ H
        clear H
        go_wp2
        go_meet
        case rel => exact ⟨_, ((a0 == 2)), (by first | rfl | (simp; done) | (simp [*]; done)), H', ⟨by first | omega | exact Nat.le_refl _⟩, by repeat (first | exact Drawn0.refl _ | apply Drawn0.step)⟩
      · rw [if_neg c4] at H
        have c4b0 : (a0 == 2) = false := beq_eq_false_iff_ne.mpr c4
        have c4b1 : (a0 != 2) = true := bne_iff_ne.mpr c4
        by_cases c5 : a0 = 3
        · rw [if_pos c5] at H
          have c5b0 : (a0 == 3) = true := beq_iff_eq.mpr c5
          have c5b1 : (a0 != 3) = false := bne_eq_false_iff_eq.mpr c5
          clear c5
          have H' := am_ H
          clear H
          go_wp2
          go_meet
          case rel => exact ⟨_, ((a0 == 3)), (by first | rfl | (simp; done) | (simp [*]; done)), H', ⟨by first | omega | exact Nat.le_refl _⟩, by repeat (first | exact Drawn0.refl _ | apply Drawn0.step)⟩
        · rw [if_neg c5] at H
          have c5b0 : (a0 == 3) = false := beq_eq_false_iff_ne.mpr c5
          have c5b1 : (a0 != 3) = true := bne_iff_ne.mpr c5
          have H' := am_ H
          clear H
          go_wp2
          go_meet
          case rel => exact ⟨_, ((a0 == 4)), (by first | rfl | (simp; done) | (simp [*]; done)), H', ⟨by first | omega | exact Nat.le_refl _⟩, by repeat (first | exact Drawn0.refl _ | apply Drawn0.step)⟩
  case rest =>
    clear HC2
    try clear p2
    try clear c3
    try clear c3b0
    try clear c3b1
    try clear c4
    try clear c4b0
    try clear c4b1
    try clear c5
    try clear c5b0
    try clear c5b1
    obtain ⟨kq, an, rfl, HA, HJ1, ⟨mc1, rfl⟩⟩ := hcut
    cases kq with
    | zero => exact absurd HA.out (by simp [impl_argsOf.j0])
    | succ kj1 =>
      have H := HA.out
      clear HA
      simp only [impl_argsOf.j0] at H
      by_cases c6 : an = true
      · subst c6
        have H1 : (some 0) = some r := by rw [if_pos rfl] at H; exact H
        clear H
        have H := H1
        clear H1
        obtain rfl := Option.some.inj H
        simp only [Option.some.injEq, Prod.mk.injEq] at H
        obtain ⟨rfl⟩ := H
        go_wp2
        go_ret
        exact ⟨by first | rfl | (simp; done) | (simp [*]; done), by repeat (first | exact Drawn0.refl _ | apply Drawn0.step)⟩
      · replace c6 := Bool.eq_false_iff.mpr c6
        subst c6
        have H1 : (if a0 = 8 then (impl_argsOf.j1 kj1 a0 (a0 == 8)) else (impl_argsOf.j1 kj1 a0 (a0 == 9))) = some r := by rw [if_neg (show ¬ (false = true) by decide)] at H; exact H
        clear H
        have H := H1
        clear H1
        have HC7 := am_ H
        clear H
        go_upto_if 9 with (fail)
        go_cut [9] (fun v9 wc => ∃ (kq : Nat) (ao : Bool), v9 = .bool ao ∧ Aside0 (impl_argsOf.j1 kq a0 ao = some r) ∧ Aside0 (kq ≤ kj1) ∧ Drawn0 w wc)
        case first =>
          have H := HC7.out
          clear HC7
          by_cases c8 : a0 = 8
          · rw [if_pos c8] at H
            have c8b0 : (a0 == 8) = true := beq_iff_eq.mpr c8
            have c8b1 : (a0 != 8) = false := bne_eq_false_iff_eq.mpr c8
            clear c8
            (first | rw [c8b0] | (simp only [i64_w, i32_w]; rw [c8b0]) | skip)
            have H' := am_ H
            clear H
            go_wp2
            go_meet
            case rel => exact ⟨_, ((a0 == 8)), (by first | rfl | (simp; done) | (simp [*]; done)), H', ⟨by have := HJ1.out; first | omega | exact Nat.le_refl _⟩, by repeat (first | exact Drawn0.refl _ | apply Drawn0.step)⟩
          · rw [if_neg c8] at H
            have c8b0 : (a0 == 8) = false := beq_eq_false_iff_ne.mpr c8
            have c8b1 : (a0 != 8) = true := bne_iff_ne.mpr c8
            (first | rw [c8b0] | (simp only [i64_w, i32_w]; rw [c8b0]) | skip)
            have H' := am_ H
            clear H
            go_wp2
            go_meet
            case rel => exact ⟨_, ((a0 == 9)), (by first | rfl | (simp; done) | (simp [*]; done)), H', ⟨by have := HJ1.out; first | omega | exact Nat.le_refl _⟩, by repeat (first | exact Drawn0.refl _ | apply Drawn0.step)⟩
        case rest =>
          clear HC7
          try clear c1
          try clear p2
          try clear c3
          try clear c3b0
          try clear c3b1
          try clear c4
          try clear c4b0
          try clear c4b1
          try clear c5
          try clear c5b0
          try clear c5b1
          try clear c6
          try clear c7
          try clear c8
          try clear c8b0
          try clear c8b1
          try clear p2
          obtain ⟨kq, ao, rfl, HA, HJ6, ⟨mc6, rfl⟩⟩ := hcut
          cases kq with
          | zero => exact absurd HA.out (by simp [impl_argsOf.j1])
          | succ kj6 =>
            have H := HA.out
            clear HA
            simp only [impl_argsOf.j1] at H
            by_cases c9 : ao = true
            · subst c9
              have H1 : (some 1) = some r := by rw [if_pos rfl] at H; exact H
              clear H
              have H := H1
              clear H1
              obtain rfl := Option.some.inj H
              simp only [Option.some.injEq, Prod.mk.injEq] at H
              obtain ⟨rfl⟩ := H
              go_wp2
              go_ret
              exact ⟨by first | rfl | (simp; done) | (simp [*]; done), by repeat (first | exact Drawn0.refl _ | apply Drawn0.step)⟩
            · replace c9 := Bool.eq_false_iff.mpr c9
              subst c9
              have H1 : (if a0 = 5 then (some 2) else (if a0 = 6 then (some 2) else (if a0 = 7 then (some 2) else (some (-1))))) = some r := by rw [if_neg (show ¬ (false = true) by decide)] at H; exact H
              clear H
              have H := H1
              clear H1
              by_cases c10 : a0 = 5
              · rw [if_pos c10] at H
                have c10b0 : (a0 == 5) = true := beq_iff_eq.mpr c10
                have c10b1 : (a0 != 5) = false := bne_eq_false_iff_eq.mpr c10
                clear c10
                obtain rfl := Option.some.inj H
                simp only [Option.some.injEq, Prod.mk.injEq] at H
                obtain ⟨rfl⟩ := H
                go_wp2
                go_ret
                exact ⟨by first | rfl | (simp; done) | (simp [*]; done), by repeat (first | exact Drawn0.refl _ | apply Drawn0.step)⟩
              · rw [if_neg c10] at H
                have c10b0 : (a0 == 5) = false := beq_eq_false_iff_ne.mpr c10
                have c10b1 : (a0 != 5) = true := bne_iff_ne.mpr c10
                by_cases c11 : a0 = 6
                · rw [if_pos c11] at H
                  have c11b0 : (a0 == 6) = true := beq_iff_eq.mpr c11
                  have c11b1 : (a0 != 6) = false := bne_eq_false_iff_eq.mpr c11
                  clear c11
                  obtain rfl := Option.some.inj H
                  simp only [Option.some.injEq, Prod.mk.injEq] at H
                  obtain ⟨rfl⟩ := H
                  go_wp2
                  go_ret
                  exact ⟨by first | rfl | (simp; done) | (simp [*]; done), by repeat (first | exact Drawn0.refl _ | apply Drawn0.step)⟩
                · rw [if_neg c11] at H
                  have c11b0 : (a0 == 6) = false := beq_eq_false_iff_ne.mpr c11
                  have c11b1 : (a0 != 6) = true := bne_iff_ne.mpr c11
                  by_cases c12 : a0 = 7
                  · rw [if_pos c12] at H
                    have c12b0 : (a0 == 7) = true := beq_iff_eq.mpr c12
                    have c12b1 : (a0 != 7) = false := bne_eq_false_iff_eq.mpr c12
                    clear c12
                    obtain rfl := Option.some.inj H
                    simp only [Option.some.injEq, Prod.mk.injEq] at H
                    obtain ⟨rfl⟩ := H
                    go_wp2
                    go_ret
                    exact ⟨by first | rfl | (simp; done) | (simp [*]; done), by repeat (first | exact Drawn0.refl _ | apply Drawn0.step)⟩
                  · rw [if_neg c12] at H
                    have c12b0 : (a0 == 7) = false := beq_eq_false_iff_ne.mpr c12
                    have c12b1 : (a0 != 7) = true := bne_iff_ne.mpr c12
                    obtain rfl := Option.some.inj H
                    simp only [Option.some.injEq, Prod.mk.injEq] at H
                    obtain ⟨rfl⟩ := H
                    go_wp2
                    go_ret
                    exact ⟨by first | rfl | (simp; done) | (simp [*]; done), by repeat (first | exact Drawn0.refl _ | apply Drawn0.step)⟩
end Go.Proofs.Ytldgkgdgcfllmaa.P
end
section
namespace Go.Proofs.Ytldgkgdgcfllmaa.Rg
open Go.RowKit Go.Proofs.Ytldgkgdgcfllmaa.P Go.Proofs.Ytldgkgdgcfllmaa.Pl Go.Proofs.YtldgkgdgcfllmaaW.PrintWords Go.Proofs.YtldgkgdgcfllmaaW.PrintLast Go.Proofs.YtldgkgdgcfllmaaW.PrintMore
set_option linter.unusedVariables false
set_option linter.unusedSimpArgs false
def leafRx (k : Int) (l : ByteArray) : Option Rx := if k = 1 then some .none else if k = 2 then some .empty else if k = 3 then some (.letter l) else if k = 4 then some .any else none
def oneRx (k : Int) (x : Rx) : Option Rx := if k = 8 then some (.star x) else if k = 9 then some (.not x) else none
def twoRx (k : Int) (x y : Rx) : Option Rx := if k = 5 then some (.cat x y) else if k = 6 then some (.or x y) else if k = 7 then some (.and x y) else none
def toRx : Nat → Tr → Option Rx
  | 0, _ => none
  | n + 1, r => match r.f2 with
    | [] => leafRx r.f0 r.f1
    | [a] => (toRx n a).bind (oneRx r.f0)
    | [a, b] => (toRx n a).bind fun x => (toRx n b).bind (twoRx r.f0 x)
    | _ => none
theorem ax_toRx {r : Tr} {x : Rx} (h : Ax r x) : ∀ n, sz x < n → toRx n r = some x := by
  induction h with
  | none l | empty l | letter l | any l =>
    intro n hn
    cases n with
    | zero => omega
    | succ n => simp [toRx, leafRx]
  | star l ha ih | not l ha ih =>
    intro n hn
    simp only [sz] at hn
    cases n with
    | zero => omega
    | succ n => simp [toRx, ih n (by omega), oneRx]
  | cat l ha hb iha ihb | or l ha hb iha ihb | and l ha hb iha ihb =>
    intro n hn
    simp only [sz] at hn
    cases n with
    | zero => omega
    | succ n => simp [toRx, iha n (by omega), ihb n (by omega), twoRx]
end Go.Proofs.Ytldgkgdgcfllmaa.Rg
end
section
namespace Go.Proofs.Ytldgkgdgcfllmaa.Rg
open Go.RowKit Go.Proofs.Ytldgkgdgcfllmaa.P Go.Proofs.Ytldgkgdgcfllmaa.Pl Go.Proofs.YtldgkgdgcfllmaaW.PrintWords Go.Proofs.YtldgkgdgcfllmaaW.PrintLast Go.Proofs.YtldgkgdgcfllmaaW.PrintMore
set_option linter.unusedVariables false
set_option linter.unusedSimpArgs false
theorem mt_star_self {l : List Int} {x : Rx} {i : Nat} (hi : i ≤ l.length) : mt l (.star x) i i = true := (mt_star (Nat.le_refl _) hi).mpr (Or.inl rfl)
theorem star_snoc {l : List Int} {x : Rx} {j : Nat} (hj : j ≤ l.length) : ∀ (d i m : Nat), m - i ≤ d → i ≤ m → m < j → mt l (.star x) i m = true → mt l x m j = true → mt l (.star x) i j = true := by
  intro d
  induction d with
  | zero =>
    intro i m hd hi hm h1 h2
    have : i = m := by omega
    subst this
    exact (mt_star (by omega) hj).mpr (Or.inr ⟨j, by omega, Nat.le_refl _, h2, mt_star_self hj⟩)
  | succ d ih =>
    intro i m hd hi hm h1 h2
    rcases (mt_star hi (by omega)).mp h1 with rfl | ⟨k, k1, k2, k3, k4⟩
    · exact (mt_star (by omega) hj).mpr (Or.inr ⟨j, by omega, Nat.le_refl _, h2, mt_star_self hj⟩)
    · exact (mt_star (by omega) hj).mpr (Or.inr ⟨k, k1, by omega, k3, ih k m (by omega) k2 hm k4 h2⟩)
theorem star_last {l : List Int} {x : Rx} {j : Nat} (hj : j ≤ l.length) : ∀ (d i : Nat), j - i ≤ d → i < j → mt l (.star x) i j = true → ∃ m, i ≤ m ∧ m < j ∧ mt l (.star x) i m = true ∧ mt l x m j = true := by
  intro d
  induction d with
  | zero => intro i hd hi; omega
  | succ d ih =>
    intro i hd hi h
    rcases (mt_star (by omega) hj).mp h with rfl | ⟨k, k1, k2, k3, k4⟩
    · omega
    · by_cases e : k = j
      · subst e
        exact ⟨i, Nat.le_refl _, hi, mt_star_self (by omega), k3⟩
      · obtain ⟨m, m1, m2, m3, m4⟩ := ih k (by omega) (by omega) k4
        exact ⟨m, by omega, m2, (mt_star (by omega) (by omega)).mpr (Or.inr ⟨k, k1, m1, k3, m3⟩), m4⟩
theorem mt_star_end {l : List Int} {x : Rx} {i j : Nat} (hi : i ≤ j) (hj : j ≤ l.length) : mt l (.star x) i j = true ↔ i = j ∨ ∃ m, i ≤ m ∧ m < j ∧ mt l (.star x) i m = true ∧ mt l x m j = true := by
  constructor
  · intro h
    by_cases e : i = j
    · exact Or.inl e
    · exact Or.inr (star_last hj (j - i) i (Nat.le_refl _) (by omega) h)
  · rintro (rfl | ⟨m, m1, m2, m3, m4⟩)
    · exact mt_star_self hj
    · exact star_snoc hj (m - i) i m (Nat.le_refl _) m1 m2 m3 m4
def kindOf : Rx → Int
  | .none => 1
  | .empty => 2
  | .letter _ => 3
  | .any => 4
  | .cat _ _ => 5
  | .or _ _ => 6
  | .and _ _ => 7
  | .star _ => 8
  | .not _ => 9
def pn : Rx → List Rx
  | .cat x y => pn x ++ pn y ++ [.cat x y]
  | .or x y => pn x ++ pn y ++ [.or x y]
  | .and x y => pn x ++ pn y ++ [.and x y]
  | .star x => pn x ++ [.star x]
  | .not x => pn x ++ [.not x]
  | .none => [.none]
  | .empty => [.empty]
  | .letter c => [.letter c]
  | .any => [.any]
def pcs : Rx → Nat → List (List Int)
  | .cat x y, b => pcs x b ++ pcs y (b + sz x) ++ [[((b + sz x - 1 : Nat) : Int), ((b + sz x + sz y - 1 : Nat) : Int)]]
  | .or x y, b => pcs x b ++ pcs y (b + sz x) ++ [[((b + sz x - 1 : Nat) : Int), ((b + sz x + sz y - 1 : Nat) : Int)]]
  | .and x y, b => pcs x b ++ pcs y (b + sz x) ++ [[((b + sz x - 1 : Nat) : Int), ((b + sz x + sz y - 1 : Nat) : Int)]]
  | .star x, b => pcs x b ++ [[((b + sz x - 1 : Nat) : Int)]]
  | .not x, b => pcs x b ++ [[((b + sz x - 1 : Nat) : Int)]]
  | .none, _ => [[]]
  | .empty, _ => [[]]
  | .letter _, _ => [[]]
  | .any, _ => [[]]
theorem pn_len (x : Rx) : (pn x).length = sz x := by
  induction x with
  | cat x y a b | or x y a b | and x y a b => simp only [pn, sz, List.length_cons, List.length_append, List.length_nil, a, b]; omega
  | star x a | not x a => simp only [pn, sz, List.length_cons, List.length_append, List.length_nil, a]; omega
  | _ => rfl
theorem pcs_len (x : Rx) : ∀ b, (pcs x b).length = sz x := by
  induction x with
  | cat x y a b | or x y a b | and x y a b => intro q; simp only [pcs, sz, List.length_cons, List.length_append, List.length_nil, a, b]; omega
  | star x a | not x a => intro q; simp only [pcs, sz, List.length_cons, List.length_append, List.length_nil, a]; omega
  | _ => intro q; rfl
theorem pn_last (x : Rx) (X : List Rx) : (X ++ pn x)[X.length + sz x - 1]? = some x := by
  have hp := sz_pos x
  have : ∀ (L : List Rx) (y : Rx), L.length + 1 = sz x → pn x = L ++ [y] → y = x → (X ++ pn x)[X.length + sz x - 1]? = some x := fun L y hl e e2 => by
    rw [e, ← List.append_assoc, List.getElem?_append_right (by rw [List.length_append]; omega), e2, List.length_append, show X.length + sz x - 1 - (X.length + L.length) = 0 by omega]
    rfl
  cases x with
  | cat a b | or a b | and a b => exact this (pn a ++ pn b) _ (by rw [List.length_append, pn_len, pn_len]; simp only [sz]; omega) rfl rfl
  | star a | not a => exact this (pn a) _ (by rw [pn_len]; simp only [sz]; omega) rfl rfl
  | _ => exact this [] _ rfl rfl rfl
def Node (X : List Rx) (n : Nat) (c : List Int) : Rx → Prop
  | .cat a b => ∃ p q : Nat, c = [(p : Int), (q : Int)] ∧ p < n ∧ q < n ∧ X[p]? = some a ∧ X[q]? = some b
  | .or a b => ∃ p q : Nat, c = [(p : Int), (q : Int)] ∧ p < n ∧ q < n ∧ X[p]? = some a ∧ X[q]? = some b
  | .and a b => ∃ p q : Nat, c = [(p : Int), (q : Int)] ∧ p < n ∧ q < n ∧ X[p]? = some a ∧ X[q]? = some b
  | .star a => ∃ p : Nat, c = [(p : Int)] ∧ p < n ∧ X[p]? = some a
  | .not a => ∃ p : Nat, c = [(p : Int)] ∧ p < n ∧ X[p]? = some a
  | _ => True
def Good (X : List Rx) (C : List (List Int)) : Prop := C.length = X.length ∧ ∀ n x c, X[n]? = some x → C[n]? = some c → Node X n c x
theorem Node.more {X : List Rx} {n : Nat} {c : List Int} {x : Rx} (Y : List Rx) (h : Node X n c x) : Node (X ++ Y) n c x := by
  have g : ∀ {p : Nat} {a : Rx}, X[p]? = some a → (X ++ Y)[p]? = some a := fun h => by
    rw [List.getElem?_append_left (List.getElem?_eq_some_iff.mp h).1]; exact h
  cases x with
  | cat a b | or a b | and a b => obtain ⟨p, q, e, h1, h2, h3, h4⟩ := h; exact ⟨p, q, e, h1, h2, g h3, g h4⟩
  | star a | not a => obtain ⟨p, e, h1, h3⟩ := h; exact ⟨p, e, h1, g h3⟩
  | _ => trivial
theorem Good.snoc {X : List Rx} {C : List (List Int)} {x : Rx} {c : List Int} (h : Good X C) (hn : Node X X.length c x) : Good (X ++ [x]) (C ++ [c]) := by
  refine ⟨by simp [h.1], fun n y d hy hd => ?_⟩
  by_cases hlt : n < X.length
  · rw [List.getElem?_append_left hlt] at hy
    rw [List.getElem?_append_left (by rw [h.1]; exact hlt)] at hd
    exact (h.2 n y d hy hd).more _
  · have hn2 : n < (X ++ [x]).length := (List.getElem?_eq_some_iff.mp hy).1
    simp only [List.length_append, List.length_cons, List.length_nil] at hn2
    have e : n = X.length := by omega
    subst e
    rw [List.getElem?_append_right (Nat.le_refl _), Nat.sub_self] at hy
    rw [List.getElem?_append_right (by rw [h.1]; exact Nat.le_refl _), h.1, Nat.sub_self] at hd
    cases hy
    cases hd
    exact hn.more _
theorem good_build : ∀ (x : Rx) (X : List Rx) (C : List (List Int)), Good X C → Good (X ++ pn x) (C ++ pcs x X.length) := by
  have two : ∀ (h a b : Rx) (X : List Rx) (C : List (List Int)), (∀ X C, Good X C → Good (X ++ pn a) (C ++ pcs a X.length)) → (∀ X C, Good X C → Good (X ++ pn b) (C ++ pcs b X.length)) → Good X C →
      (∀ Y, (∃ p q : Nat, p < Y.length ∧ q < Y.length ∧ Y[p]? = some a ∧ Y[q]? = some b ∧ p = X.length + sz a - 1 ∧ q = X.length + sz a + sz b - 1) → Node Y Y.length [((X.length + sz a - 1 : Nat) : Int), ((X.length + sz a + sz b - 1 : Nat) : Int)] h) →
      Good (X ++ (pn a ++ pn b ++ [h])) (C ++ (pcs a X.length ++ pcs b (X.length + sz a) ++ [[((X.length + sz a - 1 : Nat) : Int), ((X.length + sz a + sz b - 1 : Nat) : Int)]])) := by
    intro h a b X C ha hb hg hn
    have g1 := ha X C hg
    have g2 := hb _ _ g1
    rw [List.length_append, pn_len] at g2
    have pa := sz_pos a
    have pb := sz_pos b
    have l1 : (X ++ pn a ++ pn b).length = X.length + sz a + sz b := by simp [pn_len]; omega
    have e1 : (X ++ pn a ++ pn b)[X.length + sz a - 1]? = some a := by
      rw [List.getElem?_append_left (by rw [List.length_append, pn_len]; omega)]
      exact pn_last a X
    have e2 : (X ++ pn a ++ pn b)[X.length + sz a + sz b - 1]? = some b := by
      have := pn_last b (X ++ pn a)
      rw [List.length_append, pn_len] at this
      exact this
    have := g2.snoc (x := h) (hn _ ⟨_, _, by rw [l1]; omega, by rw [l1]; omega, e1, e2, rfl, rfl⟩)
    simpa [List.append_assoc] using this
  have one : ∀ (h a : Rx) (X : List Rx) (C : List (List Int)), (∀ X C, Good X C → Good (X ++ pn a) (C ++ pcs a X.length)) → Good X C →
      (∀ Y, (∃ p : Nat, p < Y.length ∧ Y[p]? = some a ∧ p = X.length + sz a - 1) → Node Y Y.length [((X.length + sz a - 1 : Nat) : Int)] h) →
      Good (X ++ (pn a ++ [h])) (C ++ (pcs a X.length ++ [[((X.length + sz a - 1 : Nat) : Int)]])) := by
    intro h a X C ha hg hn
    have g1 := ha X C hg
    have pa := sz_pos a
    have l1 : (X ++ pn a).length = X.length + sz a := by simp [pn_len]
    have := g1.snoc (x := h) (hn _ ⟨_, by rw [l1]; omega, pn_last a X, rfl⟩)
    simpa [List.append_assoc] using this
  intro x
  induction x with
  | cat a b ha hb => intro X C hg; exact two _ a b X C ha hb hg (fun Y ⟨p, q, h1, h2, h3, h4, e1, e2⟩ => ⟨p, q, by rw [e1, e2], h1, h2, h3, h4⟩)
  | or a b ha hb => intro X C hg; exact two _ a b X C ha hb hg (fun Y ⟨p, q, h1, h2, h3, h4, e1, e2⟩ => ⟨p, q, by rw [e1, e2], h1, h2, h3, h4⟩)
  | and a b ha hb => intro X C hg; exact two _ a b X C ha hb hg (fun Y ⟨p, q, h1, h2, h3, h4, e1, e2⟩ => ⟨p, q, by rw [e1, e2], h1, h2, h3, h4⟩)
  | star a ha => intro X C hg; exact one _ a X C ha hg (fun Y ⟨p, h1, h3, e1⟩ => ⟨p, by rw [e1], h1, h3⟩)
  | not a ha => intro X C hg; exact one _ a X C ha hg (fun Y ⟨p, h1, h3, e1⟩ => ⟨p, by rw [e1], h1, h3⟩)
  | none => intro X C hg; exact hg.snoc trivial
  | empty => intro X C hg; exact hg.snoc trivial
  | letter c => intro X C hg; exact hg.snoc trivial
  | any => intro X C hg; exact hg.snoc trivial
end Go.Proofs.Ytldgkgdgcfllmaa.Rg
end
