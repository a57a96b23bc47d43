/- Texts of the proof of FnRegexText, put together. No condition. -/
import Derived.Test.YtldgkgdgcfllmaaQFnRegexText3
import Derived.Test.YtldgkgdgcfllmaaQFnRegexText2
import Derived.Test.YtldgkgdgcfllmaaQFnRegexText5
section
namespace Go.Proofs.Ytldgkgdgcfllmaa.P
open Go.RowKit Go.Proofs.YtldgkgdgcfllmaaW.PrintWords Go.Proofs.YtldgkgdgcfllmaaW.PrintLast Go.Proofs.YtldgkgdgcfllmaaW.PrintMore
attribute [local go_sem] max2_int min2_int max_two min_two max_three min_three max_four min_four
set_option linter.unusedVariables false
set_option linter.unusedSimpArgs false
def spec_l3Text.f : Nat → Int → ByteArray → List (S29) → Option (ByteArray)
  | 0, _, _, _ => none
  | k + 1, a0_0, a0_1, l0_2 => if a0_0 = 1 then (some (⟨#[48]⟩ : ByteArray)) else (if a0_0 = 2 then (some (⟨#[49]⟩ : ByteArray)) else (if a0_0 = 3 then (some a0_1) else (if a0_0 = 4 then (some (⟨#[46]⟩ : ByteArray)) else (if a0_0 = 8 then (if 0 < (l0_2.length : Int) then ((spec_l3Text.f k ((rd_T29 l0_2 0).f0) ((rd_T29 l0_2 0).f1) ((rd_T29 l0_2 0).f2)).bind fun aD => (if 1 + aD.size ≤ 9223372036854775807 then (some ((⟨#[42]⟩ : ByteArray) ++ aD)) else (none))) else (none)) else (if a0_0 = 9 then (if 0 < (l0_2.length : Int) then ((spec_l3Text.f k ((rd_T29 l0_2 0).f0) ((rd_T29 l0_2 0).f1) ((rd_T29 l0_2 0).f2)).bind fun aE => (if 1 + aE.size ≤ 9223372036854775807 then (some ((⟨#[33]⟩ : ByteArray) ++ aE)) else (none))) else (none)) else ((some (([(⟨#[]⟩ : ByteArray), (⟨#[124]⟩ : ByteArray), (⟨#[38]⟩ : ByteArray)] : List ByteArray) : List ByteArray)).bind fun ad => (if 0 ≤ (wrap64 (a0_0 - 5)) then (if (wrap64 (a0_0 - 5)) < (ad.length : Int) then (if 0 < (l0_2.length : Int) then ((spec_l3Text.f k ((rd_T29 l0_2 0).f0) ((rd_T29 l0_2 0).f1) ((rd_T29 l0_2 0).f2)).bind fun ab => (if 1 + ab.size ≤ 9223372036854775807 then (if ((⟨#[40]⟩ : ByteArray) ++ ab).size + (rdOf ByteArray.empty ad (wrap64 (a0_0 - 5))).size ≤ 9223372036854775807 then (if 1 < (l0_2.length : Int) then ((spec_l3Text.f k ((rd_T29 l0_2 1).f0) ((rd_T29 l0_2 1).f1) ((rd_T29 l0_2 1).f2)).bind fun af => (if (((⟨#[40]⟩ : ByteArray) ++ ab) ++ (rdOf ByteArray.empty ad (wrap64 (a0_0 - 5)))).size + af.size ≤ 9223372036854775807 then (if ((((⟨#[40]⟩ : ByteArray) ++ ab) ++ (rdOf ByteArray.empty ad (wrap64 (a0_0 - 5)))) ++ af).size + 1 ≤ 9223372036854775807 then (some (((((⟨#[40]⟩ : ByteArray) ++ ab) ++ (rdOf ByteArray.empty ad (wrap64 (a0_0 - 5)))) ++ af) ++ (⟨#[41]⟩ : ByteArray))) else (none)) else (none))) else (none)) else (none)) else (none))) else (none)) else (none)) else (none))))))))
theorem spec_l3Text.mono_l : ∀ k, (∀ y0 y1 y2, LeO (spec_l3Text.f k y0 y1 y2) (spec_l3Text.f (k + 1) y0 y1 y2))
 | 0 => fun _ _ _ r h => by simp [spec_l3Text.f] at h
 | k + 1 => by
  have ih0 := spec_l3Text.mono_l k
  ·intro y0 y1 y2
   unfold spec_l3Text.f
   repeat' first
   | (with_reducible exact ih0 _ _ _)
   | (with_reducible exact LeO.refl _)
   | (with_reducible exact LeO.none _)
   | (with_reducible refine LeO.ite ?_ ?_)
   | (with_reducible refine LeO.bind ?_ (fun _ => ?_))
   | exact ih0 _ _ _
   | exact LeO.none _
   | refine LeO.ite ?_ ?_
   | refine LeO.bind ?_ (fun _ => ?_)
theorem spec_l3Text.mono : ∀ a0 a1 a2 k, LeO (spec_l3Text.f k a0 a1 a2) (spec_l3Text.f (k + 1) a0 a1 a2) := by
 intro a0 a1 a2 k
 have ih0 := spec_l3Text.mono_l k
 exact ih0 a0 a1 a2
def spec_l3Text.T15 : Bool × List (List Nat × List Nat) := (true, [([], []), ([0], [0]), ([1], [1]), ([2], [2]), ([3], [3]), ([4], [4]), ([], []), ([5, 6], [5, 6]), ([], []), ([8], [8]), ([9], [9]), ([10], [10]), ([11, 4], [11]), ([7, 12], [7, 12]), ([13], [13]), ([14, 12, 0, 1, 2, 3, 4, 5, 6, 7, 8, 9, 10, 11, 12, 13, 14], [14])])
def spec_l3Text.B15 : List Nat := [0, 1, 3, 7, 15, 31, 0, 127, 0, 256, 768, 1792, 3871, 8191, 16383, 32767]
theorem spec_l3Text.tab15 : rtab .any (opsOf Try.f45 15) = spec_l3Text.T15 := by kernel_rfl
theorem spec_l3Text.bits15 : waitsOk spec_l3Text.T15.2 spec_l3Text.B15 = true := by kernel_rfl
theorem zp16_0_ {p q g1 : Prop} (h : p) (h1 : g1) (c : p → g1 → q := by intro h_ h1_; repeat (first | (with_reducible first | exact h_ | apply below_alloc | apply pw_below_drewN | apply below_drew1 | refine below_set ?_ h1_) | exact h_)) : q := c h h1
set_option maxHeartbeats 8000000 in
set_option maxRecDepth 100000 in
theorem spec_l3Text.calls (k : Nat) : ∀ (a0_0 : Int) (a0_1 : ByteArray) (A0_2 : Option Addr) (c0_2 : Nat) (l0_2 : List (S29)) (r : ByteArray) (w : World) (hr0_2 : Kd.C k29 w A0_2 l0_2.length l0_2) (hc0_2 : l0_2.length ≤ c0_2) (h : spec_l3Text.f k a0_0 a0_1 l0_2 = some r),
  Calls Try.prog 45 #[.agg #[.int .i64 a0_0, .string a0_1, .slice A0_2 l0_2.length c0_2]] w fun e w' => e = .returned (.string r) ∧ Below w.heap.size w w' := by
 induction k using Nat.strongRecOn with
 | _ k ih =>
 intro a0_0 a0_1 A0_2 c0_2 l0_2 r w hr0_2 hc0_2 h
 cases k with
 | zero => exact absurd h (by simp [spec_l3Text.f])
 | succ k =>
 simp only [spec_l3Text.f] at h
 have hu29 := Try.underlying29
 have aG := am_ hr0_2
 have bV := am_ hc0_2
 clear hr0_2 hc0_2
 have HB := am_ (Below.refl w.heap.size w)
 have H : (if a0_0 = 1 then (some (⟨#[48]⟩ : ByteArray)) else (if a0_0 = 2 then (some (⟨#[49]⟩ : ByteArray)) else (if a0_0 = 3 then (some a0_1) else (if a0_0 = 4 then (some (⟨#[46]⟩ : ByteArray)) else (if a0_0 = 8 then (if 0 < (l0_2.length : Int) then ((spec_l3Text.f k ((rd_T29 l0_2 0).f0) ((rd_T29 l0_2 0).f1) ((rd_T29 l0_2 0).f2)).bind fun aD => (if 1 + aD.size ≤ 9223372036854775807 then (some ((⟨#[42]⟩ : ByteArray) ++ aD)) else (none))) else (none)) else (if a0_0 = 9 then (if 0 < (l0_2.length : Int) then ((spec_l3Text.f k ((rd_T29 l0_2 0).f0) ((rd_T29 l0_2 0).f1) ((rd_T29 l0_2 0).f2)).bind fun aE => (if 1 + aE.size ≤ 9223372036854775807 then (some ((⟨#[33]⟩ : ByteArray) ++ aE)) else (none))) else (none)) else ((some (([(⟨#[]⟩ : ByteArray), (⟨#[124]⟩ : ByteArray), (⟨#[38]⟩ : ByteArray)] : List ByteArray) : List ByteArray)).bind fun ad => (if 0 ≤ (wrap64 (a0_0 - 5)) then (if (wrap64 (a0_0 - 5)) < (ad.length : Int) then (if 0 < (l0_2.length : Int) then ((spec_l3Text.f k ((rd_T29 l0_2 0).f0) ((rd_T29 l0_2 0).f1) ((rd_T29 l0_2 0).f2)).bind fun ab => (if 1 + ab.size ≤ 9223372036854775807 then (if ((⟨#[40]⟩ : ByteArray) ++ ab).size + (rdOf ByteArray.empty ad (wrap64 (a0_0 - 5))).size ≤ 9223372036854775807 then (if 1 < (l0_2.length : Int) then ((spec_l3Text.f k ((rd_T29 l0_2 1).f0) ((rd_T29 l0_2 1).f1) ((rd_T29 l0_2 1).f2)).bind fun af => (if (((⟨#[40]⟩ : ByteArray) ++ ab) ++ (rdOf ByteArray.empty ad (wrap64 (a0_0 - 5)))).size + af.size ≤ 9223372036854775807 then (if ((((⟨#[40]⟩ : ByteArray) ++ ab) ++ (rdOf ByteArray.empty ad (wrap64 (a0_0 - 5)))) ++ af).size + 1 ≤ 9223372036854775807 then (some (((((⟨#[40]⟩ : ByteArray) ++ ab) ++ (rdOf ByteArray.empty ad (wrap64 (a0_0 - 5)))) ++ af) ++ (⟨#[41]⟩ : ByteArray))) else (none)) else (none))) else (none)) else (none)) else (none))) else (none)) else (none)) else (none))))))))) = some r := h
 clear h
 by_cases c2 : a0_0 = 1
 ·rw [if_pos c2] at H
  have c2b0 : (a0_0 == 1) = true := beq_iff_eq.mpr c2
  have c2b1 : (a0_0 != 1) = false := bne_eq_false_iff_eq.mpr c2
  clear c2
  obtain rfl := Option.some.inj H
  simp only [Option.some.injEq, Prod.mk.injEq] at H
  obtain ⟨rfl⟩ := H
  go_enter Try.func45, Try.ntmps45
  go_wp2_with (first | ((with_reducible refine gate_dst (N := 1) rfl ?_); refine box_event ?hg (N := 1) ?hd (cs := #[.int .i64 a0_0, .string a0_1, .slice A0_2 l0_2.length c0_2]) (t := 29) ?hr ?_; (case hd => rfl); (case hg => rfl); (case hr => first | (go_simp; done) | (go_simp; rfl)); intro ae hg w3 hbox hb; replace aa := am_ (hbox); replace aF := am_ ((by rw [hg]; exact (below_size (b0_ HB.out)) : w.heap.size ≤ ae)); replace ag := am_ ((by rw [hg]; exact (below_size (b0_ HB.out)) : w.heap.size ≤ ae)); replace HB := am_ (below_step (b0_ HB.out) hb); clear hb hbox hg; have bJ := ck_ (v := (.int .i64 a0_0)) aa 0 rfl; have bK := ck_ (v := (.string a0_1)) aa 1 rfl; have bL := ck_ (v := (.slice A0_2 l0_2.length c0_2)) aa 2 rfl; have bM := blk_frozen aa.out 0; have bN := blk_frozen aa.out 1; have bO := blk_frozen aa.out 2))
  go_ret
  exact ⟨by first | rfl | (simp [errW_none, errW_some] <;> rfl) | (simp [*, errW_none, errW_some] <;> rfl), by exact zp16_0_ HB.out ag.out⟩
 ·rw [if_neg c2] at H
  have c2b0 : (a0_0 == 1) = false := beq_eq_false_iff_ne.mpr c2
  have c2b1 : (a0_0 != 1) = true := bne_iff_ne.mpr c2
  by_cases c5 : a0_0 = 2
  ·rw [if_pos c5] at H
   have c5b0 : (a0_0 == 2) = true := beq_iff_eq.mpr c5
   have c5b1 : (a0_0 != 2) = false := bne_eq_false_iff_eq.mpr c5
   clear c5
   obtain rfl := Option.some.inj H
   simp only [Option.some.injEq, Prod.mk.injEq] at H
   obtain ⟨rfl⟩ := H
   go_enter Try.func45, Try.ntmps45
   go_wp2_with (first | ((with_reducible refine gate_dst (N := 1) rfl ?_); refine box_event ?hg (N := 1) ?hd (cs := #[.int .i64 a0_0, .string a0_1, .slice A0_2 l0_2.length c0_2]) (t := 29) ?hr ?_; (case hd => rfl); (case hg => rfl); (case hr => first | (go_simp; done) | (go_simp; rfl)); intro ae hg w6 hbox hb; replace aa := am_ (hbox); replace aF := am_ ((by rw [hg]; exact (below_size (b0_ HB.out)) : w.heap.size ≤ ae)); replace ag := am_ ((by rw [hg]; exact (below_size (b0_ HB.out)) : w.heap.size ≤ ae)); replace HB := am_ (below_step (b0_ HB.out) hb); clear hb hbox hg; have bP := ck_ (v := (.int .i64 a0_0)) aa 0 rfl; have bQ := ck_ (v := (.string a0_1)) aa 1 rfl; have bR := ck_ (v := (.slice A0_2 l0_2.length c0_2)) aa 2 rfl; have bS := blk_frozen aa.out 0; have bT := blk_frozen aa.out 1; have bU := blk_frozen aa.out 2))
   go_ret
   exact ⟨by first | rfl | (simp [errW_none, errW_some] <;> rfl) | (simp [*, errW_none, errW_some] <;> rfl), by exact zp16_0_ HB.out ag.out⟩
  ·rw [if_neg c5] at H
   have c5b0 : (a0_0 == 2) = false := beq_eq_false_iff_ne.mpr c5
   have c5b1 : (a0_0 != 2) = true := bne_iff_ne.mpr c5
   by_cases c8 : a0_0 = 3
   ·rw [if_pos c8] at H
    have c8b0 : (a0_0 == 3) = true := beq_iff_eq.mpr c8
    have c8b1 : (a0_0 != 3) = false := bne_eq_false_iff_eq.mpr c8
    clear c8
    obtain rfl := Option.some.inj H
    simp only [Option.some.injEq, Prod.mk.injEq] at H
    obtain ⟨rfl⟩ := H
    go_enter Try.func45, Try.ntmps45
    go_wp2_with (first | ((with_reducible refine gate_dst (N := 1) rfl ?_); refine box_event ?hg (N := 1) ?hd (cs := #[.int .i64 a0_0, .string a0_1, .slice A0_2 l0_2.length c0_2]) (t := 29) ?hr ?_; (case hd => rfl); (case hg => rfl); (case hr => first | (go_simp; done) | (go_simp; rfl)); intro ae hg w9 hbox hb; replace aa := am_ (hbox); replace aF := am_ ((by rw [hg]; exact (below_size (b0_ HB.out)) : w.heap.size ≤ ae)); replace ag := am_ ((by rw [hg]; exact (below_size (b0_ HB.out)) : w.heap.size ≤ ae)); replace HB := am_ (below_step (b0_ HB.out) hb); clear hb hbox hg; have aW := ck_ (v := (.int .i64 a0_0)) aa 0 rfl; have aX := ck_ (v := (.string a0_1)) aa 1 rfl; have aY := ck_ (v := (.slice A0_2 l0_2.length c0_2)) aa 2 rfl; have aZ := blk_frozen aa.out 0; have ba := blk_frozen aa.out 1; have bb := blk_frozen aa.out 2))
    go_ret
    exact ⟨by first | rfl | (simp [errW_none, errW_some] <;> rfl) | (simp [*, errW_none, errW_some] <;> rfl), by exact zp16_0_ HB.out ag.out⟩
   ·rw [if_neg c8] at H
    have c8b0 : (a0_0 == 3) = false := beq_eq_false_iff_ne.mpr c8
    have c8b1 : (a0_0 != 3) = true := bne_iff_ne.mpr c8
    by_cases c11 : a0_0 = 4
    ·rw [if_pos c11] at H
     have c11b0 : (a0_0 == 4) = true := beq_iff_eq.mpr c11
     have c11b1 : (a0_0 != 4) = false := bne_eq_false_iff_eq.mpr c11
     clear c11
     obtain rfl := Option.some.inj H
     simp only [Option.some.injEq, Prod.mk.injEq] at H
     obtain ⟨rfl⟩ := H
     go_enter Try.func45, Try.ntmps45
     go_wp2_with (first | ((with_reducible refine gate_dst (N := 1) rfl ?_); refine box_event ?hg (N := 1) ?hd (cs := #[.int .i64 a0_0, .string a0_1, .slice A0_2 l0_2.length c0_2]) (t := 29) ?hr ?_; (case hd => rfl); (case hg => rfl); (case hr => first | (go_simp; done) | (go_simp; rfl)); intro ae hg w12 hbox hb; replace aa := am_ (hbox); replace aF := am_ ((by rw [hg]; exact (below_size (b0_ HB.out)) : w.heap.size ≤ ae)); replace ag := am_ ((by rw [hg]; exact (below_size (b0_ HB.out)) : w.heap.size ≤ ae)); replace HB := am_ (below_step (b0_ HB.out) hb); clear hb hbox hg; have bc := ck_ (v := (.int .i64 a0_0)) aa 0 rfl; have bd := ck_ (v := (.string a0_1)) aa 1 rfl; have be := ck_ (v := (.slice A0_2 l0_2.length c0_2)) aa 2 rfl; have bf := blk_frozen aa.out 0; have bg := blk_frozen aa.out 1; have bh := blk_frozen aa.out 2))
     go_ret
     exact ⟨by first | rfl | (simp [errW_none, errW_some] <;> rfl) | (simp [*, errW_none, errW_some] <;> rfl), by exact zp16_0_ HB.out ag.out⟩
    ·rw [if_neg c11] at H
     have c11b0 : (a0_0 == 4) = false := beq_eq_false_iff_ne.mpr c11
     have c11b1 : (a0_0 != 4) = true := bne_iff_ne.mpr c11
     by_cases c14 : a0_0 = 8
     ·rw [if_pos c14] at H
      have c14b0 : (a0_0 == 8) = true := beq_iff_eq.mpr c14
      have c14b1 : (a0_0 != 8) = false := bne_eq_false_iff_eq.mpr c14
      clear c14
      by_cases c15 : 0 < (l0_2.length : Int)
      ·rw [if_pos c15] at H
       have c15b0 : decide (0 < (l0_2.length : Int)) = true := decide_eq_true c15
       have c15b1 : decide (0 < l0_2.length) = true := decide_eq_true (by omega)
       clear c15
       replace H := Option.bind_eq_some_iff.mp H
       obtain ⟨aD, aQ, H⟩ := H
       have A16 := am_ aQ
       clear aQ
       by_cases c17 : 1 + aD.size ≤ 9223372036854775807
       ·rw [if_pos c17] at H
        have c17b0 := eq_true c17
        have c17b1 : decide (1 + aD.size ≤ 9223372036854775807) = true := decide_eq_true c17
        try have c17b2 : (9223372036854775807 < 1 + aD.size) = False := eq_false (Nat.not_lt.2 c17)
        obtain rfl := Option.some.inj H
        simp only [Option.some.injEq, Prod.mk.injEq] at H
        obtain ⟨rfl⟩ := H
        go_enter Try.func45, Try.ntmps45
        go_wp2_with (first | ((with_reducible refine gate_dst (N := 1) rfl ?_); refine box_event ?hg (N := 1) ?hd (cs := #[.int .i64 a0_0, .string a0_1, .slice A0_2 l0_2.length c0_2]) (t := 29) ?hr ?_; (case hd => rfl); (case hg => rfl); (case hr => first | (go_simp; done) | (go_simp; rfl)); intro ae hg w18 hbox hb; replace aa := am_ (hbox); replace aF := am_ ((by rw [hg]; exact (below_size (b0_ HB.out)) : w.heap.size ≤ ae)); replace ag := am_ ((by rw [hg]; exact (below_size (b0_ HB.out)) : w.heap.size ≤ ae)); replace HB := am_ (below_step (b0_ HB.out) hb); clear hb hbox hg; have bi := ck_ (v := (.int .i64 a0_0)) aa 0 rfl; have bj := ck_ (v := (.string a0_1)) aa 1 rfl; have bk := ck_ (v := (.slice A0_2 l0_2.length c0_2)) aa 2 rfl; have bm := blk_frozen aa.out 0; have bn := blk_frozen aa.out 1; have bo := blk_frozen aa.out 2; have p249 : 0 ≤ (0 : Int) := (by omega); have q249 : 0 < (l0_2.length : Int) := of_decide_eq_true ah_; obtain ⟨bW, A249_2, c249_2, e249, ax, ay, az, hl249_2, hi249_2⟩ := at_T29 aG.out 0 p249 q249; cases e249; have qi249 : (0 < l0_2.length) = True := eq_true (by omega); (try rw [show ((0 : Int)).toNat = 0 from rfl] at ax); (try rw [show 0 * 3 = 0 from rfl] at ax); (try rw [Addr.add_zero'] at ax); (try rw [show ((0 : Int)).toNat = 0 from rfl] at ay); (try rw [show 0 * 3 = 0 from rfl] at ay); (try rw [Addr.add_zero'] at ay); (try rw [show ((0 : Int)).toNat = 0 from rfl] at az); (try rw [show 0 * 3 = 0 from rfl] at az); (try rw [Addr.add_zero'] at az); replace ax := (HB.out.cell (World.block_lt_of_cell? w _ ax)).trans ax; replace ay := (HB.out.cell (World.block_lt_of_cell? w _ ay)).trans ay; replace az := (HB.out.cell (World.block_lt_of_cell? w _ az)).trans az; have aK := am_ hi249_2; have aL := am_ hl249_2; clear hi249_2 hl249_2; replace p249 := eq_true p249; replace q249 := eq_true q249) | ((with_reducible refine gate_callee (f := 45) rfl ?_); refine gL_ (some 22) Try.func45 #[.agg #[.int .i64 ((rd_T29 l0_2 0).f0), .string ((rd_T29 l0_2 0).f1), .slice A249_2 ((rd_T29 l0_2 0).f2).length c249_2]] ?_; (with_reducible refine (ih k (by omega) ((rd_T29 l0_2 0).f0) ((rd_T29 l0_2 0).f1) _ _ ((rd_T29 l0_2 0).f2) aD _ ?side1 ?side2 A16.out).mono ?_); (case side1 => exact rc_ (Kd.C_below aK.out HB.out)); (case side2 => exact aL.out); rintro e w20 ⟨rfl, hb⟩; refine ⟨_, rfl, ?_⟩; have n0_ := am_ (blk_below (rb_ aa.out) hb); have n1_ := am_ (below_step (b1_ HB.out ag.out) hb); clear aa; clear HB; have aa := n0_; have HB := n1_; clear n0_ n1_; (try clear hb); (try clear hb2); (try clear hk); (try clear hi)))
        go_ret
        exact ⟨by first | rfl | (simp [errW_none, errW_some] <;> rfl) | (simp [*, errW_none, errW_some] <;> rfl), by exact zp16_0_ HB.out ag.out⟩
       ·rw [if_neg c17] at H
        exact absurd H (by simp)
      ·rw [if_neg c15] at H
       exact absurd H (by simp)
     ·rw [if_neg c14] at H
      have c14b0 : (a0_0 == 8) = false := beq_eq_false_iff_ne.mpr c14
      have c14b1 : (a0_0 != 8) = true := bne_iff_ne.mpr c14
      by_cases c21 : a0_0 = 9
      ·rw [if_pos c21] at H
       have c21b0 : (a0_0 == 9) = true := beq_iff_eq.mpr c21
       have c21b1 : (a0_0 != 9) = false := bne_eq_false_iff_eq.mpr c21
       clear c21
       by_cases c22 : 0 < (l0_2.length : Int)
       ·rw [if_pos c22] at H
        have c22b0 : decide (0 < (l0_2.length : Int)) = true := decide_eq_true c22
        have c22b1 : decide (0 < l0_2.length) = true := decide_eq_true (by omega)
        clear c22
        replace H := Option.bind_eq_some_iff.mp H
        obtain ⟨aE, aR, H⟩ := H
        have A23 := am_ aR
        clear aR
        by_cases c24 : 1 + aE.size ≤ 9223372036854775807
        ·rw [if_pos c24] at H
         have c24b0 := eq_true c24
         have c24b1 : decide (1 + aE.size ≤ 9223372036854775807) = true := decide_eq_true c24
         try have c24b2 : (9223372036854775807 < 1 + aE.size) = False := eq_false (Nat.not_lt.2 c24)
         obtain rfl := Option.some.inj H
         simp only [Option.some.injEq, Prod.mk.injEq] at H
         obtain ⟨rfl⟩ := H
         go_enter Try.func45, Try.ntmps45
         go_wp2_with (first | ((with_reducible refine gate_dst (N := 1) rfl ?_); refine box_event ?hg (N := 1) ?hd (cs := #[.int .i64 a0_0, .string a0_1, .slice A0_2 l0_2.length c0_2]) (t := 29) ?hr ?_; (case hd => rfl); (case hg => rfl); (case hr => first | (go_simp; done) | (go_simp; rfl)); intro ae hg w25 hbox hb; replace aa := am_ (hbox); replace aF := am_ ((by rw [hg]; exact (below_size (b0_ HB.out)) : w.heap.size ≤ ae)); replace ag := am_ ((by rw [hg]; exact (below_size (b0_ HB.out)) : w.heap.size ≤ ae)); replace HB := am_ (below_step (b0_ HB.out) hb); clear hb hbox hg; have bp := ck_ (v := (.int .i64 a0_0)) aa 0 rfl; have bq := ck_ (v := (.string a0_1)) aa 1 rfl; have br := ck_ (v := (.slice A0_2 l0_2.length c0_2)) aa 2 rfl; have bs := blk_frozen aa.out 0; have bt := blk_frozen aa.out 1; have bu := blk_frozen aa.out 2; have p251 : 0 ≤ (0 : Int) := (by omega); have q251 : 0 < (l0_2.length : Int) := of_decide_eq_true ah_; obtain ⟨bX, A251_2, c251_2, e251, aA, aB, aC, hl251_2, hi251_2⟩ := at_T29 aG.out 0 p251 q251; cases e251; have qi251 : (0 < l0_2.length) = True := eq_true (by omega); (try rw [show ((0 : Int)).toNat = 0 from rfl] at aA); (try rw [show 0 * 3 = 0 from rfl] at aA); (try rw [Addr.add_zero'] at aA); (try rw [show ((0 : Int)).toNat = 0 from rfl] at aB); (try rw [show 0 * 3 = 0 from rfl] at aB); (try rw [Addr.add_zero'] at aB); (try rw [show ((0 : Int)).toNat = 0 from rfl] at aC); (try rw [show 0 * 3 = 0 from rfl] at aC); (try rw [Addr.add_zero'] at aC); replace aA := (HB.out.cell (World.block_lt_of_cell? w _ aA)).trans aA; replace aB := (HB.out.cell (World.block_lt_of_cell? w _ aB)).trans aB; replace aC := (HB.out.cell (World.block_lt_of_cell? w _ aC)).trans aC; have aM := am_ hi251_2; have aN := am_ hl251_2; clear hi251_2 hl251_2; replace p251 := eq_true p251; replace q251 := eq_true q251) | ((with_reducible refine gate_callee (f := 45) rfl ?_); refine gL_ (some 30) Try.func45 #[.agg #[.int .i64 ((rd_T29 l0_2 0).f0), .string ((rd_T29 l0_2 0).f1), .slice A251_2 ((rd_T29 l0_2 0).f2).length c251_2]] ?_; (with_reducible refine (ih k (by omega) ((rd_T29 l0_2 0).f0) ((rd_T29 l0_2 0).f1) _ _ ((rd_T29 l0_2 0).f2) aE _ ?side1 ?side2 A23.out).mono ?_); (case side1 => exact rc_ (Kd.C_below aM.out HB.out)); (case side2 => exact aN.out); rintro e w27 ⟨rfl, hb⟩; refine ⟨_, rfl, ?_⟩; have n0_ := am_ (blk_below (rb_ aa.out) hb); have n1_ := am_ (below_step (b1_ HB.out ag.out) hb); clear aa; clear HB; have aa := n0_; have HB := n1_; clear n0_ n1_; (try clear hb); (try clear hb2); (try clear hk); (try clear hi)))
         go_ret
         exact ⟨by first | rfl | (simp [errW_none, errW_some] <;> rfl) | (simp [*, errW_none, errW_some] <;> rfl), by exact zp16_0_ HB.out ag.out⟩
        ·rw [if_neg c24] at H
         exact absurd H (by simp)
       ·rw [if_neg c22] at H
        exact absurd H (by simp)
      ·rw [if_neg c21] at H
       have c21b0 : (a0_0 == 9) = false := beq_eq_false_iff_ne.mpr c21
       have c21b1 : (a0_0 != 9) = true := bne_iff_ne.mpr c21
       obtain ⟨ad, hy253⟩ : ∃ y_ : List ByteArray, y_ = (([(⟨#[]⟩ : ByteArray), (⟨#[124]⟩ : ByteArray), (⟨#[38]⟩ : ByteArray)] : List ByteArray)) := ⟨_, rfl⟩
       replace H : (if 0 ≤ (wrap64 (a0_0 - 5)) then (if (wrap64 (a0_0 - 5)) < (ad.length : Int) then (if 0 < (l0_2.length : Int) then ((spec_l3Text.f k ((rd_T29 l0_2 0).f0) ((rd_T29 l0_2 0).f1) ((rd_T29 l0_2 0).f2)).bind fun ab => (if 1 + ab.size ≤ 9223372036854775807 then (if ((⟨#[40]⟩ : ByteArray) ++ ab).size + (rdOf ByteArray.empty ad (wrap64 (a0_0 - 5))).size ≤ 9223372036854775807 then (if 1 < (l0_2.length : Int) then ((spec_l3Text.f k ((rd_T29 l0_2 1).f0) ((rd_T29 l0_2 1).f1) ((rd_T29 l0_2 1).f2)).bind fun af => (if (((⟨#[40]⟩ : ByteArray) ++ ab) ++ (rdOf ByteArray.empty ad (wrap64 (a0_0 - 5)))).size + af.size ≤ 9223372036854775807 then (if ((((⟨#[40]⟩ : ByteArray) ++ ab) ++ (rdOf ByteArray.empty ad (wrap64 (a0_0 - 5)))) ++ af).size + 1 ≤ 9223372036854775807 then (some (((((⟨#[40]⟩ : ByteArray) ++ ab) ++ (rdOf ByteArray.empty ad (wrap64 (a0_0 - 5)))) ++ af) ++ (⟨#[41]⟩ : ByteArray))) else (none)) else (none))) else (none)) else (none)) else (none))) else (none)) else (none)) else (none)) = some r := by first | (rw [hy253]; with_reducible exact H) | (have H2_ := (Option.bind_some _ _).symm.trans H; rw [hy253]; with_reducible exact H2_) | (have H2_ := (Option.bind_some _ _).symm.trans H; with_reducible exact H2_) | with_reducible exact H | (rw [hy253]; exact H) | exact H
       have aJ := am_ hy253
       clear hy253
       obtain ⟨ji28, hji28⟩ : ∃ j_ : Int, (wrap64 (a0_0 - 5)) = j_ := ⟨_, rfl⟩
       replace H : (if 0 ≤ (ji28) then (if (ji28) < (ad.length : Int) then (if 0 < (l0_2.length : Int) then ((spec_l3Text.f k ((rd_T29 l0_2 0).f0) ((rd_T29 l0_2 0).f1) ((rd_T29 l0_2 0).f2)).bind fun ab => (if 1 + ab.size ≤ 9223372036854775807 then (if ((⟨#[40]⟩ : ByteArray) ++ ab).size + (rdOf ByteArray.empty ad (ji28)).size ≤ 9223372036854775807 then (if 1 < (l0_2.length : Int) then ((spec_l3Text.f k ((rd_T29 l0_2 1).f0) ((rd_T29 l0_2 1).f1) ((rd_T29 l0_2 1).f2)).bind fun af => (if (((⟨#[40]⟩ : ByteArray) ++ ab) ++ (rdOf ByteArray.empty ad (ji28))).size + af.size ≤ 9223372036854775807 then (if ((((⟨#[40]⟩ : ByteArray) ++ ab) ++ (rdOf ByteArray.empty ad (ji28))) ++ af).size + 1 ≤ 9223372036854775807 then (some (((((⟨#[40]⟩ : ByteArray) ++ ab) ++ (rdOf ByteArray.empty ad (ji28))) ++ af) ++ (⟨#[41]⟩ : ByteArray))) else (none)) else (none))) else (none)) else (none)) else (none))) else (none)) else (none)) else (none)) = some r := by first | (rw [hji28] at H; exact H) | (simp only [hji28] at H ⊢; exact H)
       have hji28w : (IntKind.i64.wrap (a0_0 - 5)) = ji28 := (i64_w _).trans hji28
       by_cases c29 : 0 ≤ (ji28)
       ·rw [if_pos c29] at H
        have c29b0 : decide (0 ≤ (ji28)) = true := decide_eq_true c29
        clear c29
        by_cases c30 : (ji28) < (ad.length : Int)
        ·rw [if_pos c30] at H
         have c30b0 : decide ((ji28) < (ad.length : Int)) = true := decide_eq_true c30
         clear c30
         by_cases c31 : 0 < (l0_2.length : Int)
         ·rw [if_pos c31] at H
          have c31b0 : decide (0 < (l0_2.length : Int)) = true := decide_eq_true c31
          have c31b1 : decide (0 < l0_2.length) = true := decide_eq_true (by omega)
          clear c31
          replace H := Option.bind_eq_some_iff.mp H
          obtain ⟨ab, aS, H⟩ := H
          have A32 := am_ aS
          clear aS
          by_cases c33 : 1 + ab.size ≤ 9223372036854775807
          ·rw [if_pos c33] at H
           have c33b0 := eq_true c33
           have c33b1 : decide (1 + ab.size ≤ 9223372036854775807) = true := decide_eq_true c33
           try have c33b2 : (9223372036854775807 < 1 + ab.size) = False := eq_false (Nat.not_lt.2 c33)
           by_cases c34 : ((⟨#[40]⟩ : ByteArray) ++ ab).size + (rdOf ByteArray.empty ad (ji28)).size ≤ 9223372036854775807
           ·rw [if_pos c34] at H
            have c34b0 := eq_true c34
            have c34b1 : decide (((⟨#[40]⟩ : ByteArray) ++ ab).size + (rdOf ByteArray.empty ad (ji28)).size ≤ 9223372036854775807) = true := decide_eq_true c34
            try have c34b2 : (9223372036854775807 < ((⟨#[40]⟩ : ByteArray) ++ ab).size + (rdOf ByteArray.empty ad (ji28)).size) = False := eq_false (Nat.not_lt.2 c34)
            try have c34b5 : (9223372036854775807 < 1 + ab.size + (rdOf ByteArray.empty ad (ji28)).size) = False := eq_false (by have h_ := c34; simp only [ByteArray.size_append, ByteArray.size_extract, show (⟨#[40]⟩ : ByteArray).size = 1 from rfl] at h_; first | omega | (simp only [decide_eq_true_eq] at *; omega))
            by_cases c35 : 1 < (l0_2.length : Int)
            ·rw [if_pos c35] at H
             have c35b0 : decide (1 < (l0_2.length : Int)) = true := decide_eq_true c35
             have c35b1 : decide (1 < l0_2.length) = true := decide_eq_true (by omega)
             clear c35
             replace H := Option.bind_eq_some_iff.mp H
             obtain ⟨af, aT, H⟩ := H
             have A36 := am_ aT
             clear aT
             by_cases c37 : (((⟨#[40]⟩ : ByteArray) ++ ab) ++ (rdOf ByteArray.empty ad (ji28))).size + af.size ≤ 9223372036854775807
             ·rw [if_pos c37] at H
              have c37b0 := eq_true c37
              have c37b1 : decide ((((⟨#[40]⟩ : ByteArray) ++ ab) ++ (rdOf ByteArray.empty ad (ji28))).size + af.size ≤ 9223372036854775807) = true := decide_eq_true c37
              try have c37b2 : (9223372036854775807 < (((⟨#[40]⟩ : ByteArray) ++ ab) ++ (rdOf ByteArray.empty ad (ji28))).size + af.size) = False := eq_false (Nat.not_lt.2 c37)
              try have c37b5 : (9223372036854775807 < 1 + ab.size + (rdOf ByteArray.empty ad (ji28)).size + af.size) = False := eq_false (by have h_ := c37; simp only [ByteArray.size_append, ByteArray.size_extract, show (⟨#[40]⟩ : ByteArray).size = 1 from rfl] at h_; first | omega | (simp only [decide_eq_true_eq] at *; omega))
              by_cases c38 : ((((⟨#[40]⟩ : ByteArray) ++ ab) ++ (rdOf ByteArray.empty ad (ji28))) ++ af).size + 1 ≤ 9223372036854775807
              ·rw [if_pos c38] at H
               have c38b0 := eq_true c38
               have c38b1 : decide (((((⟨#[40]⟩ : ByteArray) ++ ab) ++ (rdOf ByteArray.empty ad (ji28))) ++ af).size + 1 ≤ 9223372036854775807) = true := decide_eq_true c38
               try have c38b2 : (9223372036854775807 < ((((⟨#[40]⟩ : ByteArray) ++ ab) ++ (rdOf ByteArray.empty ad (ji28))) ++ af).size + 1) = False := eq_false (Nat.not_lt.2 c38)
               try have c38b5 : (9223372036854775807 < 1 + ab.size + (rdOf ByteArray.empty ad (ji28)).size + af.size + 1) = False := eq_false (by have h_ := c38; simp only [ByteArray.size_append, ByteArray.size_extract, show (⟨#[40]⟩ : ByteArray).size = 1 from rfl] at h_; first | omega | (simp only [decide_eq_true_eq] at *; omega))
               obtain rfl := Option.some.inj H
               simp only [Option.some.injEq, Prod.mk.injEq] at H
               obtain ⟨rfl⟩ := H
               go_enter Try.func45, Try.ntmps45
               try go_wp2_with (first | ((with_reducible refine gate_dst (N := 1) rfl ?_); refine box_event ?hg (N := 1) ?hd (cs := #[.int .i64 a0_0, .string a0_1, .slice A0_2 l0_2.length c0_2]) (t := 29) ?hr ?_; (case hd => rfl); (case hg => rfl); (case hr => first | (go_simp; done) | (go_simp; rfl)); intro ae hg w39 hbox hb; replace aa := am_ (hbox); replace aF := am_ ((by rw [hg]; exact (below_size (b0_ HB.out)) : w.heap.size ≤ ae)); replace ag := am_ ((by rw [hg]; exact (below_size (b0_ HB.out)) : w.heap.size ≤ ae)); replace HB := am_ (below_step (b0_ HB.out) hb); clear hb hbox hg; have bv := ck_ (v := (.int .i64 a0_0)) aa 0 rfl; have bw := ck_ (v := (.string a0_1)) aa 1 rfl; have bx := ck_ (v := (.slice A0_2 l0_2.length c0_2)) aa 2 rfl; have bz := blk_frozen aa.out 0; have bA := blk_frozen aa.out 1; have bB := blk_frozen aa.out 2) | ((with_reducible refine gate_dst (N := 32) rfl ?_); refine Kd.R_lit Kd.string _ 9 ?hg (N := 32) ?hd (xs := ([(⟨#[]⟩ : ByteArray), (⟨#[124]⟩ : ByteArray), (⟨#[38]⟩ : ByteArray)] : List ByteArray)) (inner := [.string (⟨#[]⟩ : ByteArray), .string (⟨#[124]⟩ : ByteArray), .string (⟨#[38]⟩ : ByteArray)]) (ok := fun _ => True) (okp := fun _ => True) ?hr ?hp (fun _ hk => hk) trivial (Below.refl _ _) (Nat.le_refl _) (by simp) ?_; (case hd => rfl); (case hg => rfl); (case hr => first | (go_simp; done) | (go_simp; rfl)); (case hp => exact (Reps.one (show Kd.M Kd.string _ _ _ (⟨#[]⟩ : ByteArray) [.string (⟨#[]⟩ : ByteArray)] from rfl) (Reps.one (show Kd.M Kd.string _ _ _ (⟨#[124]⟩ : ByteArray) [.string (⟨#[124]⟩ : ByteArray)] from rfl) (Reps.one (show Kd.M Kd.string _ _ _ (⟨#[38]⟩ : ByteArray) [.string (⟨#[38]⟩ : ByteArray)] from rfl) (Reps.none _ _))))); intro bZ w41 ho42 hb hg_ hnew_; clear hg_ hnew_; (first | rw [← aJ.out] at ho42 | (simp only [Int.reduceToNat] at ho42; rw [← aJ.out] at ho42)); have n0_ := am_ (Kd.R_lower ho42 (below_size (b1_ HB.out ag.out))); have n1_ := am_ (blk_below (rb_ aa.out) hb); have n2_ := am_ (below_step (b1_ HB.out ag.out) hb); clear aa; clear HB; have aw := n0_; have aa := n1_; have HB := n2_; clear n0_ n1_ n2_; clear hb ho42; have bC := ck_ (v := (.int .i64 a0_0)) aa 0 rfl; have bD := ck_ (v := (.string a0_1)) aa 1 rfl; have bE := ck_ (v := (.slice A0_2 l0_2.length c0_2)) aa 2 rfl; have bF := blk_frozen aa.out 0; have bG := blk_frozen aa.out 1; have bH := blk_frozen aa.out 2; obtain ⟨ca, cb, aV⟩ := Kd.R_slice aw.out; subst aV; have p256 : 0 ≤ ((ji28) : Int) := of_decide_eq_true ah_; have q256 : (ji28) < (ad.length : Int) := of_decide_eq_true ah_; obtain ⟨bY, e256, bI⟩ := Kd.at_string (Kd.R_reads' aw.out).2.2 (ji28) p256 q256; cases e256; replace p256 := eq_true p256; replace q256 := eq_true q256))
               replace aw := am_ (Kd.R_drew aw.out)
               replace aa := am_ (blk_drew aa.out)
               replace HB := am_ (below_drew1 HB.out)
               have p257 : 0 ≤ (0 : Int) := (by omega)
               have q257 : 0 < (l0_2.length : Int) := of_decide_eq_true ah_
               obtain ⟨ah, A257_2, c257_2, e257, ao, ap, aq, hl257_2, hi257_2⟩ := at_T29 aG.out 0 p257 q257
               have ai := aq
               (try rw [show ((0 : Int)).toNat = 0 from rfl] at ai)
               (try rw [show 0 * 3 = 0 from rfl] at ai)
               (try rw [Addr.add_zero'] at ai)
               have aj := ap
               (try rw [show ((0 : Int)).toNat = 0 from rfl] at aj)
               (try rw [show 0 * 3 = 0 from rfl] at aj)
               (try rw [Addr.add_zero'] at aj)
               have ak := ao
               (try rw [show ((0 : Int)).toNat = 0 from rfl] at ak)
               (try rw [show 0 * 3 = 0 from rfl] at ak)
               (try rw [Addr.add_zero'] at ak)
               cases e257
               have qi257 : (0 < l0_2.length) = True := eq_true (by omega)
               (try rw [show ((0 : Int)).toNat = 0 from rfl] at ao)
               (try rw [show 0 * 3 = 0 from rfl] at ao)
               (try rw [Addr.add_zero'] at ao)
               (try rw [show ((0 : Int)).toNat = 0 from rfl] at ap)
               (try rw [show 0 * 3 = 0 from rfl] at ap)
               (try rw [Addr.add_zero'] at ap)
               (try rw [show ((0 : Int)).toNat = 0 from rfl] at aq)
               (try rw [show 0 * 3 = 0 from rfl] at aq)
               (try rw [Addr.add_zero'] at aq)
               replace ao := (HB.out.cell (World.block_lt_of_cell? w _ ao)).trans ao
               replace ap := (HB.out.cell (World.block_lt_of_cell? w _ ap)).trans ap
               replace aq := (HB.out.cell (World.block_lt_of_cell? w _ aq)).trans aq
               have aH := am_ hi257_2
               have aO := am_ hl257_2
               clear hi257_2 hl257_2
               replace p257 := eq_true p257
               replace q257 := eq_true q257
               have p259 : 0 ≤ (1 : Int) := (by omega)
               have q259 : 1 < (l0_2.length : Int) := of_decide_eq_true ah_
               obtain ⟨aU, A259_2, c259_2, e259, ar, au, av, hl259_2, hi259_2⟩ := at_T29 aG.out 1 p259 q259
               have al := av
               (try rw [show ((1 : Int)).toNat = 1 from rfl] at al)
               (try rw [show 1 * 3 = 3 from rfl] at al)
               (try simp only [Nat.reduceMul, Nat.reduceEqDiff, Go.Addr.add, ↓reduceIte] at al)
               have am := au
               (try rw [show ((1 : Int)).toNat = 1 from rfl] at am)
               (try rw [show 1 * 3 = 3 from rfl] at am)
               (try simp only [Nat.reduceMul, Nat.reduceEqDiff, Go.Addr.add, ↓reduceIte] at am)
               have an := ar
               (try rw [show ((1 : Int)).toNat = 1 from rfl] at an)
               (try rw [show 1 * 3 = 3 from rfl] at an)
               (try simp only [Nat.reduceMul, Nat.reduceEqDiff, Go.Addr.add, ↓reduceIte] at an)
               obtain rfl : ah = aU := (by injection e259)
               (try simp only [show (1 : Int).toNat = 1 from rfl, Nat.reduceMul, Nat.reduceEqDiff, Go.Addr.add, ↓reduceIte] at ar)
               (try simp only [show (1 : Int).toNat = 1 from rfl, Nat.reduceMul, Nat.reduceEqDiff, Go.Addr.add, ↓reduceIte] at au)
               (try simp only [show (1 : Int).toNat = 1 from rfl, Nat.reduceMul, Nat.reduceEqDiff, Go.Addr.add, ↓reduceIte] at av)
               have qi259 : (1 < l0_2.length) = True := eq_true (by omega)
               (try rw [show ((1 : Int)).toNat = 1 from rfl] at ar)
               (try rw [show 1 * 3 = 3 from rfl] at ar)
               (try rw [show ((1 : Int)).toNat = 1 from rfl] at au)
               (try rw [show 1 * 3 = 3 from rfl] at au)
               (try rw [show ((1 : Int)).toNat = 1 from rfl] at av)
               (try rw [show 1 * 3 = 3 from rfl] at av)
               replace ar := (HB.out.cell (World.block_lt_of_cell? w _ ar)).trans ar
               replace au := (HB.out.cell (World.block_lt_of_cell? w _ au)).trans au
               replace av := (HB.out.cell (World.block_lt_of_cell? w _ av)).trans av
               have aI := am_ hi259_2
               have aP := am_ hl259_2
               clear hi259_2 hl259_2
               replace p259 := eq_true p259
               replace q259 := eq_true q259
               refine start_ (n := 16) (S := fun w' => w'.cell? ⟨ae, 0, none⟩ = some (.int .i64 a0_0) ∧ w'.cell? ⟨ae, 1, none⟩ = some (.string a0_1) ∧ w'.cell? ⟨ae, 2, none⟩ = some (.slice (some ah) l0_2.length c0_2) ∧ w'.cell? ah = some (.int .i64 ((rd_T29 l0_2 0).f0)) ∧ w'.cell? ⟨ah.block, ah.off + 1, none⟩ = some (.string ((rd_T29 l0_2 0).f1)) ∧ w'.cell? ⟨ah.block, ah.off + 2, none⟩ = some (.slice A257_2 ((rd_T29 l0_2 0).f2).length c257_2) ∧ w'.cell? ⟨ah.block, ah.off + 3, none⟩ = some (.int .i64 ((rd_T29 l0_2 1).f0)) ∧ w'.cell? ⟨ah.block, ah.off + 3 + 1, none⟩ = some (.string ((rd_T29 l0_2 1).f1)) ∧ w'.cell? ⟨ah.block, ah.off + 3 + 2, none⟩ = some (.slice A259_2 ((rd_T29 l0_2 1).f2).length c259_2)) (ds := []) (bl 16 0) (by kernel_rfl) rfl rfl ⟨(blk_cell aa.out 0).trans rfl, (blk_cell aa.out 1).trans rfl, (blk_cell aa.out 2).trans rfl, ((HB.out.cell (World.block_lt_of_cell? w _ ak)).trans ak), ((HB.out.cell (World.block_lt_of_cell? w _ aj)).trans aj), ((HB.out.cell (World.block_lt_of_cell? w _ ai)).trans ai), ((HB.out.cell (World.block_lt_of_cell? w _ an)).trans an), ((HB.out.cell (World.block_lt_of_cell? w _ am)).trans am), ((HB.out.cell (World.block_lt_of_cell? w _ al)).trans al)⟩ (fun hHeld => ?_); refine with_tabW spec_l3Text.tab15 spec_l3Text.bits15 (fun HT_ HW_ => ?_)
               generalize w41.drew = w45 at aw aa HB aH aI ao ap aq ar au av hHeld ⊢
               refine pu_ 0 38 (bl 16 1) HT_ ?_
               refine pu_ 6 44 (bl 16 65) HT_ ?_
               refine pu_ 8 46 (bl 16 321) HT_ ?_
               refine tk_ 1 39 (bl 16 323) HT_ HW_ hHeld ?_
               refine pu_ 2 40 (bl 16 327) HT_ ?_
               refine tk_ 3 41 (bl 16 335) HT_ HW_ hHeld ?_
               refine tk_ 9 47 (bl 16 847) HT_ HW_ hHeld ?_
               refine pu_ 10 48 (bl 16 1871) HT_ ?_
               refine tk_ 11 49 (bl 16 3919) HT_ HW_ hHeld ?_
               refine on_ 4 (some 42) (bl 16 3935) HT_ (fun K hK => ?_)
               refine gO_ Try.func45 #[.agg #[.int .i64 ((rd_T29 l0_2 0).f0), .string ((rd_T29 l0_2 0).f1), .slice A257_2 ((rd_T29 l0_2 0).f2).length c257_2]] ?_
               with_reducible refine (ih k (by omega) ((rd_T29 l0_2 0).f0) ((rd_T29 l0_2 0).f1) _ _ ((rd_T29 l0_2 0).f2) ab _ ?side1 ?side2 A32.out).mono ?_
               (case side1 => exact rc_ (Kd.C_below aH.out HB.out))
               (case side2 => exact aO.out)
               rintro e w46 ⟨rfl, hb⟩
               refine ⟨_, rfl, ?_⟩
               replace aw := am_ (Kd.R_below (rr_ aw.out) hb)
               replace aa := am_ (blk_below (rb_ aa.out) hb)
               replace HB := am_ (below_step (b1_ HB.out ag.out) hb)
               (try clear hb)
               (try clear hb2)
               (try clear hk)
               (try clear hi)
               refine hK.out _ _ ⟨(blk_cell aa.out 0).trans rfl, (blk_cell aa.out 1).trans rfl, (blk_cell aa.out 2).trans rfl, ((HB.out.cell (World.block_lt_of_cell? w _ ak)).trans ak), ((HB.out.cell (World.block_lt_of_cell? w _ aj)).trans aj), ((HB.out.cell (World.block_lt_of_cell? w _ ai)).trans ai), ((HB.out.cell (World.block_lt_of_cell? w _ an)).trans an), ((HB.out.cell (World.block_lt_of_cell? w _ am)).trans am), ((HB.out.cell (World.block_lt_of_cell? w _ al)).trans al)⟩ (fun hHeld => ?_)
               clear hK K
               refine norm_ (a' := ?_) ?_ ?_
               rotate_left
               ·show Act.put _ (some 42) _ = _
                simp only [pn_, sz_, ss_, i64_w, i32_w]
                rfl
               refine pu_ 5 43 (bl 16 3967) HT_ ?_
               refine pu_ 7 45 (bl 16 4095) HT_ ?_
               refine on_ 12 (some 50) (bl 16 8191) HT_ (fun K hK => ?_)
               refine gO_ Try.func45 #[.agg #[.int .i64 ((rd_T29 l0_2 1).f0), .string ((rd_T29 l0_2 1).f1), .slice A259_2 ((rd_T29 l0_2 1).f2).length c259_2]] ?_
               with_reducible refine (ih k (by omega) ((rd_T29 l0_2 1).f0) ((rd_T29 l0_2 1).f1) _ _ ((rd_T29 l0_2 1).f2) af _ ?side1 ?side2 A36.out).mono ?_
               (case side1 => exact rc_ (Kd.C_below aI.out HB.out))
               (case side2 => exact aP.out)
               rintro e w47 ⟨rfl, hb⟩
               refine ⟨_, rfl, ?_⟩
               replace aw := am_ (Kd.R_below (rr_ aw.out) hb)
               replace aa := am_ (blk_below (rb_ aa.out) hb)
               replace HB := am_ (below_step (b1_ HB.out ag.out) hb)
               (try clear hb)
               (try clear hb2)
               (try clear hk)
               (try clear hi)
               refine hK.out _ _ ⟨(blk_cell aa.out 0).trans rfl, (blk_cell aa.out 1).trans rfl, (blk_cell aa.out 2).trans rfl, ((HB.out.cell (World.block_lt_of_cell? w _ ak)).trans ak), ((HB.out.cell (World.block_lt_of_cell? w _ aj)).trans aj), ((HB.out.cell (World.block_lt_of_cell? w _ ai)).trans ai), ((HB.out.cell (World.block_lt_of_cell? w _ an)).trans an), ((HB.out.cell (World.block_lt_of_cell? w _ am)).trans am), ((HB.out.cell (World.block_lt_of_cell? w _ al)).trans al)⟩ (fun hHeld => ?_)
               clear hK K
               refine norm_ (a' := ?_) ?_ ?_
               rotate_left
               ·show Act.put _ (some 50) _ = _
                simp only [pn_, sz_, ss_, i64_w, i32_w]
                rfl
               refine pu_ 13 51 (bl 16 16383) HT_ ?_
               refine pu_ 14 52 (bl 16 32767) HT_ ?_
               refine pu_ 15 2 (bl 16 65535) HT_ ?_
               refine done_ (done_of HT_.out (by kernel_rfl)) ?_
               try go_wp2
               go_ret
               exact ⟨by first | rfl | (simp [errW_none, errW_some] <;> rfl) | (simp only [← hji28]; first | rfl | (simp [errW_none, errW_some] <;> rfl)) | (simp [*, errW_none, errW_some] <;> rfl), by exact zp16_0_ HB.out ag.out⟩
              ·rw [if_neg c38] at H
               exact absurd H (by simp)
             ·rw [if_neg c37] at H
              exact absurd H (by simp)
            ·rw [if_neg c35] at H
             exact absurd H (by simp)
           ·rw [if_neg c34] at H
            exact absurd H (by simp)
          ·rw [if_neg c33] at H
           exact absurd H (by simp)
         ·rw [if_neg c31] at H
          exact absurd H (by simp)
        ·rw [if_neg c30] at H
         exact absurd H (by simp)
       ·rw [if_neg c29] at H
        exact absurd H (by simp)
end Go.Proofs.Ytldgkgdgcfllmaa.P
end
section
namespace Go.Proofs.Ytldgkgdgcfllmaa.P
open Go.RowKit Go.Proofs.YtldgkgdgcfllmaaW.PrintWords Go.Proofs.YtldgkgdgcfllmaaW.PrintLast Go.Proofs.YtldgkgdgcfllmaaW.PrintMore
attribute [local go_sem] max2_int min2_int max_two min_two max_three min_three max_four min_four
set_option linter.unusedVariables false
set_option linter.unusedSimpArgs false
def spec_FormatRegex.f (k : Nat) (a0_0 : Int) (a0_1 : ByteArray) (l0_2 : List (S29)) : Option (ByteArray) := (spec_IsValidRegex.f k a0_0 a0_1 l0_2).bind fun af => (if af = true then ((spec_l3Text.f k a0_0 a0_1 l0_2).bind fun ab => (some ab)) else (some (⟨#[]⟩ : ByteArray)))
theorem spec_FormatRegex.mono : ∀ a0 a1 a2 k, LeO (spec_FormatRegex.f k a0 a1 a2) (spec_FormatRegex.f (k + 1) a0 a1 a2) := by
  intro a0 a1 a2 k
  unfold spec_FormatRegex.f
  repeat' first
      | (with_reducible exact spec_IsValidRegex.mono _ _ _ _)
      | (with_reducible exact spec_l3Text.mono _ _ _ _)
      | (with_reducible exact LeO.refl _)
      | (with_reducible exact LeO.none _)
      | (with_reducible refine LeO.ite ?_ ?_)
      | (with_reducible refine LeO.bind ?_ (fun _ => ?_))
      | exact spec_IsValidRegex.mono _ _ _ _
      | exact spec_l3Text.mono _ _ _ _
      | exact LeO.none _
      | refine LeO.ite ?_ ?_
      | refine LeO.bind ?_ (fun _ => ?_)
set_option maxHeartbeats 8000000 in
set_option maxRecDepth 100000 in
theorem spec_FormatRegex.calls (k : Nat) (a0_0 : Int) (a0_1 : ByteArray) (A0_2 : Option Addr) (c0_2 : Nat) (l0_2 : List (S29)) (r : ByteArray) (w : World) (hr0_2 : Kd.C k29 w A0_2 l0_2.length l0_2) (hc0_2 : l0_2.length ≤ c0_2) (h : spec_FormatRegex.f k a0_0 a0_1 l0_2 = some r) :
    Calls Try.prog 19 #[.agg #[.int .i64 a0_0, .string a0_1, .slice A0_2 l0_2.length c0_2]] w fun e w' => e = .returned (.string r) ∧ Below w.heap.size w w' := by
  have hu29 := Try.underlying29
  have ag := am_ hr0_2
  have ah := am_ hc0_2
  clear hr0_2 hc0_2
  have HB := am_ (Below.refl w.heap.size w)
  have H : ((spec_IsValidRegex.f k a0_0 a0_1 l0_2).bind fun af => (if af = true then ((spec_l3Text.f k a0_0 a0_1 l0_2).bind fun ab => (some ab)) else (some (⟨#[]⟩ : ByteArray)))) = some r := h
  clear h
  replace H := Option.bind_eq_some_iff.mp H
  obtain ⟨af, A20, H⟩ := H
  have A2 := am_ A20
  clear A20
  by_cases c3 : af = true
  · subst c3
    have H1 : ((spec_l3Text.f k a0_0 a0_1 l0_2).bind fun ab => (some ab)) = some r := by rw [if_pos rfl] at H; exact H
    clear H
    have H := H1
    clear H1
    replace H := Option.bind_eq_some_iff.mp H
    obtain ⟨ab, A40, H⟩ := H
    replace H : (some ab) = some r := H
    have A4 := am_ A40
    clear A40
    obtain rfl := Option.some.inj H
    simp only [Option.some.injEq, Prod.mk.injEq] at H
    obtain ⟨rfl⟩ := H
    go_enter Try.func19, Try.ntmps19
    go_wp2_with (first | ((with_reducible refine gate_dst (N := 1) rfl ?_); refine box_event ?hg (N := 1) ?hd (cs := #[.int .i64 a0_0, .string a0_1, .slice A0_2 l0_2.length c0_2]) (t := 29) ?hr ?_; (case hd => rfl); (case hg => rfl); (case hr => first | (go_simp; done) | (go_simp; rfl)); intro ae hg w5 hbox hb; replace aa := am_ (hbox); replace ai := am_ ((by rw [hg]; exact (below_size (b0_ HB.out)) : w.heap.size ≤ ae)); replace ad := am_ ((by rw [hg]; exact (below_size (b0_ HB.out)) : w.heap.size ≤ ae)); replace HB := am_ (below_step (b0_ HB.out) hb); clear hb hbox hg; have ap := ck_ (v := (.int .i64 a0_0)) aa 0 rfl; have aq := ck_ (v := (.string a0_1)) aa 1 rfl; have ar := ck_ (v := (.slice A0_2 l0_2.length c0_2)) aa 2 rfl; have au := blk_frozen aa.out 0; have av := blk_frozen aa.out 1; have aw := blk_frozen aa.out 2) | ((with_reducible refine gate_callee (f := 17) rfl ?_); refine gL_ (some 4) Try.func17 #[.agg #[.int .i64 a0_0, .string a0_1, .slice A0_2 l0_2.length c0_2]] ?_; (with_reducible refine (spec_IsValidRegex.calls k a0_0 a0_1 _ _ l0_2 true _ ?side1 ?side2 A2.out).mono ?_); (case side1 => exact rc_ (Kd.C_below ag.out HB.out)); (case side2 => exact ah.out); rintro e w7 ⟨rfl, hb⟩; refine ⟨_, rfl, ?_⟩; have n0_ := am_ (blk_below (rb_ aa.out) hb); have n1_ := am_ (below_step (b1_ HB.out ad.out) hb); clear aa; clear HB; have aa := n0_; have HB := n1_; clear n0_ n1_; (try clear hb); (try clear hb2); (try clear hk); (try clear hi); have ax := ck_ (v := (.int .i64 a0_0)) aa 0 rfl; have ay := ck_ (v := (.string a0_1)) aa 1 rfl; have az := ck_ (v := (.slice A0_2 l0_2.length c0_2)) aa 2 rfl; have aA := blk_frozen aa.out 0; have aB := blk_frozen aa.out 1; have aC := blk_frozen aa.out 2) | ((with_reducible refine gate_callee (f := 45) rfl ?_); refine gL_ (some 7) Try.func45 #[.agg #[.int .i64 a0_0, .string a0_1, .slice A0_2 l0_2.length c0_2]] ?_; (with_reducible refine (spec_l3Text.calls k a0_0 a0_1 _ _ l0_2 ab _ ?side1 ?side2 A4.out).mono ?_); (case side1 => exact rc_ (Kd.C_below ag.out HB.out)); (case side2 => exact ah.out); rintro e w9 ⟨rfl, hb⟩; refine ⟨_, rfl, ?_⟩; have n0_ := am_ (blk_below (rb_ aa.out) hb); have n1_ := am_ (below_step (b1_ HB.out ad.out) hb); clear aa; clear HB; have aa := n0_; have HB := n1_; clear n0_ n1_; (try clear hb); (try clear hb2); (try clear hk); (try clear hi)))
    go_ret
    exact ⟨by first | rfl | (simp [errW_none, errW_some] <;> rfl) | (simp [*, errW_none, errW_some] <;> rfl), by repeat (first | (with_reducible first | exact HB.out | apply below_alloc | apply pw_below_drewN | apply below_drew1 | refine below_set ?_ ad.out) | exact HB.out)⟩
  · replace c3 := Bool.eq_false_iff.mpr c3
    subst c3
    have H1 : (some (⟨#[]⟩ : ByteArray)) = some r := by rw [if_neg (show ¬ (false = true) by decide)] at H; exact H
    clear H
    have H := H1
    clear H1
    obtain rfl := Option.some.inj H
    simp only [Option.some.injEq, Prod.mk.injEq] at H
    obtain ⟨rfl⟩ := H
    go_enter Try.func19, Try.ntmps19
    go_wp2_with (first | ((with_reducible refine gate_dst (N := 1) rfl ?_); refine box_event ?hg (N := 1) ?hd (cs := #[.int .i64 a0_0, .string a0_1, .slice A0_2 l0_2.length c0_2]) (t := 29) ?hr ?_; (case hd => rfl); (case hg => rfl); (case hr => first | (go_simp; done) | (go_simp; rfl)); intro ae hg w10 hbox hb; replace aa := am_ (hbox); replace ai := am_ ((by rw [hg]; exact (below_size (b0_ HB.out)) : w.heap.size ≤ ae)); replace ad := am_ ((by rw [hg]; exact (below_size (b0_ HB.out)) : w.heap.size ≤ ae)); replace HB := am_ (below_step (b0_ HB.out) hb); clear hb hbox hg; have aj := ck_ (v := (.int .i64 a0_0)) aa 0 rfl; have ak := ck_ (v := (.string a0_1)) aa 1 rfl; have al := ck_ (v := (.slice A0_2 l0_2.length c0_2)) aa 2 rfl; have am := blk_frozen aa.out 0; have an := blk_frozen aa.out 1; have ao := blk_frozen aa.out 2) | ((with_reducible refine gate_callee (f := 17) rfl ?_); refine gL_ (some 4) Try.func17 #[.agg #[.int .i64 a0_0, .string a0_1, .slice A0_2 l0_2.length c0_2]] ?_; (with_reducible refine (spec_IsValidRegex.calls k a0_0 a0_1 _ _ l0_2 false _ ?side1 ?side2 A2.out).mono ?_); (case side1 => exact rc_ (Kd.C_below ag.out HB.out)); (case side2 => exact ah.out); rintro e w12 ⟨rfl, hb⟩; refine ⟨_, rfl, ?_⟩; have n0_ := am_ (blk_below (rb_ aa.out) hb); have n1_ := am_ (below_step (b1_ HB.out ad.out) hb); clear aa; clear HB; have aa := n0_; have HB := n1_; clear n0_ n1_; (try clear hb); (try clear hb2); (try clear hk); (try clear hi)))
    go_ret
    exact ⟨by first | rfl | (simp [errW_none, errW_some] <;> rfl) | (simp [*, errW_none, errW_some] <;> rfl), by repeat (first | (with_reducible first | exact HB.out | apply below_alloc | apply pw_below_drewN | apply below_drew1 | refine below_set ?_ ad.out) | exact HB.out)⟩
end Go.Proofs.Ytldgkgdgcfllmaa.P
end
