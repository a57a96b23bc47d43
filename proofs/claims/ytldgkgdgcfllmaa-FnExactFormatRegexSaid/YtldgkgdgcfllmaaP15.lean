-- Written by gen.py of this repo (a driver of the kit's print) for seat Ytldgkgdgcfllmaa.
import Derived.Test.YtldgkgdgcfllmaaP0
import Derived.Test.YtldgkgdgcfllmaaSq
namespace Go.Proofs.Ytldgkgdgcfllmaa.P
open Go.RowKit Go.Proofs.YtldgkgdgcfllmaaW.PrintWords Go.Proofs.YtldgkgdgcfllmaaW.PrintLast Go.Proofs.YtldgkgdgcfllmaaW.PrintMore
attribute [local go_sem] max2_int min2_int max_two min_two max_three min_three max_four min_four   -- for this text's walks alone
set_option linter.unusedVariables false
set_option linter.unusedSimpArgs false

/-! ### impl_regexText: function 46 -/
def impl_regexText.f : Nat → Int → ByteArray → List (S29) → Option (ByteArray)
  | 0, _, _, _ => none
  | k + 1, a0_0, a0_1, l0_2 => if a0_0 = 1 then (some (⟨#[48]⟩ : ByteArray)) else (if a0_0 = 2 then (some (⟨#[49]⟩ : ByteArray)) else (if a0_0 = 3 then (some a0_1) else (if a0_0 = 4 then (some (⟨#[46]⟩ : ByteArray)) else (if a0_0 = 8 then (if 0 < (l0_2.length : Int) then ((impl_regexText.f k ((rd_T29 l0_2 0).f0) ((rd_T29 l0_2 0).f1) ((rd_T29 l0_2 0).f2)).bind fun t255 => (if 1 + t255.size ≤ 9223372036854775807 then (some ((⟨#[42]⟩ : ByteArray) ++ t255)) else (none))) else (none)) else (if a0_0 = 9 then (if 0 < (l0_2.length : Int) then ((impl_regexText.f k ((rd_T29 l0_2 0).f0) ((rd_T29 l0_2 0).f1) ((rd_T29 l0_2 0).f2)).bind fun t257 => (if 1 + t257.size ≤ 9223372036854775807 then (some ((⟨#[33]⟩ : ByteArray) ++ t257)) else (none))) else (none)) else (if a0_0 = 6 then (if 0 < (l0_2.length : Int) then ((impl_regexText.f k ((rd_T29 l0_2 0).f0) ((rd_T29 l0_2 0).f1) ((rd_T29 l0_2 0).f2)).bind fun t259 => (if 1 + t259.size ≤ 9223372036854775807 then (if ((⟨#[40]⟩ : ByteArray) ++ t259).size + 1 ≤ 9223372036854775807 then (if 1 < (l0_2.length : Int) then ((impl_regexText.f k ((rd_T29 l0_2 1).f0) ((rd_T29 l0_2 1).f1) ((rd_T29 l0_2 1).f2)).bind fun t261 => (if (((⟨#[40]⟩ : ByteArray) ++ t259) ++ (⟨#[124]⟩ : ByteArray)).size + t261.size ≤ 9223372036854775807 then (if ((((⟨#[40]⟩ : ByteArray) ++ t259) ++ (⟨#[124]⟩ : ByteArray)) ++ t261).size + 1 ≤ 9223372036854775807 then (some (((((⟨#[40]⟩ : ByteArray) ++ t259) ++ (⟨#[124]⟩ : ByteArray)) ++ t261) ++ (⟨#[41]⟩ : ByteArray))) else (none)) else (none))) else (none)) else (none)) else (none))) else (none)) else (if a0_0 = 7 then (if 0 < (l0_2.length : Int) then ((impl_regexText.f k ((rd_T29 l0_2 0).f0) ((rd_T29 l0_2 0).f1) ((rd_T29 l0_2 0).f2)).bind fun t263 => (if 1 + t263.size ≤ 9223372036854775807 then (if ((⟨#[40]⟩ : ByteArray) ++ t263).size + 1 ≤ 9223372036854775807 then (if 1 < (l0_2.length : Int) then ((impl_regexText.f k ((rd_T29 l0_2 1).f0) ((rd_T29 l0_2 1).f1) ((rd_T29 l0_2 1).f2)).bind fun t265 => (if (((⟨#[40]⟩ : ByteArray) ++ t263) ++ (⟨#[38]⟩ : ByteArray)).size + t265.size ≤ 9223372036854775807 then (if ((((⟨#[40]⟩ : ByteArray) ++ t263) ++ (⟨#[38]⟩ : ByteArray)) ++ t265).size + 1 ≤ 9223372036854775807 then (some (((((⟨#[40]⟩ : ByteArray) ++ t263) ++ (⟨#[38]⟩ : ByteArray)) ++ t265) ++ (⟨#[41]⟩ : ByteArray))) else (none)) else (none))) else (none)) else (none)) else (none))) else (none)) else (if 0 < (l0_2.length : Int) then ((impl_regexText.f k ((rd_T29 l0_2 0).f0) ((rd_T29 l0_2 0).f1) ((rd_T29 l0_2 0).f2)).bind fun t267 => (if 1 + t267.size ≤ 9223372036854775807 then (if ((⟨#[40]⟩ : ByteArray) ++ t267).size + 0 ≤ 9223372036854775807 then (if 1 < (l0_2.length : Int) then ((impl_regexText.f k ((rd_T29 l0_2 1).f0) ((rd_T29 l0_2 1).f1) ((rd_T29 l0_2 1).f2)).bind fun t269 => (if (((⟨#[40]⟩ : ByteArray) ++ t267) ++ (⟨#[]⟩ : ByteArray)).size + t269.size ≤ 9223372036854775807 then (if ((((⟨#[40]⟩ : ByteArray) ++ t267) ++ (⟨#[]⟩ : ByteArray)) ++ t269).size + 1 ≤ 9223372036854775807 then (some (((((⟨#[40]⟩ : ByteArray) ++ t267) ++ (⟨#[]⟩ : ByteArray)) ++ t269) ++ (⟨#[41]⟩ : ByteArray))) else (none)) else (none))) else (none)) else (none)) else (none))) else (none)))))))))
theorem impl_regexText.mono_l : ∀ k, (∀ y0 y1 y2, LeO (impl_regexText.f k y0 y1 y2) (impl_regexText.f (k + 1) y0 y1 y2))
 | 0 => fun _ _ _ r h => by simp [impl_regexText.f] at h
 | k + 1 => by
  have ih0 := impl_regexText.mono_l k
  ·intro y0 y1 y2
   unfold impl_regexText.f
   repeat' first
   | (with_reducible exact ih0 _ _ _)
   | (with_reducible exact LeO.refl _)
   | (with_reducible exact LeO.none _)
   | (with_reducible refine LeO.ite ?_ ?_)
   | (with_reducible refine LeO.bind ?_ (fun _ => ?_))
   | exact ih0 _ _ _
   | exact LeO.none _
   | refine LeO.ite ?_ ?_
   | refine LeO.bind ?_ (fun _ => ?_)
theorem impl_regexText.mono : ∀ a0 a1 a2 k, LeO (impl_regexText.f k a0 a1 a2) (impl_regexText.f (k + 1) a0 a1 a2) := by
 intro a0 a1 a2 k
 have ih0 := impl_regexText.mono_l k
 exact ih0 a0 a1 a2
def impl_regexText.T20 : Bool × List (List Nat × List Nat) := (true, [([], []), ([0], [0]), ([1], [1]), ([2], [2]), ([3], [3]), ([4], [4]), ([], []), ([5, 6], [5, 6]), ([], []), ([8], [8]), ([9], [9]), ([10], [10]), ([11, 4], [11]), ([7, 12], [7, 12]), ([13], [13]), ([14, 12, 0, 1, 2, 3, 4, 5, 6, 7, 8, 9, 10, 11, 12, 13, 14], [14])])
def impl_regexText.B20 : List Nat := [0, 1, 3, 7, 15, 31, 0, 127, 0, 256, 768, 1792, 3871, 8191, 16383, 32767]
theorem impl_regexText.tab20 : rtab .any (opsOf Try.f46 20) = impl_regexText.T20 := by kernel_rfl
theorem impl_regexText.bits20 : waitsOk impl_regexText.T20.2 impl_regexText.B20 = true := by kernel_rfl
set_option maxHeartbeats 8000000 in
set_option maxRecDepth 100000 in
theorem impl_regexText.calls (k : Nat) : ∀ (a0_0 : Int) (a0_1 : ByteArray) (A0_2 : Option Addr) (c0_2 : Nat) (l0_2 : List (S29)) (r : ByteArray) (w : World) (hr0_2 : Kd.C k29 w A0_2 l0_2.length l0_2) (hc0_2 : l0_2.length ≤ c0_2) (h : impl_regexText.f k a0_0 a0_1 l0_2 = some r),
  Calls Try.prog 46 #[.agg #[.int .i64 a0_0, .string a0_1, .slice A0_2 l0_2.length c0_2]] w fun e w' => e = .returned (.string r) ∧ Below w.heap.size w w' := by
 induction k using Nat.strongRecOn with
 | _ k ih =>
 intro a0_0 a0_1 A0_2 c0_2 l0_2 r w hr0_2 hc0_2 h
 cases k with
 | zero => exact absurd h (by simp [impl_regexText.f])
 | succ k =>
 simp only [impl_regexText.f] at h
 have hu29 := Try.underlying29
 have HR0_2 := Aside0.mk hr0_2
 have HC0_2 := Aside0.mk hc0_2
 clear hr0_2 hc0_2
 have HB := Aside0.mk (Below.refl w.heap.size w)
 have H : (if a0_0 = 1 then (some (⟨#[48]⟩ : ByteArray)) else (if a0_0 = 2 then (some (⟨#[49]⟩ : ByteArray)) else (if a0_0 = 3 then (some a0_1) else (if a0_0 = 4 then (some (⟨#[46]⟩ : ByteArray)) else (if a0_0 = 8 then (if 0 < (l0_2.length : Int) then ((impl_regexText.f k ((rd_T29 l0_2 0).f0) ((rd_T29 l0_2 0).f1) ((rd_T29 l0_2 0).f2)).bind fun t255 => (if 1 + t255.size ≤ 9223372036854775807 then (some ((⟨#[42]⟩ : ByteArray) ++ t255)) else (none))) else (none)) else (if a0_0 = 9 then (if 0 < (l0_2.length : Int) then ((impl_regexText.f k ((rd_T29 l0_2 0).f0) ((rd_T29 l0_2 0).f1) ((rd_T29 l0_2 0).f2)).bind fun t257 => (if 1 + t257.size ≤ 9223372036854775807 then (some ((⟨#[33]⟩ : ByteArray) ++ t257)) else (none))) else (none)) else (if a0_0 = 6 then (if 0 < (l0_2.length : Int) then ((impl_regexText.f k ((rd_T29 l0_2 0).f0) ((rd_T29 l0_2 0).f1) ((rd_T29 l0_2 0).f2)).bind fun t259 => (if 1 + t259.size ≤ 9223372036854775807 then (if ((⟨#[40]⟩ : ByteArray) ++ t259).size + 1 ≤ 9223372036854775807 then (if 1 < (l0_2.length : Int) then ((impl_regexText.f k ((rd_T29 l0_2 1).f0) ((rd_T29 l0_2 1).f1) ((rd_T29 l0_2 1).f2)).bind fun t261 => (if (((⟨#[40]⟩ : ByteArray) ++ t259) ++ (⟨#[124]⟩ : ByteArray)).size + t261.size ≤ 9223372036854775807 then (if ((((⟨#[40]⟩ : ByteArray) ++ t259) ++ (⟨#[124]⟩ : ByteArray)) ++ t261).size + 1 ≤ 9223372036854775807 then (some (((((⟨#[40]⟩ : ByteArray) ++ t259) ++ (⟨#[124]⟩ : ByteArray)) ++ t261) ++ (⟨#[41]⟩ : ByteArray))) else (none)) else (none))) else (none)) else (none)) else (none))) else (none)) else (if a0_0 = 7 then (if 0 < (l0_2.length : Int) then ((impl_regexText.f k ((rd_T29 l0_2 0).f0) ((rd_T29 l0_2 0).f1) ((rd_T29 l0_2 0).f2)).bind fun t263 => (if 1 + t263.size ≤ 9223372036854775807 then (if ((⟨#[40]⟩ : ByteArray) ++ t263).size + 1 ≤ 9223372036854775807 then (if 1 < (l0_2.length : Int) then ((impl_regexText.f k ((rd_T29 l0_2 1).f0) ((rd_T29 l0_2 1).f1) ((rd_T29 l0_2 1).f2)).bind fun t265 => (if (((⟨#[40]⟩ : ByteArray) ++ t263) ++ (⟨#[38]⟩ : ByteArray)).size + t265.size ≤ 9223372036854775807 then (if ((((⟨#[40]⟩ : ByteArray) ++ t263) ++ (⟨#[38]⟩ : ByteArray)) ++ t265).size + 1 ≤ 9223372036854775807 then (some (((((⟨#[40]⟩ : ByteArray) ++ t263) ++ (⟨#[38]⟩ : ByteArray)) ++ t265) ++ (⟨#[41]⟩ : ByteArray))) else (none)) else (none))) else (none)) else (none)) else (none))) else (none)) else (if 0 < (l0_2.length : Int) then ((impl_regexText.f k ((rd_T29 l0_2 0).f0) ((rd_T29 l0_2 0).f1) ((rd_T29 l0_2 0).f2)).bind fun t267 => (if 1 + t267.size ≤ 9223372036854775807 then (if ((⟨#[40]⟩ : ByteArray) ++ t267).size + 0 ≤ 9223372036854775807 then (if 1 < (l0_2.length : Int) then ((impl_regexText.f k ((rd_T29 l0_2 1).f0) ((rd_T29 l0_2 1).f1) ((rd_T29 l0_2 1).f2)).bind fun t269 => (if (((⟨#[40]⟩ : ByteArray) ++ t267) ++ (⟨#[]⟩ : ByteArray)).size + t269.size ≤ 9223372036854775807 then (if ((((⟨#[40]⟩ : ByteArray) ++ t267) ++ (⟨#[]⟩ : ByteArray)) ++ t269).size + 1 ≤ 9223372036854775807 then (some (((((⟨#[40]⟩ : ByteArray) ++ t267) ++ (⟨#[]⟩ : ByteArray)) ++ t269) ++ (⟨#[41]⟩ : ByteArray))) else (none)) else (none))) else (none)) else (none)) else (none))) else (none)))))))))) = some r := h
 clear h
 by_cases c2 : a0_0 = 1
 ·rw [if_pos c2] at H
  have c2b0 : (a0_0 == 1) = true := beq_iff_eq.mpr c2
  have c2b1 : (a0_0 != 1) = false := bne_eq_false_iff_eq.mpr c2
  clear c2
  obtain rfl := Option.some.inj H
  simp only [Option.some.injEq, Prod.mk.injEq] at H
  obtain ⟨rfl⟩ := H
  go_enter Try.func46, Try.ntmps46
  go_wp2_with (first | ((with_reducible refine gate_dst (N := 1) rfl ?_); refine box_event ?hg (N := 1) ?hd (cs := #[.int .i64 a0_0, .string a0_1, .slice A0_2 l0_2.length c0_2]) (t := 29) ?hr ?_; (case hd => rfl); (case hg => rfl); (case hr => first | (go_simp; done) | (go_simp; rfl)); intro gb253 hg w3 hbox hb; have n0_ := Aside0.mk (below_step (by repeat (first | (with_reducible first | exact HB.out | apply below_alloc | apply pw_below_drewN | apply below_drew1) | exact HB.out)) hb); have n1_ := Aside0.mk (hbox); have n2_ := Aside0.mk ((by rw [hg]; exact (below_size (by repeat (first | (with_reducible first | exact HB.out | apply below_alloc | apply pw_below_drewN | apply below_drew1) | exact HB.out))) : w.heap.size ≤ gb253)); have n3_ := Aside0.mk ((by rw [hg]; exact (below_size (by repeat (first | (with_reducible first | exact HB.out | apply below_alloc | apply pw_below_drewN | apply below_drew1) | exact HB.out))) : w.heap.size ≤ gb253)); clear HB; have HB := n0_; have BK253 := n1_; have GW253 := n2_; have GE253 := n3_; clear n0_ n1_ n2_ n3_; clear hb hbox hg; have hcz4_0 : w3.cell? ⟨gb253, 0, none⟩ = some (.int .i64 a0_0) := (blk_cell BK253.out 0).trans rfl; have hcz4_1 : w3.cell? ⟨gb253, 1, none⟩ = some (.string a0_1) := (blk_cell BK253.out 1).trans rfl; have hcz4_2 : w3.cell? ⟨gb253, 2, none⟩ = some (.slice A0_2 l0_2.length c0_2) := (blk_cell BK253.out 2).trans rfl; have hfz4_0 := blk_frozen BK253.out 0; have hfz4_1 := blk_frozen BK253.out 1; have hfz4_2 := blk_frozen BK253.out 2))
  go_ret
  exact ⟨by first | rfl | (simp [errW_none, errW_some] <;> rfl) | (simp [*, errW_none, errW_some] <;> rfl), by repeat (first | (with_reducible first | exact HB.out | apply below_alloc | apply pw_below_drewN | apply below_drew1 | refine below_set ?_ GE253.out) | exact HB.out)⟩
 ·rw [if_neg c2] at H
  have c2b0 : (a0_0 == 1) = false := beq_eq_false_iff_ne.mpr c2
  have c2b1 : (a0_0 != 1) = true := bne_iff_ne.mpr c2
  by_cases c5 : a0_0 = 2
  ·rw [if_pos c5] at H
   have c5b0 : (a0_0 == 2) = true := beq_iff_eq.mpr c5
   have c5b1 : (a0_0 != 2) = false := bne_eq_false_iff_eq.mpr c5
   clear c5
   obtain rfl := Option.some.inj H
   simp only [Option.some.injEq, Prod.mk.injEq] at H
   obtain ⟨rfl⟩ := H
   go_enter Try.func46, Try.ntmps46
   go_wp2_with (first | ((with_reducible refine gate_dst (N := 1) rfl ?_); refine box_event ?hg (N := 1) ?hd (cs := #[.int .i64 a0_0, .string a0_1, .slice A0_2 l0_2.length c0_2]) (t := 29) ?hr ?_; (case hd => rfl); (case hg => rfl); (case hr => first | (go_simp; done) | (go_simp; rfl)); intro gb253 hg w6 hbox hb; have n0_ := Aside0.mk (below_step (by repeat (first | (with_reducible first | exact HB.out | apply below_alloc | apply pw_below_drewN | apply below_drew1) | exact HB.out)) hb); have n1_ := Aside0.mk (hbox); have n2_ := Aside0.mk ((by rw [hg]; exact (below_size (by repeat (first | (with_reducible first | exact HB.out | apply below_alloc | apply pw_below_drewN | apply below_drew1) | exact HB.out))) : w.heap.size ≤ gb253)); have n3_ := Aside0.mk ((by rw [hg]; exact (below_size (by repeat (first | (with_reducible first | exact HB.out | apply below_alloc | apply pw_below_drewN | apply below_drew1) | exact HB.out))) : w.heap.size ≤ gb253)); clear HB; have HB := n0_; have BK253 := n1_; have GW253 := n2_; have GE253 := n3_; clear n0_ n1_ n2_ n3_; clear hb hbox hg; have hcz7_0 : w6.cell? ⟨gb253, 0, none⟩ = some (.int .i64 a0_0) := (blk_cell BK253.out 0).trans rfl; have hcz7_1 : w6.cell? ⟨gb253, 1, none⟩ = some (.string a0_1) := (blk_cell BK253.out 1).trans rfl; have hcz7_2 : w6.cell? ⟨gb253, 2, none⟩ = some (.slice A0_2 l0_2.length c0_2) := (blk_cell BK253.out 2).trans rfl; have hfz7_0 := blk_frozen BK253.out 0; have hfz7_1 := blk_frozen BK253.out 1; have hfz7_2 := blk_frozen BK253.out 2))
   go_ret
   exact ⟨by first | rfl | (simp [errW_none, errW_some] <;> rfl) | (simp [*, errW_none, errW_some] <;> rfl), by repeat (first | (with_reducible first | exact HB.out | apply below_alloc | apply pw_below_drewN | apply below_drew1 | refine below_set ?_ GE253.out) | exact HB.out)⟩
  ·rw [if_neg c5] at H
   have c5b0 : (a0_0 == 2) = false := beq_eq_false_iff_ne.mpr c5
   have c5b1 : (a0_0 != 2) = true := bne_iff_ne.mpr c5
   by_cases c8 : a0_0 = 3
   ·rw [if_pos c8] at H
    have c8b0 : (a0_0 == 3) = true := beq_iff_eq.mpr c8
    have c8b1 : (a0_0 != 3) = false := bne_eq_false_iff_eq.mpr c8
    clear c8
    obtain rfl := Option.some.inj H
    simp only [Option.some.injEq, Prod.mk.injEq] at H
    obtain ⟨rfl⟩ := H
    go_enter Try.func46, Try.ntmps46
    go_wp2_with (first | ((with_reducible refine gate_dst (N := 1) rfl ?_); refine box_event ?hg (N := 1) ?hd (cs := #[.int .i64 a0_0, .string a0_1, .slice A0_2 l0_2.length c0_2]) (t := 29) ?hr ?_; (case hd => rfl); (case hg => rfl); (case hr => first | (go_simp; done) | (go_simp; rfl)); intro gb253 hg w9 hbox hb; have n0_ := Aside0.mk (below_step (by repeat (first | (with_reducible first | exact HB.out | apply below_alloc | apply pw_below_drewN | apply below_drew1) | exact HB.out)) hb); have n1_ := Aside0.mk (hbox); have n2_ := Aside0.mk ((by rw [hg]; exact (below_size (by repeat (first | (with_reducible first | exact HB.out | apply below_alloc | apply pw_below_drewN | apply below_drew1) | exact HB.out))) : w.heap.size ≤ gb253)); have n3_ := Aside0.mk ((by rw [hg]; exact (below_size (by repeat (first | (with_reducible first | exact HB.out | apply below_alloc | apply pw_below_drewN | apply below_drew1) | exact HB.out))) : w.heap.size ≤ gb253)); clear HB; have HB := n0_; have BK253 := n1_; have GW253 := n2_; have GE253 := n3_; clear n0_ n1_ n2_ n3_; clear hb hbox hg; have hcz10_0 : w9.cell? ⟨gb253, 0, none⟩ = some (.int .i64 a0_0) := (blk_cell BK253.out 0).trans rfl; have hcz10_1 : w9.cell? ⟨gb253, 1, none⟩ = some (.string a0_1) := (blk_cell BK253.out 1).trans rfl; have hcz10_2 : w9.cell? ⟨gb253, 2, none⟩ = some (.slice A0_2 l0_2.length c0_2) := (blk_cell BK253.out 2).trans rfl; have hfz10_0 := blk_frozen BK253.out 0; have hfz10_1 := blk_frozen BK253.out 1; have hfz10_2 := blk_frozen BK253.out 2))
    go_ret
    exact ⟨by first | rfl | (simp [errW_none, errW_some] <;> rfl) | (simp [*, errW_none, errW_some] <;> rfl), by repeat (first | (with_reducible first | exact HB.out | apply below_alloc | apply pw_below_drewN | apply below_drew1 | refine below_set ?_ GE253.out) | exact HB.out)⟩
   ·rw [if_neg c8] at H
    have c8b0 : (a0_0 == 3) = false := beq_eq_false_iff_ne.mpr c8
    have c8b1 : (a0_0 != 3) = true := bne_iff_ne.mpr c8
    by_cases c11 : a0_0 = 4
    ·rw [if_pos c11] at H
     have c11b0 : (a0_0 == 4) = true := beq_iff_eq.mpr c11
     have c11b1 : (a0_0 != 4) = false := bne_eq_false_iff_eq.mpr c11
     clear c11
     obtain rfl := Option.some.inj H
     simp only [Option.some.injEq, Prod.mk.injEq] at H
     obtain ⟨rfl⟩ := H
     go_enter Try.func46, Try.ntmps46
     go_wp2_with (first | ((with_reducible refine gate_dst (N := 1) rfl ?_); refine box_event ?hg (N := 1) ?hd (cs := #[.int .i64 a0_0, .string a0_1, .slice A0_2 l0_2.length c0_2]) (t := 29) ?hr ?_; (case hd => rfl); (case hg => rfl); (case hr => first | (go_simp; done) | (go_simp; rfl)); intro gb253 hg w12 hbox hb; have n0_ := Aside0.mk (below_step (by repeat (first | (with_reducible first | exact HB.out | apply below_alloc | apply pw_below_drewN | apply below_drew1) | exact HB.out)) hb); have n1_ := Aside0.mk (hbox); have n2_ := Aside0.mk ((by rw [hg]; exact (below_size (by repeat (first | (with_reducible first | exact HB.out | apply below_alloc | apply pw_below_drewN | apply below_drew1) | exact HB.out))) : w.heap.size ≤ gb253)); have n3_ := Aside0.mk ((by rw [hg]; exact (below_size (by repeat (first | (with_reducible first | exact HB.out | apply below_alloc | apply pw_below_drewN | apply below_drew1) | exact HB.out))) : w.heap.size ≤ gb253)); clear HB; have HB := n0_; have BK253 := n1_; have GW253 := n2_; have GE253 := n3_; clear n0_ n1_ n2_ n3_; clear hb hbox hg; have hcz13_0 : w12.cell? ⟨gb253, 0, none⟩ = some (.int .i64 a0_0) := (blk_cell BK253.out 0).trans rfl; have hcz13_1 : w12.cell? ⟨gb253, 1, none⟩ = some (.string a0_1) := (blk_cell BK253.out 1).trans rfl; have hcz13_2 : w12.cell? ⟨gb253, 2, none⟩ = some (.slice A0_2 l0_2.length c0_2) := (blk_cell BK253.out 2).trans rfl; have hfz13_0 := blk_frozen BK253.out 0; have hfz13_1 := blk_frozen BK253.out 1; have hfz13_2 := blk_frozen BK253.out 2))
     go_ret
     exact ⟨by first | rfl | (simp [errW_none, errW_some] <;> rfl) | (simp [*, errW_none, errW_some] <;> rfl), by repeat (first | (with_reducible first | exact HB.out | apply below_alloc | apply pw_below_drewN | apply below_drew1 | refine below_set ?_ GE253.out) | exact HB.out)⟩
    ·rw [if_neg c11] at H
     have c11b0 : (a0_0 == 4) = false := beq_eq_false_iff_ne.mpr c11
     have c11b1 : (a0_0 != 4) = true := bne_iff_ne.mpr c11
     by_cases c14 : a0_0 = 8
     ·rw [if_pos c14] at H
      have c14b0 : (a0_0 == 8) = true := beq_iff_eq.mpr c14
      have c14b1 : (a0_0 != 8) = false := bne_eq_false_iff_eq.mpr c14
      clear c14
      by_cases c15 : 0 < (l0_2.length : Int)
      ·rw [if_pos c15] at H
       have c15b0 : decide (0 < (l0_2.length : Int)) = true := decide_eq_true c15
       have c15b1 : decide (0 < l0_2.length) = true := decide_eq_true (by omega)
       clear c15
       replace H := Option.bind_eq_some_iff.mp H
       obtain ⟨t255, A160, H⟩ := H
       replace H : (if 1 + t255.size ≤ 9223372036854775807 then (some ((⟨#[42]⟩ : ByteArray) ++ t255)) else (none)) = some r := H
       have A16 := Aside0.mk A160
       clear A160
       by_cases c17 : 1 + t255.size ≤ 9223372036854775807
       ·rw [if_pos c17] at H
        have c17b0 := eq_true c17
        have c17b1 : decide (1 + t255.size ≤ 9223372036854775807) = true := decide_eq_true c17
        try have c17b2 : (9223372036854775807 < 1 + t255.size) = False := eq_false (Nat.not_lt.2 c17)
        obtain rfl := Option.some.inj H
        simp only [Option.some.injEq, Prod.mk.injEq] at H
        obtain ⟨rfl⟩ := H
        go_enter Try.func46, Try.ntmps46
        go_wp2_with (first | ((with_reducible refine gate_dst (N := 1) rfl ?_); refine box_event ?hg (N := 1) ?hd (cs := #[.int .i64 a0_0, .string a0_1, .slice A0_2 l0_2.length c0_2]) (t := 29) ?hr ?_; (case hd => rfl); (case hg => rfl); (case hr => first | (go_simp; done) | (go_simp; rfl)); intro gb253 hg w18 hbox hb; have n0_ := Aside0.mk (below_step (by repeat (first | (with_reducible first | exact HB.out | apply below_alloc | apply pw_below_drewN | apply below_drew1) | exact HB.out)) hb); have n1_ := Aside0.mk (hbox); have n2_ := Aside0.mk ((by rw [hg]; exact (below_size (by repeat (first | (with_reducible first | exact HB.out | apply below_alloc | apply pw_below_drewN | apply below_drew1) | exact HB.out))) : w.heap.size ≤ gb253)); have n3_ := Aside0.mk ((by rw [hg]; exact (below_size (by repeat (first | (with_reducible first | exact HB.out | apply below_alloc | apply pw_below_drewN | apply below_drew1) | exact HB.out))) : w.heap.size ≤ gb253)); clear HB; have HB := n0_; have BK253 := n1_; have GW253 := n2_; have GE253 := n3_; clear n0_ n1_ n2_ n3_; clear hb hbox hg; have hcz19_0 : w18.cell? ⟨gb253, 0, none⟩ = some (.int .i64 a0_0) := (blk_cell BK253.out 0).trans rfl; have hcz19_1 : w18.cell? ⟨gb253, 1, none⟩ = some (.string a0_1) := (blk_cell BK253.out 1).trans rfl; have hcz19_2 : w18.cell? ⟨gb253, 2, none⟩ = some (.slice A0_2 l0_2.length c0_2) := (blk_cell BK253.out 2).trans rfl; have hfz19_0 := blk_frozen BK253.out 0; have hfz19_1 := blk_frozen BK253.out 1; have hfz19_2 := blk_frozen BK253.out 2; have p254 : 0 ≤ (0 : Int) := (by omega); have q254 : 0 < (l0_2.length : Int) := of_decide_eq_true (by first | (with_reducible assumption) | assumption); obtain ⟨ad254, A254_2, c254_2, e254, hx254_0, hx254_1, hx254_2, hl254_2, hi254_2⟩ := at_T29 HR0_2.out 0 p254 q254; cases e254; have qi254 : (0 < l0_2.length) = True := eq_true (by omega); (try rw [show ((0 : Int)).toNat = 0 from rfl] at hx254_0); (try rw [show 0 * 3 = 0 from rfl] at hx254_0); (try rw [Addr.add_zero'] at hx254_0); (try rw [show ((0 : Int)).toNat = 0 from rfl] at hx254_1); (try rw [show 0 * 3 = 0 from rfl] at hx254_1); (try rw [Addr.add_zero'] at hx254_1); (try rw [show ((0 : Int)).toNat = 0 from rfl] at hx254_2); (try rw [show 0 * 3 = 0 from rfl] at hx254_2); (try rw [Addr.add_zero'] at hx254_2); replace hx254_0 := (HB.out.cell (World.block_lt_of_cell? w _ hx254_0)).trans hx254_0; replace hx254_1 := (HB.out.cell (World.block_lt_of_cell? w _ hx254_1)).trans hx254_1; replace hx254_2 := (HB.out.cell (World.block_lt_of_cell? w _ hx254_2)).trans hx254_2; have HR254_2 := Aside0.mk hi254_2; have HC254_2 := Aside0.mk hl254_2; clear hi254_2 hl254_2; replace p254 := eq_true p254; replace q254 := eq_true q254) | ((with_reducible refine gate_callee (f := 46) rfl ?_); refine goesL_ (some 22) rfl rfl Try.func46 (by kernel_rfl) rfl #[.agg #[.int .i64 ((rd_T29 l0_2 0).f0), .string ((rd_T29 l0_2 0).f1), .slice A254_2 ((rd_T29 l0_2 0).f2).length c254_2]] rfl (by (try simp only [List.map_toArray, List.map_cons, List.map_nil]); first | done | rfl | (simp only [List.length_drop, List.length_take]; rfl)) ?_; (with_reducible refine (ih k (by omega) ((rd_T29 l0_2 0).f0) ((rd_T29 l0_2 0).f1) _ _ ((rd_T29 l0_2 0).f2) t255 _ ?side1 ?side2 A16.out).mono ?_); (case side1 => repeat (first | exact (Kd.C_below HR254_2.out HB.out) | (with_reducible refine Kd.C_alloc ?_ _) | (with_reducible refine Kd.C_drewN ?_ _) | (with_reducible refine Kd.C_drew ?_))); (case side2 => exact HC254_2.out); rintro e w20 ⟨rfl, hb⟩; refine ⟨_, rfl, ?_⟩; have n0_ := Aside0.mk (blk_below (g := gb253) (o := .cells #[.int .i64 a0_0, .string a0_1, .slice (some ad254) l0_2.length c0_2] 29 (0, 0)) (by (with_reducible repeat (first | refine blk_drewN ?_ _ | refine blk_drew ?_ | refine blk_alloc ?_ _)); exact BK253.out) hb); have n1_ := Aside0.mk (below_step (by repeat (first | (with_reducible first | exact HB.out | apply below_alloc | apply pw_below_drewN | apply below_drew1 | refine below_set ?_ GE253.out) | exact HB.out)) hb); clear BK253; clear HB; have BK253 := n0_; have HB := n1_; clear n0_ n1_; (try clear hb); (try clear hb2); (try clear hk); (try clear hi)))
        go_ret
        exact ⟨by first | rfl | (simp [errW_none, errW_some] <;> rfl) | (simp [*, errW_none, errW_some] <;> rfl), by repeat (first | (with_reducible first | exact HB.out | apply below_alloc | apply pw_below_drewN | apply below_drew1 | refine below_set ?_ GE253.out) | exact HB.out)⟩
       ·rw [if_neg c17] at H
        exact absurd H (by simp)
      ·rw [if_neg c15] at H
       exact absurd H (by simp)
     ·rw [if_neg c14] at H
      have c14b0 : (a0_0 == 8) = false := beq_eq_false_iff_ne.mpr c14
      have c14b1 : (a0_0 != 8) = true := bne_iff_ne.mpr c14
      by_cases c21 : a0_0 = 9
      ·rw [if_pos c21] at H
       have c21b0 : (a0_0 == 9) = true := beq_iff_eq.mpr c21
       have c21b1 : (a0_0 != 9) = false := bne_eq_false_iff_eq.mpr c21
       clear c21
       by_cases c22 : 0 < (l0_2.length : Int)
       ·rw [if_pos c22] at H
        have c22b0 : decide (0 < (l0_2.length : Int)) = true := decide_eq_true c22
        have c22b1 : decide (0 < l0_2.length) = true := decide_eq_true (by omega)
        clear c22
        replace H := Option.bind_eq_some_iff.mp H
        obtain ⟨t257, A230, H⟩ := H
        replace H : (if 1 + t257.size ≤ 9223372036854775807 then (some ((⟨#[33]⟩ : ByteArray) ++ t257)) else (none)) = some r := H
        have A23 := Aside0.mk A230
        clear A230
        by_cases c24 : 1 + t257.size ≤ 9223372036854775807
        ·rw [if_pos c24] at H
         have c24b0 := eq_true c24
         have c24b1 : decide (1 + t257.size ≤ 9223372036854775807) = true := decide_eq_true c24
         try have c24b2 : (9223372036854775807 < 1 + t257.size) = False := eq_false (Nat.not_lt.2 c24)
         obtain rfl := Option.some.inj H
         simp only [Option.some.injEq, Prod.mk.injEq] at H
         obtain ⟨rfl⟩ := H
         go_enter Try.func46, Try.ntmps46
         go_wp2_with (first | ((with_reducible refine gate_dst (N := 1) rfl ?_); refine box_event ?hg (N := 1) ?hd (cs := #[.int .i64 a0_0, .string a0_1, .slice A0_2 l0_2.length c0_2]) (t := 29) ?hr ?_; (case hd => rfl); (case hg => rfl); (case hr => first | (go_simp; done) | (go_simp; rfl)); intro gb253 hg w25 hbox hb; have n0_ := Aside0.mk (below_step (by repeat (first | (with_reducible first | exact HB.out | apply below_alloc | apply pw_below_drewN | apply below_drew1) | exact HB.out)) hb); have n1_ := Aside0.mk (hbox); have n2_ := Aside0.mk ((by rw [hg]; exact (below_size (by repeat (first | (with_reducible first | exact HB.out | apply below_alloc | apply pw_below_drewN | apply below_drew1) | exact HB.out))) : w.heap.size ≤ gb253)); have n3_ := Aside0.mk ((by rw [hg]; exact (below_size (by repeat (first | (with_reducible first | exact HB.out | apply below_alloc | apply pw_below_drewN | apply below_drew1) | exact HB.out))) : w.heap.size ≤ gb253)); clear HB; have HB := n0_; have BK253 := n1_; have GW253 := n2_; have GE253 := n3_; clear n0_ n1_ n2_ n3_; clear hb hbox hg; have hcz26_0 : w25.cell? ⟨gb253, 0, none⟩ = some (.int .i64 a0_0) := (blk_cell BK253.out 0).trans rfl; have hcz26_1 : w25.cell? ⟨gb253, 1, none⟩ = some (.string a0_1) := (blk_cell BK253.out 1).trans rfl; have hcz26_2 : w25.cell? ⟨gb253, 2, none⟩ = some (.slice A0_2 l0_2.length c0_2) := (blk_cell BK253.out 2).trans rfl; have hfz26_0 := blk_frozen BK253.out 0; have hfz26_1 := blk_frozen BK253.out 1; have hfz26_2 := blk_frozen BK253.out 2; have p256 : 0 ≤ (0 : Int) := (by omega); have q256 : 0 < (l0_2.length : Int) := of_decide_eq_true (by first | (with_reducible assumption) | assumption); obtain ⟨ad256, A256_2, c256_2, e256, hx256_0, hx256_1, hx256_2, hl256_2, hi256_2⟩ := at_T29 HR0_2.out 0 p256 q256; cases e256; have qi256 : (0 < l0_2.length) = True := eq_true (by omega); (try rw [show ((0 : Int)).toNat = 0 from rfl] at hx256_0); (try rw [show 0 * 3 = 0 from rfl] at hx256_0); (try rw [Addr.add_zero'] at hx256_0); (try rw [show ((0 : Int)).toNat = 0 from rfl] at hx256_1); (try rw [show 0 * 3 = 0 from rfl] at hx256_1); (try rw [Addr.add_zero'] at hx256_1); (try rw [show ((0 : Int)).toNat = 0 from rfl] at hx256_2); (try rw [show 0 * 3 = 0 from rfl] at hx256_2); (try rw [Addr.add_zero'] at hx256_2); replace hx256_0 := (HB.out.cell (World.block_lt_of_cell? w _ hx256_0)).trans hx256_0; replace hx256_1 := (HB.out.cell (World.block_lt_of_cell? w _ hx256_1)).trans hx256_1; replace hx256_2 := (HB.out.cell (World.block_lt_of_cell? w _ hx256_2)).trans hx256_2; have HR256_2 := Aside0.mk hi256_2; have HC256_2 := Aside0.mk hl256_2; clear hi256_2 hl256_2; replace p256 := eq_true p256; replace q256 := eq_true q256) | ((with_reducible refine gate_callee (f := 46) rfl ?_); refine goesL_ (some 30) rfl rfl Try.func46 (by kernel_rfl) rfl #[.agg #[.int .i64 ((rd_T29 l0_2 0).f0), .string ((rd_T29 l0_2 0).f1), .slice A256_2 ((rd_T29 l0_2 0).f2).length c256_2]] rfl (by (try simp only [List.map_toArray, List.map_cons, List.map_nil]); first | done | rfl | (simp only [List.length_drop, List.length_take]; rfl)) ?_; (with_reducible refine (ih k (by omega) ((rd_T29 l0_2 0).f0) ((rd_T29 l0_2 0).f1) _ _ ((rd_T29 l0_2 0).f2) t257 _ ?side1 ?side2 A23.out).mono ?_); (case side1 => repeat (first | exact (Kd.C_below HR256_2.out HB.out) | (with_reducible refine Kd.C_alloc ?_ _) | (with_reducible refine Kd.C_drewN ?_ _) | (with_reducible refine Kd.C_drew ?_))); (case side2 => exact HC256_2.out); rintro e w27 ⟨rfl, hb⟩; refine ⟨_, rfl, ?_⟩; have n0_ := Aside0.mk (blk_below (g := gb253) (o := .cells #[.int .i64 a0_0, .string a0_1, .slice (some ad256) l0_2.length c0_2] 29 (0, 0)) (by (with_reducible repeat (first | refine blk_drewN ?_ _ | refine blk_drew ?_ | refine blk_alloc ?_ _)); exact BK253.out) hb); have n1_ := Aside0.mk (below_step (by repeat (first | (with_reducible first | exact HB.out | apply below_alloc | apply pw_below_drewN | apply below_drew1 | refine below_set ?_ GE253.out) | exact HB.out)) hb); clear BK253; clear HB; have BK253 := n0_; have HB := n1_; clear n0_ n1_; (try clear hb); (try clear hb2); (try clear hk); (try clear hi)))
         go_ret
         exact ⟨by first | rfl | (simp [errW_none, errW_some] <;> rfl) | (simp [*, errW_none, errW_some] <;> rfl), by repeat (first | (with_reducible first | exact HB.out | apply below_alloc | apply pw_below_drewN | apply below_drew1 | refine below_set ?_ GE253.out) | exact HB.out)⟩
        ·rw [if_neg c24] at H
         exact absurd H (by simp)
       ·rw [if_neg c22] at H
        exact absurd H (by simp)
      ·rw [if_neg c21] at H
       have c21b0 : (a0_0 == 9) = false := beq_eq_false_iff_ne.mpr c21
       have c21b1 : (a0_0 != 9) = true := bne_iff_ne.mpr c21
       by_cases c28 : a0_0 = 6
       ·rw [if_pos c28] at H
        have c28b0 : (a0_0 == 6) = true := beq_iff_eq.mpr c28
        have c28b1 : (a0_0 != 6) = false := bne_eq_false_iff_eq.mpr c28
        clear c28
        by_cases c29 : 0 < (l0_2.length : Int)
        ·rw [if_pos c29] at H
         have c29b0 : decide (0 < (l0_2.length : Int)) = true := decide_eq_true c29
         have c29b1 : decide (0 < l0_2.length) = true := decide_eq_true (by omega)
         clear c29
         replace H := Option.bind_eq_some_iff.mp H
         obtain ⟨t259, A300, H⟩ := H
         replace H : (if 1 + t259.size ≤ 9223372036854775807 then (if ((⟨#[40]⟩ : ByteArray) ++ t259).size + 1 ≤ 9223372036854775807 then (if 1 < (l0_2.length : Int) then ((impl_regexText.f k ((rd_T29 l0_2 1).f0) ((rd_T29 l0_2 1).f1) ((rd_T29 l0_2 1).f2)).bind fun t261 => (if (((⟨#[40]⟩ : ByteArray) ++ t259) ++ (⟨#[124]⟩ : ByteArray)).size + t261.size ≤ 9223372036854775807 then (if ((((⟨#[40]⟩ : ByteArray) ++ t259) ++ (⟨#[124]⟩ : ByteArray)) ++ t261).size + 1 ≤ 9223372036854775807 then (some (((((⟨#[40]⟩ : ByteArray) ++ t259) ++ (⟨#[124]⟩ : ByteArray)) ++ t261) ++ (⟨#[41]⟩ : ByteArray))) else (none)) else (none))) else (none)) else (none)) else (none)) = some r := H
         have A30 := Aside0.mk A300
         clear A300
         by_cases c31 : 1 + t259.size ≤ 9223372036854775807
         ·rw [if_pos c31] at H
          have c31b0 := eq_true c31
          have c31b1 : decide (1 + t259.size ≤ 9223372036854775807) = true := decide_eq_true c31
          try have c31b2 : (9223372036854775807 < 1 + t259.size) = False := eq_false (Nat.not_lt.2 c31)
          by_cases c32 : ((⟨#[40]⟩ : ByteArray) ++ t259).size + 1 ≤ 9223372036854775807
          ·rw [if_pos c32] at H
           have c32b0 := eq_true c32
           have c32b1 : decide (((⟨#[40]⟩ : ByteArray) ++ t259).size + 1 ≤ 9223372036854775807) = true := decide_eq_true c32
           try have c32b2 : (9223372036854775807 < ((⟨#[40]⟩ : ByteArray) ++ t259).size + 1) = False := eq_false (Nat.not_lt.2 c32)
           try have c32b5 : (9223372036854775807 < 1 + t259.size + 1) = False := eq_false (by have h_ := c32; simp only [ByteArray.size_append, ByteArray.size_extract, show (⟨#[40]⟩ : ByteArray).size = 1 from rfl] at h_; first | omega | (simp only [decide_eq_true_eq] at *; omega))
           by_cases c33 : 1 < (l0_2.length : Int)
           ·rw [if_pos c33] at H
            have c33b0 : decide (1 < (l0_2.length : Int)) = true := decide_eq_true c33
            have c33b1 : decide (1 < l0_2.length) = true := decide_eq_true (by omega)
            clear c33
            replace H := Option.bind_eq_some_iff.mp H
            obtain ⟨t261, A340, H⟩ := H
            replace H : (if (((⟨#[40]⟩ : ByteArray) ++ t259) ++ (⟨#[124]⟩ : ByteArray)).size + t261.size ≤ 9223372036854775807 then (if ((((⟨#[40]⟩ : ByteArray) ++ t259) ++ (⟨#[124]⟩ : ByteArray)) ++ t261).size + 1 ≤ 9223372036854775807 then (some (((((⟨#[40]⟩ : ByteArray) ++ t259) ++ (⟨#[124]⟩ : ByteArray)) ++ t261) ++ (⟨#[41]⟩ : ByteArray))) else (none)) else (none)) = some r := H
            have A34 := Aside0.mk A340
            clear A340
            by_cases c35 : (((⟨#[40]⟩ : ByteArray) ++ t259) ++ (⟨#[124]⟩ : ByteArray)).size + t261.size ≤ 9223372036854775807
            ·rw [if_pos c35] at H
             have c35b0 := eq_true c35
             have c35b1 : decide ((((⟨#[40]⟩ : ByteArray) ++ t259) ++ (⟨#[124]⟩ : ByteArray)).size + t261.size ≤ 9223372036854775807) = true := decide_eq_true c35
             try have c35b2 : (9223372036854775807 < (((⟨#[40]⟩ : ByteArray) ++ t259) ++ (⟨#[124]⟩ : ByteArray)).size + t261.size) = False := eq_false (Nat.not_lt.2 c35)
             try have c35b5 : (9223372036854775807 < 1 + t259.size + 1 + t261.size) = False := eq_false (by have h_ := c35; simp only [ByteArray.size_append, ByteArray.size_extract, show (⟨#[124]⟩ : ByteArray).size = 1 from rfl, show (⟨#[40]⟩ : ByteArray).size = 1 from rfl] at h_; first | omega | (simp only [decide_eq_true_eq] at *; omega))
             by_cases c36 : ((((⟨#[40]⟩ : ByteArray) ++ t259) ++ (⟨#[124]⟩ : ByteArray)) ++ t261).size + 1 ≤ 9223372036854775807
             ·rw [if_pos c36] at H
              have c36b0 := eq_true c36
              have c36b1 : decide (((((⟨#[40]⟩ : ByteArray) ++ t259) ++ (⟨#[124]⟩ : ByteArray)) ++ t261).size + 1 ≤ 9223372036854775807) = true := decide_eq_true c36
              try have c36b2 : (9223372036854775807 < ((((⟨#[40]⟩ : ByteArray) ++ t259) ++ (⟨#[124]⟩ : ByteArray)) ++ t261).size + 1) = False := eq_false (Nat.not_lt.2 c36)
              try have c36b5 : (9223372036854775807 < 1 + t259.size + 1 + t261.size + 1) = False := eq_false (by have h_ := c36; simp only [ByteArray.size_append, ByteArray.size_extract, show (⟨#[124]⟩ : ByteArray).size = 1 from rfl, show (⟨#[40]⟩ : ByteArray).size = 1 from rfl] at h_; first | omega | (simp only [decide_eq_true_eq] at *; omega))
              obtain rfl := Option.some.inj H
              simp only [Option.some.injEq, Prod.mk.injEq] at H
              obtain ⟨rfl⟩ := H
              go_enter Try.func46, Try.ntmps46
              try go_wp2_with (first | ((with_reducible refine gate_dst (N := 1) rfl ?_); refine box_event ?hg (N := 1) ?hd (cs := #[.int .i64 a0_0, .string a0_1, .slice A0_2 l0_2.length c0_2]) (t := 29) ?hr ?_; (case hd => rfl); (case hg => rfl); (case hr => first | (go_simp; done) | (go_simp; rfl)); intro gb253 hg w37 hbox hb; have n0_ := Aside0.mk (below_step (by repeat (first | (with_reducible first | exact HB.out | apply below_alloc | apply pw_below_drewN | apply below_drew1) | exact HB.out)) hb); have n1_ := Aside0.mk (hbox); have n2_ := Aside0.mk ((by rw [hg]; exact (below_size (by repeat (first | (with_reducible first | exact HB.out | apply below_alloc | apply pw_below_drewN | apply below_drew1) | exact HB.out))) : w.heap.size ≤ gb253)); have n3_ := Aside0.mk ((by rw [hg]; exact (below_size (by repeat (first | (with_reducible first | exact HB.out | apply below_alloc | apply pw_below_drewN | apply below_drew1) | exact HB.out))) : w.heap.size ≤ gb253)); clear HB; have HB := n0_; have BK253 := n1_; have GW253 := n2_; have GE253 := n3_; clear n0_ n1_ n2_ n3_; clear hb hbox hg; have hcz38_0 : w37.cell? ⟨gb253, 0, none⟩ = some (.int .i64 a0_0) := (blk_cell BK253.out 0).trans rfl; have hcz38_1 : w37.cell? ⟨gb253, 1, none⟩ = some (.string a0_1) := (blk_cell BK253.out 1).trans rfl; have hcz38_2 : w37.cell? ⟨gb253, 2, none⟩ = some (.slice A0_2 l0_2.length c0_2) := (blk_cell BK253.out 2).trans rfl; have hfz38_0 := blk_frozen BK253.out 0; have hfz38_1 := blk_frozen BK253.out 1; have hfz38_2 := blk_frozen BK253.out 2))
              have n0_ := Aside0.mk (blk_drew BK253.out)
              have n1_ := Aside0.mk (below_drew1 HB.out)
              clear BK253 HB
              have BK253 := n0_; have HB := n1_
              clear n0_ n1_
              have p258 : 0 ≤ (0 : Int) := (by omega)
              have q258 : 0 < (l0_2.length : Int) := of_decide_eq_true (by first | (with_reducible assumption) | assumption)
              obtain ⟨ad258, A258_2, c258_2, e258, hx258_0, hx258_1, hx258_2, hl258_2, hi258_2⟩ := at_T29 HR0_2.out 0 p258 q258
              have hw258_2 := hx258_2
              (try rw [show ((0 : Int)).toNat = 0 from rfl] at hw258_2)
              (try rw [show 0 * 3 = 0 from rfl] at hw258_2)
              (try rw [Addr.add_zero'] at hw258_2)
              have hw258_1 := hx258_1
              (try rw [show ((0 : Int)).toNat = 0 from rfl] at hw258_1)
              (try rw [show 0 * 3 = 0 from rfl] at hw258_1)
              (try rw [Addr.add_zero'] at hw258_1)
              have hw258_0 := hx258_0
              (try rw [show ((0 : Int)).toNat = 0 from rfl] at hw258_0)
              (try rw [show 0 * 3 = 0 from rfl] at hw258_0)
              (try rw [Addr.add_zero'] at hw258_0)
              cases e258
              have qi258 : (0 < l0_2.length) = True := eq_true (by omega)
              (try rw [show ((0 : Int)).toNat = 0 from rfl] at hx258_0)
              (try rw [show 0 * 3 = 0 from rfl] at hx258_0)
              (try rw [Addr.add_zero'] at hx258_0)
              (try rw [show ((0 : Int)).toNat = 0 from rfl] at hx258_1)
              (try rw [show 0 * 3 = 0 from rfl] at hx258_1)
              (try rw [Addr.add_zero'] at hx258_1)
              (try rw [show ((0 : Int)).toNat = 0 from rfl] at hx258_2)
              (try rw [show 0 * 3 = 0 from rfl] at hx258_2)
              (try rw [Addr.add_zero'] at hx258_2)
              replace hx258_0 := (HB.out.cell (World.block_lt_of_cell? w _ hx258_0)).trans hx258_0
              replace hx258_1 := (HB.out.cell (World.block_lt_of_cell? w _ hx258_1)).trans hx258_1
              replace hx258_2 := (HB.out.cell (World.block_lt_of_cell? w _ hx258_2)).trans hx258_2
              have HR258_2 := Aside0.mk hi258_2
              have HC258_2 := Aside0.mk hl258_2
              clear hi258_2 hl258_2
              replace p258 := eq_true p258
              replace q258 := eq_true q258
              have p260 : 0 ≤ (1 : Int) := (by omega)
              have q260 : 1 < (l0_2.length : Int) := of_decide_eq_true (by first | (with_reducible assumption) | assumption)
              obtain ⟨ad260, A260_2, c260_2, e260, hx260_0, hx260_1, hx260_2, hl260_2, hi260_2⟩ := at_T29 HR0_2.out 1 p260 q260
              have hw260_2 := hx260_2
              (try rw [show ((1 : Int)).toNat = 1 from rfl] at hw260_2)
              (try rw [show 1 * 3 = 3 from rfl] at hw260_2)
              (try simp only [Nat.reduceMul, Nat.reduceEqDiff, Go.Addr.add, ↓reduceIte] at hw260_2)
              have hw260_1 := hx260_1
              (try rw [show ((1 : Int)).toNat = 1 from rfl] at hw260_1)
              (try rw [show 1 * 3 = 3 from rfl] at hw260_1)
              (try simp only [Nat.reduceMul, Nat.reduceEqDiff, Go.Addr.add, ↓reduceIte] at hw260_1)
              have hw260_0 := hx260_0
              (try rw [show ((1 : Int)).toNat = 1 from rfl] at hw260_0)
              (try rw [show 1 * 3 = 3 from rfl] at hw260_0)
              (try simp only [Nat.reduceMul, Nat.reduceEqDiff, Go.Addr.add, ↓reduceIte] at hw260_0)
              obtain rfl : ad258 = ad260 := (by injection e260)
              (try simp only [show (1 : Int).toNat = 1 from rfl, Nat.reduceMul, Nat.reduceEqDiff, Go.Addr.add, ↓reduceIte] at hx260_0)
              (try simp only [show (1 : Int).toNat = 1 from rfl, Nat.reduceMul, Nat.reduceEqDiff, Go.Addr.add, ↓reduceIte] at hx260_1)
              (try simp only [show (1 : Int).toNat = 1 from rfl, Nat.reduceMul, Nat.reduceEqDiff, Go.Addr.add, ↓reduceIte] at hx260_2)
              have qi260 : (1 < l0_2.length) = True := eq_true (by omega)
              (try rw [show ((1 : Int)).toNat = 1 from rfl] at hx260_0)
              (try rw [show 1 * 3 = 3 from rfl] at hx260_0)
              (try rw [show ((1 : Int)).toNat = 1 from rfl] at hx260_1)
              (try rw [show 1 * 3 = 3 from rfl] at hx260_1)
              (try rw [show ((1 : Int)).toNat = 1 from rfl] at hx260_2)
              (try rw [show 1 * 3 = 3 from rfl] at hx260_2)
              replace hx260_0 := (HB.out.cell (World.block_lt_of_cell? w _ hx260_0)).trans hx260_0
              replace hx260_1 := (HB.out.cell (World.block_lt_of_cell? w _ hx260_1)).trans hx260_1
              replace hx260_2 := (HB.out.cell (World.block_lt_of_cell? w _ hx260_2)).trans hx260_2
              have HR260_2 := Aside0.mk hi260_2
              have HC260_2 := Aside0.mk hl260_2
              clear hi260_2 hl260_2
              replace p260 := eq_true p260
              replace q260 := eq_true q260
              refine start_ (n := 16) (S := fun w' => w'.cell? ⟨gb253, 0, none⟩ = some (.int .i64 a0_0) ∧ w'.cell? ⟨gb253, 1, none⟩ = some (.string a0_1) ∧ w'.cell? ⟨gb253, 2, none⟩ = some (.slice (some ad258) l0_2.length c0_2) ∧ w'.cell? ad258 = some (.int .i64 ((rd_T29 l0_2 0).f0)) ∧ w'.cell? ⟨ad258.block, ad258.off + 1, none⟩ = some (.string ((rd_T29 l0_2 0).f1)) ∧ w'.cell? ⟨ad258.block, ad258.off + 2, none⟩ = some (.slice A258_2 ((rd_T29 l0_2 0).f2).length c258_2) ∧ w'.cell? ⟨ad258.block, ad258.off + 3, none⟩ = some (.int .i64 ((rd_T29 l0_2 1).f0)) ∧ w'.cell? ⟨ad258.block, ad258.off + 3 + 1, none⟩ = some (.string ((rd_T29 l0_2 1).f1)) ∧ w'.cell? ⟨ad258.block, ad258.off + 3 + 2, none⟩ = some (.slice A260_2 ((rd_T29 l0_2 1).f2).length c260_2)) (ds := []) (bl 16 0) (by kernel_rfl) rfl rfl ⟨(blk_cell BK253.out 0).trans rfl, (blk_cell BK253.out 1).trans rfl, (blk_cell BK253.out 2).trans rfl, ((HB.out.cell (World.block_lt_of_cell? w _ hw258_0)).trans hw258_0), ((HB.out.cell (World.block_lt_of_cell? w _ hw258_1)).trans hw258_1), ((HB.out.cell (World.block_lt_of_cell? w _ hw258_2)).trans hw258_2), ((HB.out.cell (World.block_lt_of_cell? w _ hw260_0)).trans hw260_0), ((HB.out.cell (World.block_lt_of_cell? w _ hw260_1)).trans hw260_1), ((HB.out.cell (World.block_lt_of_cell? w _ hw260_2)).trans hw260_2)⟩ (fun hHeld => ?_); refine with_tabW impl_regexText.tab20 impl_regexText.bits20 (fun HT_ HW_ => ?_)
              generalize w37.drew = w39 at BK253 HB HR258_2 HR260_2 hx258_0 hx258_1 hx258_2 hx260_0 hx260_1 hx260_2 hHeld ⊢
              refine pure_ (i := 0) (N := some 38) (v := ?_) (a' := ?_) (bl 16 1) rfl rfl (any_of HT_.out (by kernel_rfl)) (fun _ _ _ h => h) (Or.inl ⟨by rfl, ?_⟩) ?_ ?_
              rotate_left; (focus (intro w'; go_simp; with_reducible rfl)); rotate_left; (focus (simp only [pn_, sz_, ss_, i64_w, i32_w]; rfl))
              refine pure_ (i := 6) (N := some 44) (v := ?_) (a' := ?_) (bl 16 65) rfl rfl (any_of HT_.out (by kernel_rfl)) (fun _ _ _ h => h) (Or.inl ⟨by rfl, ?_⟩) ?_ ?_
              rotate_left; (focus (intro w'; go_simp; with_reducible rfl)); rotate_left; (focus (simp only [pn_, sz_, ss_, i64_w, i32_w]; rfl))
              refine pure_ (i := 8) (N := some 46) (v := ?_) (a' := ?_) (bl 16 321) rfl rfl (any_of HT_.out (by kernel_rfl)) (fun _ _ _ h => h) (Or.inl ⟨by rfl, ?_⟩) ?_ ?_
              rotate_left; (focus (intro w'; go_simp; with_reducible rfl)); rotate_left; (focus (simp only [pn_, sz_, ss_, i64_w, i32_w]; rfl))
              refine take_ (i := 1) (N := some 39) (v := ?_) (a' := ?_) (bl 16 323) rfl rfl (take_ofW HT_.out HW_.out (by kernel_rfl)) (fun _ _ _ h => h) (Or.inl ⟨by rfl, ?_⟩) hHeld ?_ ?_
              rotate_left; (focus (rintro w' ⟨s0, s1, s2, s3, s4, s5, s6, s7, s8⟩; go_simp; with_reducible rfl)); rotate_left; (focus (simp only [pn_, sz_, ss_, i64_w, i32_w]; rfl))
              refine pure_ (i := 2) (N := some 40) (v := ?_) (a' := ?_) (bl 16 327) rfl rfl (any_of HT_.out (by kernel_rfl)) (fun _ _ _ h => h) (Or.inl ⟨by rfl, ?_⟩) ?_ ?_
              rotate_left; (focus (intro w'; go_simp; with_reducible rfl)); rotate_left; (focus (simp only [pn_, sz_, ss_, i64_w, i32_w]; rfl))
              refine take_ (i := 3) (N := some 41) (v := ?_) (a' := ?_) (bl 16 335) rfl rfl (take_ofW HT_.out HW_.out (by kernel_rfl)) (fun _ _ _ h => h) (Or.inl ⟨by rfl, ?_⟩) hHeld ?_ ?_
              rotate_left; (focus (rintro w' ⟨s0, s1, s2, s3, s4, s5, s6, s7, s8⟩; go_simp; with_reducible rfl)); rotate_left; (focus (simp only [pn_, sz_, ss_, i64_w, i32_w]; rfl))
              refine take_ (i := 9) (N := some 47) (v := ?_) (a' := ?_) (bl 16 847) rfl rfl (take_ofW HT_.out HW_.out (by kernel_rfl)) (fun _ _ _ h => h) (Or.inl ⟨by rfl, ?_⟩) hHeld ?_ ?_
              rotate_left; (focus (rintro w' ⟨s0, s1, s2, s3, s4, s5, s6, s7, s8⟩; go_simp; with_reducible rfl)); rotate_left; (focus (simp only [pn_, sz_, ss_, i64_w, i32_w]; rfl))
              refine pure_ (i := 10) (N := some 48) (v := ?_) (a' := ?_) (bl 16 1871) rfl rfl (any_of HT_.out (by kernel_rfl)) (fun _ _ _ h => h) (Or.inl ⟨by rfl, ?_⟩) ?_ ?_
              rotate_left; (focus (intro w'; go_simp; with_reducible rfl)); rotate_left; (focus (simp only [pn_, sz_, ss_, i64_w, i32_w]; rfl))
              refine take_ (i := 11) (N := some 49) (v := ?_) (a' := ?_) (bl 16 3919) rfl rfl (take_ofW HT_.out HW_.out (by kernel_rfl)) (fun _ _ _ h => h) (Or.inl ⟨by rfl, ?_⟩) hHeld ?_ ?_
              rotate_left; (focus (rintro w' ⟨s0, s1, s2, s3, s4, s5, s6, s7, s8⟩; go_simp; with_reducible rfl)); rotate_left; (focus (simp only [pn_, sz_, ss_, i64_w, i32_w]; rfl))
              refine one_ (i := 4) (N := some 42) (bl 16 3935) rfl rfl (one_of HT_.out (by kernel_rfl)) (by decide) (fun K hK => ?_)
              refine goes_ Try.func46 (by kernel_rfl) rfl #[.agg #[.int .i64 ((rd_T29 l0_2 0).f0), .string ((rd_T29 l0_2 0).f1), .slice A258_2 ((rd_T29 l0_2 0).f2).length c258_2]] (by rfl) rfl rfl (by (try simp only [List.map_toArray, List.map_cons, List.map_nil]); first | done | rfl | (simp only [List.length_drop, List.length_take]; rfl)) ?_
              with_reducible refine (ih k (by omega) ((rd_T29 l0_2 0).f0) ((rd_T29 l0_2 0).f1) _ _ ((rd_T29 l0_2 0).f2) t259 _ ?side1 ?side2 A30.out).mono ?_
              (case side1 => repeat (first | exact (Kd.C_below HR258_2.out HB.out) | (with_reducible refine Kd.C_alloc ?_ _) | (with_reducible refine Kd.C_drewN ?_ _) | (with_reducible refine Kd.C_drew ?_)))
              (case side2 => exact HC258_2.out)
              rintro e w40 ⟨rfl, hb⟩
              refine ⟨_, rfl, ?_⟩
              have n0_ := Aside0.mk (blk_below (g := gb253) (o := .cells #[.int .i64 a0_0, .string a0_1, .slice (some ad258) l0_2.length c0_2] 29 (0, 0)) (by (with_reducible repeat (first | refine blk_drewN ?_ _ | refine blk_drew ?_ | refine blk_alloc ?_ _)); exact BK253.out) hb)
              have n1_ := Aside0.mk (below_step (by repeat (first | (with_reducible first | exact HB.out | apply below_alloc | apply pw_below_drewN | apply below_drew1 | refine below_set ?_ GE253.out) | exact HB.out)) hb)
              clear BK253 HB
              have BK253 := n0_; have HB := n1_
              clear n0_ n1_
              (try clear hb)
              (try clear hb2)
              (try clear hk)
              (try clear hi)
              refine hK.out _ _ ⟨(blk_cell BK253.out 0).trans rfl, (blk_cell BK253.out 1).trans rfl, (blk_cell BK253.out 2).trans rfl, ((HB.out.cell (World.block_lt_of_cell? w _ hw258_0)).trans hw258_0), ((HB.out.cell (World.block_lt_of_cell? w _ hw258_1)).trans hw258_1), ((HB.out.cell (World.block_lt_of_cell? w _ hw258_2)).trans hw258_2), ((HB.out.cell (World.block_lt_of_cell? w _ hw260_0)).trans hw260_0), ((HB.out.cell (World.block_lt_of_cell? w _ hw260_1)).trans hw260_1), ((HB.out.cell (World.block_lt_of_cell? w _ hw260_2)).trans hw260_2)⟩ (fun hHeld => ?_)
              clear hK K
              refine norm_ (a' := ?_) ?_ ?_
              rotate_left
              ·show Act.put _ (some 42) _ = _
               simp only [pn_, sz_, ss_, i64_w, i32_w]
               rfl
              refine pure_ (i := 5) (N := some 43) (v := ?_) (a' := ?_) (bl 16 3967) rfl rfl (any_of HT_.out (by kernel_rfl)) (fun _ _ _ h => h) (Or.inl ⟨by rfl, ?_⟩) ?_ ?_
              rotate_left; (focus (intro w'; go_simp; with_reducible rfl)); rotate_left; (focus (simp only [pn_, sz_, ss_, i64_w, i32_w]; rfl))
              refine pure_ (i := 7) (N := some 45) (v := ?_) (a' := ?_) (bl 16 4095) rfl rfl (any_of HT_.out (by kernel_rfl)) (fun _ _ _ h => h) (Or.inl ⟨by rfl, ?_⟩) ?_ ?_
              rotate_left; (focus (intro w'; go_simp; with_reducible rfl)); rotate_left; (focus (simp only [pn_, sz_, ss_, i64_w, i32_w]; rfl))
              refine one_ (i := 12) (N := some 50) (bl 16 8191) rfl rfl (one_of HT_.out (by kernel_rfl)) (by decide) (fun K hK => ?_)
              refine goes_ Try.func46 (by kernel_rfl) rfl #[.agg #[.int .i64 ((rd_T29 l0_2 1).f0), .string ((rd_T29 l0_2 1).f1), .slice A260_2 ((rd_T29 l0_2 1).f2).length c260_2]] (by rfl) rfl rfl (by (try simp only [List.map_toArray, List.map_cons, List.map_nil]); first | done | rfl | (simp only [List.length_drop, List.length_take]; rfl)) ?_
              with_reducible refine (ih k (by omega) ((rd_T29 l0_2 1).f0) ((rd_T29 l0_2 1).f1) _ _ ((rd_T29 l0_2 1).f2) t261 _ ?side1 ?side2 A34.out).mono ?_
              (case side1 => repeat (first | exact (Kd.C_below HR260_2.out HB.out) | (with_reducible refine Kd.C_alloc ?_ _) | (with_reducible refine Kd.C_drewN ?_ _) | (with_reducible refine Kd.C_drew ?_)))
              (case side2 => exact HC260_2.out)
              rintro e w41 ⟨rfl, hb⟩
              refine ⟨_, rfl, ?_⟩
              have n0_ := Aside0.mk (blk_below (g := gb253) (o := .cells #[.int .i64 a0_0, .string a0_1, .slice (some ad258) l0_2.length c0_2] 29 (0, 0)) (by (with_reducible repeat (first | refine blk_drewN ?_ _ | refine blk_drew ?_ | refine blk_alloc ?_ _)); exact BK253.out) hb)
              have n1_ := Aside0.mk (below_step (by repeat (first | (with_reducible first | exact HB.out | apply below_alloc | apply pw_below_drewN | apply below_drew1 | refine below_set ?_ GE253.out) | exact HB.out)) hb)
              clear BK253 HB
              have BK253 := n0_; have HB := n1_
              clear n0_ n1_
              (try clear hb)
              (try clear hb2)
              (try clear hk)
              (try clear hi)
              refine hK.out _ _ ⟨(blk_cell BK253.out 0).trans rfl, (blk_cell BK253.out 1).trans rfl, (blk_cell BK253.out 2).trans rfl, ((HB.out.cell (World.block_lt_of_cell? w _ hw258_0)).trans hw258_0), ((HB.out.cell (World.block_lt_of_cell? w _ hw258_1)).trans hw258_1), ((HB.out.cell (World.block_lt_of_cell? w _ hw258_2)).trans hw258_2), ((HB.out.cell (World.block_lt_of_cell? w _ hw260_0)).trans hw260_0), ((HB.out.cell (World.block_lt_of_cell? w _ hw260_1)).trans hw260_1), ((HB.out.cell (World.block_lt_of_cell? w _ hw260_2)).trans hw260_2)⟩ (fun hHeld => ?_)
              clear hK K
              refine norm_ (a' := ?_) ?_ ?_
              rotate_left
              ·show Act.put _ (some 50) _ = _
               simp only [pn_, sz_, ss_, i64_w, i32_w]
               rfl
              refine pure_ (i := 13) (N := some 51) (v := ?_) (a' := ?_) (bl 16 16383) rfl rfl (any_of HT_.out (by kernel_rfl)) (fun _ _ _ h => h) (Or.inl ⟨by rfl, ?_⟩) ?_ ?_
              rotate_left; (focus (intro w'; go_simp; with_reducible rfl)); rotate_left; (focus (simp only [pn_, sz_, ss_, i64_w, i32_w]; rfl))
              refine pure_ (i := 14) (N := some 52) (v := ?_) (a' := ?_) (bl 16 32767) rfl rfl (any_of HT_.out (by kernel_rfl)) (fun _ _ _ h => h) (Or.inl ⟨by rfl, ?_⟩) ?_ ?_
              rotate_left; (focus (intro w'; go_simp; with_reducible rfl)); rotate_left; (focus (simp only [pn_, sz_, ss_, i64_w, i32_w]; rfl))
              refine pure_ (i := 15) (N := some 2) (v := ?_) (a' := ?_) (bl 16 65535) rfl rfl (any_of HT_.out (by kernel_rfl)) (fun _ _ _ h => h) (Or.inl ⟨by rfl, ?_⟩) ?_ ?_
              rotate_left; (focus (intro w'; go_simp; with_reducible rfl)); rotate_left; (focus (simp only [pn_, sz_, ss_, i64_w, i32_w]; rfl))
              refine done_ (done_of HT_.out (by kernel_rfl)) ?_
              try go_wp2
              go_ret
              exact ⟨by first | rfl | (simp [errW_none, errW_some] <;> rfl) | (simp [*, errW_none, errW_some] <;> rfl), by repeat (first | (with_reducible first | exact HB.out | apply below_alloc | apply pw_below_drewN | apply below_drew1 | refine below_set ?_ GE253.out) | exact HB.out)⟩
             ·rw [if_neg c36] at H
              exact absurd H (by simp)
            ·rw [if_neg c35] at H
             exact absurd H (by simp)
           ·rw [if_neg c33] at H
            exact absurd H (by simp)
          ·rw [if_neg c32] at H
           exact absurd H (by simp)
         ·rw [if_neg c31] at H
          exact absurd H (by simp)
        ·rw [if_neg c29] at H
         exact absurd H (by simp)
       ·rw [if_neg c28] at H
        have c28b0 : (a0_0 == 6) = false := beq_eq_false_iff_ne.mpr c28
        have c28b1 : (a0_0 != 6) = true := bne_iff_ne.mpr c28
        by_cases c42 : a0_0 = 7
        ·rw [if_pos c42] at H
         have c42b0 : (a0_0 == 7) = true := beq_iff_eq.mpr c42
         have c42b1 : (a0_0 != 7) = false := bne_eq_false_iff_eq.mpr c42
         clear c42
         by_cases c43 : 0 < (l0_2.length : Int)
         ·rw [if_pos c43] at H
          have c43b0 : decide (0 < (l0_2.length : Int)) = true := decide_eq_true c43
          have c43b1 : decide (0 < l0_2.length) = true := decide_eq_true (by omega)
          clear c43
          replace H := Option.bind_eq_some_iff.mp H
          obtain ⟨t263, A440, H⟩ := H
          replace H : (if 1 + t263.size ≤ 9223372036854775807 then (if ((⟨#[40]⟩ : ByteArray) ++ t263).size + 1 ≤ 9223372036854775807 then (if 1 < (l0_2.length : Int) then ((impl_regexText.f k ((rd_T29 l0_2 1).f0) ((rd_T29 l0_2 1).f1) ((rd_T29 l0_2 1).f2)).bind fun t265 => (if (((⟨#[40]⟩ : ByteArray) ++ t263) ++ (⟨#[38]⟩ : ByteArray)).size + t265.size ≤ 9223372036854775807 then (if ((((⟨#[40]⟩ : ByteArray) ++ t263) ++ (⟨#[38]⟩ : ByteArray)) ++ t265).size + 1 ≤ 9223372036854775807 then (some (((((⟨#[40]⟩ : ByteArray) ++ t263) ++ (⟨#[38]⟩ : ByteArray)) ++ t265) ++ (⟨#[41]⟩ : ByteArray))) else (none)) else (none))) else (none)) else (none)) else (none)) = some r := H
          have A44 := Aside0.mk A440
          clear A440
          by_cases c45 : 1 + t263.size ≤ 9223372036854775807
          ·rw [if_pos c45] at H
           have c45b0 := eq_true c45
           have c45b1 : decide (1 + t263.size ≤ 9223372036854775807) = true := decide_eq_true c45
           try have c45b2 : (9223372036854775807 < 1 + t263.size) = False := eq_false (Nat.not_lt.2 c45)
           by_cases c46 : ((⟨#[40]⟩ : ByteArray) ++ t263).size + 1 ≤ 9223372036854775807
           ·rw [if_pos c46] at H
            have c46b0 := eq_true c46
            have c46b1 : decide (((⟨#[40]⟩ : ByteArray) ++ t263).size + 1 ≤ 9223372036854775807) = true := decide_eq_true c46
            try have c46b2 : (9223372036854775807 < ((⟨#[40]⟩ : ByteArray) ++ t263).size + 1) = False := eq_false (Nat.not_lt.2 c46)
            try have c46b5 : (9223372036854775807 < 1 + t263.size + 1) = False := eq_false (by have h_ := c46; simp only [ByteArray.size_append, ByteArray.size_extract, show (⟨#[40]⟩ : ByteArray).size = 1 from rfl] at h_; first | omega | (simp only [decide_eq_true_eq] at *; omega))
            by_cases c47 : 1 < (l0_2.length : Int)
            ·rw [if_pos c47] at H
             have c47b0 : decide (1 < (l0_2.length : Int)) = true := decide_eq_true c47
             have c47b1 : decide (1 < l0_2.length) = true := decide_eq_true (by omega)
             clear c47
             replace H := Option.bind_eq_some_iff.mp H
             obtain ⟨t265, A480, H⟩ := H
             replace H : (if (((⟨#[40]⟩ : ByteArray) ++ t263) ++ (⟨#[38]⟩ : ByteArray)).size + t265.size ≤ 9223372036854775807 then (if ((((⟨#[40]⟩ : ByteArray) ++ t263) ++ (⟨#[38]⟩ : ByteArray)) ++ t265).size + 1 ≤ 9223372036854775807 then (some (((((⟨#[40]⟩ : ByteArray) ++ t263) ++ (⟨#[38]⟩ : ByteArray)) ++ t265) ++ (⟨#[41]⟩ : ByteArray))) else (none)) else (none)) = some r := H
             have A48 := Aside0.mk A480
             clear A480
             by_cases c49 : (((⟨#[40]⟩ : ByteArray) ++ t263) ++ (⟨#[38]⟩ : ByteArray)).size + t265.size ≤ 9223372036854775807
             ·rw [if_pos c49] at H
              have c49b0 := eq_true c49
              have c49b1 : decide ((((⟨#[40]⟩ : ByteArray) ++ t263) ++ (⟨#[38]⟩ : ByteArray)).size + t265.size ≤ 9223372036854775807) = true := decide_eq_true c49
              try have c49b2 : (9223372036854775807 < (((⟨#[40]⟩ : ByteArray) ++ t263) ++ (⟨#[38]⟩ : ByteArray)).size + t265.size) = False := eq_false (Nat.not_lt.2 c49)
              try have c49b5 : (9223372036854775807 < 1 + t263.size + 1 + t265.size) = False := eq_false (by have h_ := c49; simp only [ByteArray.size_append, ByteArray.size_extract, show (⟨#[38]⟩ : ByteArray).size = 1 from rfl, show (⟨#[40]⟩ : ByteArray).size = 1 from rfl] at h_; first | omega | (simp only [decide_eq_true_eq] at *; omega))
              by_cases c50 : ((((⟨#[40]⟩ : ByteArray) ++ t263) ++ (⟨#[38]⟩ : ByteArray)) ++ t265).size + 1 ≤ 9223372036854775807
              ·rw [if_pos c50] at H
               have c50b0 := eq_true c50
               have c50b1 : decide (((((⟨#[40]⟩ : ByteArray) ++ t263) ++ (⟨#[38]⟩ : ByteArray)) ++ t265).size + 1 ≤ 9223372036854775807) = true := decide_eq_true c50
               try have c50b2 : (9223372036854775807 < ((((⟨#[40]⟩ : ByteArray) ++ t263) ++ (⟨#[38]⟩ : ByteArray)) ++ t265).size + 1) = False := eq_false (Nat.not_lt.2 c50)
               try have c50b5 : (9223372036854775807 < 1 + t263.size + 1 + t265.size + 1) = False := eq_false (by have h_ := c50; simp only [ByteArray.size_append, ByteArray.size_extract, show (⟨#[38]⟩ : ByteArray).size = 1 from rfl, show (⟨#[40]⟩ : ByteArray).size = 1 from rfl] at h_; first | omega | (simp only [decide_eq_true_eq] at *; omega))
               obtain rfl := Option.some.inj H
               simp only [Option.some.injEq, Prod.mk.injEq] at H
               obtain ⟨rfl⟩ := H
               go_enter Try.func46, Try.ntmps46
               try go_wp2_with (first | ((with_reducible refine gate_dst (N := 1) rfl ?_); refine box_event ?hg (N := 1) ?hd (cs := #[.int .i64 a0_0, .string a0_1, .slice A0_2 l0_2.length c0_2]) (t := 29) ?hr ?_; (case hd => rfl); (case hg => rfl); (case hr => first | (go_simp; done) | (go_simp; rfl)); intro gb253 hg w51 hbox hb; have n0_ := Aside0.mk (below_step (by repeat (first | (with_reducible first | exact HB.out | apply below_alloc | apply pw_below_drewN | apply below_drew1) | exact HB.out)) hb); have n1_ := Aside0.mk (hbox); have n2_ := Aside0.mk ((by rw [hg]; exact (below_size (by repeat (first | (with_reducible first | exact HB.out | apply below_alloc | apply pw_below_drewN | apply below_drew1) | exact HB.out))) : w.heap.size ≤ gb253)); have n3_ := Aside0.mk ((by rw [hg]; exact (below_size (by repeat (first | (with_reducible first | exact HB.out | apply below_alloc | apply pw_below_drewN | apply below_drew1) | exact HB.out))) : w.heap.size ≤ gb253)); clear HB; have HB := n0_; have BK253 := n1_; have GW253 := n2_; have GE253 := n3_; clear n0_ n1_ n2_ n3_; clear hb hbox hg; have hcz52_0 : w51.cell? ⟨gb253, 0, none⟩ = some (.int .i64 a0_0) := (blk_cell BK253.out 0).trans rfl; have hcz52_1 : w51.cell? ⟨gb253, 1, none⟩ = some (.string a0_1) := (blk_cell BK253.out 1).trans rfl; have hcz52_2 : w51.cell? ⟨gb253, 2, none⟩ = some (.slice A0_2 l0_2.length c0_2) := (blk_cell BK253.out 2).trans rfl; have hfz52_0 := blk_frozen BK253.out 0; have hfz52_1 := blk_frozen BK253.out 1; have hfz52_2 := blk_frozen BK253.out 2))
               have n0_ := Aside0.mk (blk_drew BK253.out)
               have n1_ := Aside0.mk (below_drew1 HB.out)
               clear BK253 HB
               have BK253 := n0_; have HB := n1_
               clear n0_ n1_
               have p262 : 0 ≤ (0 : Int) := (by omega)
               have q262 : 0 < (l0_2.length : Int) := of_decide_eq_true (by first | (with_reducible assumption) | assumption)
               obtain ⟨ad262, A262_2, c262_2, e262, hx262_0, hx262_1, hx262_2, hl262_2, hi262_2⟩ := at_T29 HR0_2.out 0 p262 q262
               have hw262_2 := hx262_2
               (try rw [show ((0 : Int)).toNat = 0 from rfl] at hw262_2)
               (try rw [show 0 * 3 = 0 from rfl] at hw262_2)
               (try rw [Addr.add_zero'] at hw262_2)
               have hw262_1 := hx262_1
               (try rw [show ((0 : Int)).toNat = 0 from rfl] at hw262_1)
               (try rw [show 0 * 3 = 0 from rfl] at hw262_1)
               (try rw [Addr.add_zero'] at hw262_1)
               have hw262_0 := hx262_0
               (try rw [show ((0 : Int)).toNat = 0 from rfl] at hw262_0)
               (try rw [show 0 * 3 = 0 from rfl] at hw262_0)
               (try rw [Addr.add_zero'] at hw262_0)
               cases e262
               have qi262 : (0 < l0_2.length) = True := eq_true (by omega)
               (try rw [show ((0 : Int)).toNat = 0 from rfl] at hx262_0)
               (try rw [show 0 * 3 = 0 from rfl] at hx262_0)
               (try rw [Addr.add_zero'] at hx262_0)
               (try rw [show ((0 : Int)).toNat = 0 from rfl] at hx262_1)
               (try rw [show 0 * 3 = 0 from rfl] at hx262_1)
               (try rw [Addr.add_zero'] at hx262_1)
               (try rw [show ((0 : Int)).toNat = 0 from rfl] at hx262_2)
               (try rw [show 0 * 3 = 0 from rfl] at hx262_2)
               (try rw [Addr.add_zero'] at hx262_2)
               replace hx262_0 := (HB.out.cell (World.block_lt_of_cell? w _ hx262_0)).trans hx262_0
               replace hx262_1 := (HB.out.cell (World.block_lt_of_cell? w _ hx262_1)).trans hx262_1
               replace hx262_2 := (HB.out.cell (World.block_lt_of_cell? w _ hx262_2)).trans hx262_2
               have HR262_2 := Aside0.mk hi262_2
               have HC262_2 := Aside0.mk hl262_2
               clear hi262_2 hl262_2
               replace p262 := eq_true p262
               replace q262 := eq_true q262
               have p264 : 0 ≤ (1 : Int) := (by omega)
               have q264 : 1 < (l0_2.length : Int) := of_decide_eq_true (by first | (with_reducible assumption) | assumption)
               obtain ⟨ad264, A264_2, c264_2, e264, hx264_0, hx264_1, hx264_2, hl264_2, hi264_2⟩ := at_T29 HR0_2.out 1 p264 q264
               have hw264_2 := hx264_2
               (try rw [show ((1 : Int)).toNat = 1 from rfl] at hw264_2)
               (try rw [show 1 * 3 = 3 from rfl] at hw264_2)
               (try simp only [Nat.reduceMul, Nat.reduceEqDiff, Go.Addr.add, ↓reduceIte] at hw264_2)
               have hw264_1 := hx264_1
               (try rw [show ((1 : Int)).toNat = 1 from rfl] at hw264_1)
               (try rw [show 1 * 3 = 3 from rfl] at hw264_1)
               (try simp only [Nat.reduceMul, Nat.reduceEqDiff, Go.Addr.add, ↓reduceIte] at hw264_1)
               have hw264_0 := hx264_0
               (try rw [show ((1 : Int)).toNat = 1 from rfl] at hw264_0)
               (try rw [show 1 * 3 = 3 from rfl] at hw264_0)
               (try simp only [Nat.reduceMul, Nat.reduceEqDiff, Go.Addr.add, ↓reduceIte] at hw264_0)
               obtain rfl : ad262 = ad264 := (by injection e264)
               (try simp only [show (1 : Int).toNat = 1 from rfl, Nat.reduceMul, Nat.reduceEqDiff, Go.Addr.add, ↓reduceIte] at hx264_0)
               (try simp only [show (1 : Int).toNat = 1 from rfl, Nat.reduceMul, Nat.reduceEqDiff, Go.Addr.add, ↓reduceIte] at hx264_1)
               (try simp only [show (1 : Int).toNat = 1 from rfl, Nat.reduceMul, Nat.reduceEqDiff, Go.Addr.add, ↓reduceIte] at hx264_2)
               have qi264 : (1 < l0_2.length) = True := eq_true (by omega)
               (try rw [show ((1 : Int)).toNat = 1 from rfl] at hx264_0)
               (try rw [show 1 * 3 = 3 from rfl] at hx264_0)
               (try rw [show ((1 : Int)).toNat = 1 from rfl] at hx264_1)
               (try rw [show 1 * 3 = 3 from rfl] at hx264_1)
               (try rw [show ((1 : Int)).toNat = 1 from rfl] at hx264_2)
               (try rw [show 1 * 3 = 3 from rfl] at hx264_2)
               replace hx264_0 := (HB.out.cell (World.block_lt_of_cell? w _ hx264_0)).trans hx264_0
               replace hx264_1 := (HB.out.cell (World.block_lt_of_cell? w _ hx264_1)).trans hx264_1
               replace hx264_2 := (HB.out.cell (World.block_lt_of_cell? w _ hx264_2)).trans hx264_2
               have HR264_2 := Aside0.mk hi264_2
               have HC264_2 := Aside0.mk hl264_2
               clear hi264_2 hl264_2
               replace p264 := eq_true p264
               replace q264 := eq_true q264
               refine start_ (n := 16) (S := fun w' => w'.cell? ⟨gb253, 0, none⟩ = some (.int .i64 a0_0) ∧ w'.cell? ⟨gb253, 1, none⟩ = some (.string a0_1) ∧ w'.cell? ⟨gb253, 2, none⟩ = some (.slice (some ad262) l0_2.length c0_2) ∧ w'.cell? ad262 = some (.int .i64 ((rd_T29 l0_2 0).f0)) ∧ w'.cell? ⟨ad262.block, ad262.off + 1, none⟩ = some (.string ((rd_T29 l0_2 0).f1)) ∧ w'.cell? ⟨ad262.block, ad262.off + 2, none⟩ = some (.slice A262_2 ((rd_T29 l0_2 0).f2).length c262_2) ∧ w'.cell? ⟨ad262.block, ad262.off + 3, none⟩ = some (.int .i64 ((rd_T29 l0_2 1).f0)) ∧ w'.cell? ⟨ad262.block, ad262.off + 3 + 1, none⟩ = some (.string ((rd_T29 l0_2 1).f1)) ∧ w'.cell? ⟨ad262.block, ad262.off + 3 + 2, none⟩ = some (.slice A264_2 ((rd_T29 l0_2 1).f2).length c264_2)) (ds := []) (bl 16 0) (by kernel_rfl) rfl rfl ⟨(blk_cell BK253.out 0).trans rfl, (blk_cell BK253.out 1).trans rfl, (blk_cell BK253.out 2).trans rfl, ((HB.out.cell (World.block_lt_of_cell? w _ hw262_0)).trans hw262_0), ((HB.out.cell (World.block_lt_of_cell? w _ hw262_1)).trans hw262_1), ((HB.out.cell (World.block_lt_of_cell? w _ hw262_2)).trans hw262_2), ((HB.out.cell (World.block_lt_of_cell? w _ hw264_0)).trans hw264_0), ((HB.out.cell (World.block_lt_of_cell? w _ hw264_1)).trans hw264_1), ((HB.out.cell (World.block_lt_of_cell? w _ hw264_2)).trans hw264_2)⟩ (fun hHeld => ?_); refine with_tabW impl_regexText.tab20 impl_regexText.bits20 (fun HT_ HW_ => ?_)
               generalize w51.drew = w53 at BK253 HB HR262_2 HR264_2 hx262_0 hx262_1 hx262_2 hx264_0 hx264_1 hx264_2 hHeld ⊢
               refine pure_ (i := 0) (N := some 38) (v := ?_) (a' := ?_) (bl 16 1) rfl rfl (any_of HT_.out (by kernel_rfl)) (fun _ _ _ h => h) (Or.inl ⟨by rfl, ?_⟩) ?_ ?_
               rotate_left; (focus (intro w'; go_simp; with_reducible rfl)); rotate_left; (focus (simp only [pn_, sz_, ss_, i64_w, i32_w]; rfl))
               refine pure_ (i := 6) (N := some 44) (v := ?_) (a' := ?_) (bl 16 65) rfl rfl (any_of HT_.out (by kernel_rfl)) (fun _ _ _ h => h) (Or.inl ⟨by rfl, ?_⟩) ?_ ?_
               rotate_left; (focus (intro w'; go_simp; with_reducible rfl)); rotate_left; (focus (simp only [pn_, sz_, ss_, i64_w, i32_w]; rfl))
               refine pure_ (i := 8) (N := some 46) (v := ?_) (a' := ?_) (bl 16 321) rfl rfl (any_of HT_.out (by kernel_rfl)) (fun _ _ _ h => h) (Or.inl ⟨by rfl, ?_⟩) ?_ ?_
               rotate_left; (focus (intro w'; go_simp; with_reducible rfl)); rotate_left; (focus (simp only [pn_, sz_, ss_, i64_w, i32_w]; rfl))
               refine take_ (i := 1) (N := some 39) (v := ?_) (a' := ?_) (bl 16 323) rfl rfl (take_ofW HT_.out HW_.out (by kernel_rfl)) (fun _ _ _ h => h) (Or.inl ⟨by rfl, ?_⟩) hHeld ?_ ?_
               rotate_left; (focus (rintro w' ⟨s0, s1, s2, s3, s4, s5, s6, s7, s8⟩; go_simp; with_reducible rfl)); rotate_left; (focus (simp only [pn_, sz_, ss_, i64_w, i32_w]; rfl))
               refine pure_ (i := 2) (N := some 40) (v := ?_) (a' := ?_) (bl 16 327) rfl rfl (any_of HT_.out (by kernel_rfl)) (fun _ _ _ h => h) (Or.inl ⟨by rfl, ?_⟩) ?_ ?_
               rotate_left; (focus (intro w'; go_simp; with_reducible rfl)); rotate_left; (focus (simp only [pn_, sz_, ss_, i64_w, i32_w]; rfl))
               refine take_ (i := 3) (N := some 41) (v := ?_) (a' := ?_) (bl 16 335) rfl rfl (take_ofW HT_.out HW_.out (by kernel_rfl)) (fun _ _ _ h => h) (Or.inl ⟨by rfl, ?_⟩) hHeld ?_ ?_
               rotate_left; (focus (rintro w' ⟨s0, s1, s2, s3, s4, s5, s6, s7, s8⟩; go_simp; with_reducible rfl)); rotate_left; (focus (simp only [pn_, sz_, ss_, i64_w, i32_w]; rfl))
               refine take_ (i := 9) (N := some 47) (v := ?_) (a' := ?_) (bl 16 847) rfl rfl (take_ofW HT_.out HW_.out (by kernel_rfl)) (fun _ _ _ h => h) (Or.inl ⟨by rfl, ?_⟩) hHeld ?_ ?_
               rotate_left; (focus (rintro w' ⟨s0, s1, s2, s3, s4, s5, s6, s7, s8⟩; go_simp; with_reducible rfl)); rotate_left; (focus (simp only [pn_, sz_, ss_, i64_w, i32_w]; rfl))
               refine pure_ (i := 10) (N := some 48) (v := ?_) (a' := ?_) (bl 16 1871) rfl rfl (any_of HT_.out (by kernel_rfl)) (fun _ _ _ h => h) (Or.inl ⟨by rfl, ?_⟩) ?_ ?_
               rotate_left; (focus (intro w'; go_simp; with_reducible rfl)); rotate_left; (focus (simp only [pn_, sz_, ss_, i64_w, i32_w]; rfl))
               refine take_ (i := 11) (N := some 49) (v := ?_) (a' := ?_) (bl 16 3919) rfl rfl (take_ofW HT_.out HW_.out (by kernel_rfl)) (fun _ _ _ h => h) (Or.inl ⟨by rfl, ?_⟩) hHeld ?_ ?_
               rotate_left; (focus (rintro w' ⟨s0, s1, s2, s3, s4, s5, s6, s7, s8⟩; go_simp; with_reducible rfl)); rotate_left; (focus (simp only [pn_, sz_, ss_, i64_w, i32_w]; rfl))
               refine one_ (i := 4) (N := some 42) (bl 16 3935) rfl rfl (one_of HT_.out (by kernel_rfl)) (by decide) (fun K hK => ?_)
               refine goes_ Try.func46 (by kernel_rfl) rfl #[.agg #[.int .i64 ((rd_T29 l0_2 0).f0), .string ((rd_T29 l0_2 0).f1), .slice A262_2 ((rd_T29 l0_2 0).f2).length c262_2]] (by rfl) rfl rfl (by (try simp only [List.map_toArray, List.map_cons, List.map_nil]); first | done | rfl | (simp only [List.length_drop, List.length_take]; rfl)) ?_
               with_reducible refine (ih k (by omega) ((rd_T29 l0_2 0).f0) ((rd_T29 l0_2 0).f1) _ _ ((rd_T29 l0_2 0).f2) t263 _ ?side1 ?side2 A44.out).mono ?_
               (case side1 => repeat (first | exact (Kd.C_below HR262_2.out HB.out) | (with_reducible refine Kd.C_alloc ?_ _) | (with_reducible refine Kd.C_drewN ?_ _) | (with_reducible refine Kd.C_drew ?_)))
               (case side2 => exact HC262_2.out)
               rintro e w54 ⟨rfl, hb⟩
               refine ⟨_, rfl, ?_⟩
               have n0_ := Aside0.mk (blk_below (g := gb253) (o := .cells #[.int .i64 a0_0, .string a0_1, .slice (some ad262) l0_2.length c0_2] 29 (0, 0)) (by (with_reducible repeat (first | refine blk_drewN ?_ _ | refine blk_drew ?_ | refine blk_alloc ?_ _)); exact BK253.out) hb)
               have n1_ := Aside0.mk (below_step (by repeat (first | (with_reducible first | exact HB.out | apply below_alloc | apply pw_below_drewN | apply below_drew1 | refine below_set ?_ GE253.out) | exact HB.out)) hb)
               clear BK253 HB
               have BK253 := n0_; have HB := n1_
               clear n0_ n1_
               (try clear hb)
               (try clear hb2)
               (try clear hk)
               (try clear hi)
               refine hK.out _ _ ⟨(blk_cell BK253.out 0).trans rfl, (blk_cell BK253.out 1).trans rfl, (blk_cell BK253.out 2).trans rfl, ((HB.out.cell (World.block_lt_of_cell? w _ hw262_0)).trans hw262_0), ((HB.out.cell (World.block_lt_of_cell? w _ hw262_1)).trans hw262_1), ((HB.out.cell (World.block_lt_of_cell? w _ hw262_2)).trans hw262_2), ((HB.out.cell (World.block_lt_of_cell? w _ hw264_0)).trans hw264_0), ((HB.out.cell (World.block_lt_of_cell? w _ hw264_1)).trans hw264_1), ((HB.out.cell (World.block_lt_of_cell? w _ hw264_2)).trans hw264_2)⟩ (fun hHeld => ?_)
               clear hK K
               refine norm_ (a' := ?_) ?_ ?_
               rotate_left
               ·show Act.put _ (some 42) _ = _
                simp only [pn_, sz_, ss_, i64_w, i32_w]
                rfl
               refine pure_ (i := 5) (N := some 43) (v := ?_) (a' := ?_) (bl 16 3967) rfl rfl (any_of HT_.out (by kernel_rfl)) (fun _ _ _ h => h) (Or.inl ⟨by rfl, ?_⟩) ?_ ?_
               rotate_left; (focus (intro w'; go_simp; with_reducible rfl)); rotate_left; (focus (simp only [pn_, sz_, ss_, i64_w, i32_w]; rfl))
               refine pure_ (i := 7) (N := some 45) (v := ?_) (a' := ?_) (bl 16 4095) rfl rfl (any_of HT_.out (by kernel_rfl)) (fun _ _ _ h => h) (Or.inl ⟨by rfl, ?_⟩) ?_ ?_
               rotate_left; (focus (intro w'; go_simp; with_reducible rfl)); rotate_left; (focus (simp only [pn_, sz_, ss_, i64_w, i32_w]; rfl))
               refine one_ (i := 12) (N := some 50) (bl 16 8191) rfl rfl (one_of HT_.out (by kernel_rfl)) (by decide) (fun K hK => ?_)
               refine goes_ Try.func46 (by kernel_rfl) rfl #[.agg #[.int .i64 ((rd_T29 l0_2 1).f0), .string ((rd_T29 l0_2 1).f1), .slice A264_2 ((rd_T29 l0_2 1).f2).length c264_2]] (by rfl) rfl rfl (by (try simp only [List.map_toArray, List.map_cons, List.map_nil]); first | done | rfl | (simp only [List.length_drop, List.length_take]; rfl)) ?_
               with_reducible refine (ih k (by omega) ((rd_T29 l0_2 1).f0) ((rd_T29 l0_2 1).f1) _ _ ((rd_T29 l0_2 1).f2) t265 _ ?side1 ?side2 A48.out).mono ?_
               (case side1 => repeat (first | exact (Kd.C_below HR264_2.out HB.out) | (with_reducible refine Kd.C_alloc ?_ _) | (with_reducible refine Kd.C_drewN ?_ _) | (with_reducible refine Kd.C_drew ?_)))
               (case side2 => exact HC264_2.out)
               rintro e w55 ⟨rfl, hb⟩
               refine ⟨_, rfl, ?_⟩
               have n0_ := Aside0.mk (blk_below (g := gb253) (o := .cells #[.int .i64 a0_0, .string a0_1, .slice (some ad262) l0_2.length c0_2] 29 (0, 0)) (by (with_reducible repeat (first | refine blk_drewN ?_ _ | refine blk_drew ?_ | refine blk_alloc ?_ _)); exact BK253.out) hb)
               have n1_ := Aside0.mk (below_step (by repeat (first | (with_reducible first | exact HB.out | apply below_alloc | apply pw_below_drewN | apply below_drew1 | refine below_set ?_ GE253.out) | exact HB.out)) hb)
               clear BK253 HB
               have BK253 := n0_; have HB := n1_
               clear n0_ n1_
               (try clear hb)
               (try clear hb2)
               (try clear hk)
               (try clear hi)
               refine hK.out _ _ ⟨(blk_cell BK253.out 0).trans rfl, (blk_cell BK253.out 1).trans rfl, (blk_cell BK253.out 2).trans rfl, ((HB.out.cell (World.block_lt_of_cell? w _ hw262_0)).trans hw262_0), ((HB.out.cell (World.block_lt_of_cell? w _ hw262_1)).trans hw262_1), ((HB.out.cell (World.block_lt_of_cell? w _ hw262_2)).trans hw262_2), ((HB.out.cell (World.block_lt_of_cell? w _ hw264_0)).trans hw264_0), ((HB.out.cell (World.block_lt_of_cell? w _ hw264_1)).trans hw264_1), ((HB.out.cell (World.block_lt_of_cell? w _ hw264_2)).trans hw264_2)⟩ (fun hHeld => ?_)
               clear hK K
               refine norm_ (a' := ?_) ?_ ?_
               rotate_left
               ·show Act.put _ (some 50) _ = _
                simp only [pn_, sz_, ss_, i64_w, i32_w]
                rfl
               refine pure_ (i := 13) (N := some 51) (v := ?_) (a' := ?_) (bl 16 16383) rfl rfl (any_of HT_.out (by kernel_rfl)) (fun _ _ _ h => h) (Or.inl ⟨by rfl, ?_⟩) ?_ ?_
               rotate_left; (focus (intro w'; go_simp; with_reducible rfl)); rotate_left; (focus (simp only [pn_, sz_, ss_, i64_w, i32_w]; rfl))
               refine pure_ (i := 14) (N := some 52) (v := ?_) (a' := ?_) (bl 16 32767) rfl rfl (any_of HT_.out (by kernel_rfl)) (fun _ _ _ h => h) (Or.inl ⟨by rfl, ?_⟩) ?_ ?_
               rotate_left; (focus (intro w'; go_simp; with_reducible rfl)); rotate_left; (focus (simp only [pn_, sz_, ss_, i64_w, i32_w]; rfl))
               refine pure_ (i := 15) (N := some 2) (v := ?_) (a' := ?_) (bl 16 65535) rfl rfl (any_of HT_.out (by kernel_rfl)) (fun _ _ _ h => h) (Or.inl ⟨by rfl, ?_⟩) ?_ ?_
               rotate_left; (focus (intro w'; go_simp; with_reducible rfl)); rotate_left; (focus (simp only [pn_, sz_, ss_, i64_w, i32_w]; rfl))
               refine done_ (done_of HT_.out (by kernel_rfl)) ?_
               try go_wp2
               go_ret
               exact ⟨by first | rfl | (simp [errW_none, errW_some] <;> rfl) | (simp [*, errW_none, errW_some] <;> rfl), by repeat (first | (with_reducible first | exact HB.out | apply below_alloc | apply pw_below_drewN | apply below_drew1 | refine below_set ?_ GE253.out) | exact HB.out)⟩
              ·rw [if_neg c50] at H
               exact absurd H (by simp)
             ·rw [if_neg c49] at H
              exact absurd H (by simp)
            ·rw [if_neg c47] at H
             exact absurd H (by simp)
           ·rw [if_neg c46] at H
            exact absurd H (by simp)
          ·rw [if_neg c45] at H
           exact absurd H (by simp)
         ·rw [if_neg c43] at H
          exact absurd H (by simp)
        ·rw [if_neg c42] at H
         have c42b0 : (a0_0 == 7) = false := beq_eq_false_iff_ne.mpr c42
         have c42b1 : (a0_0 != 7) = true := bne_iff_ne.mpr c42
         by_cases c56 : 0 < (l0_2.length : Int)
         ·rw [if_pos c56] at H
          have c56b0 : decide (0 < (l0_2.length : Int)) = true := decide_eq_true c56
          have c56b1 : decide (0 < l0_2.length) = true := decide_eq_true (by omega)
          clear c56
          replace H := Option.bind_eq_some_iff.mp H
          obtain ⟨t267, A570, H⟩ := H
          replace H : (if 1 + t267.size ≤ 9223372036854775807 then (if ((⟨#[40]⟩ : ByteArray) ++ t267).size + 0 ≤ 9223372036854775807 then (if 1 < (l0_2.length : Int) then ((impl_regexText.f k ((rd_T29 l0_2 1).f0) ((rd_T29 l0_2 1).f1) ((rd_T29 l0_2 1).f2)).bind fun t269 => (if (((⟨#[40]⟩ : ByteArray) ++ t267) ++ (⟨#[]⟩ : ByteArray)).size + t269.size ≤ 9223372036854775807 then (if ((((⟨#[40]⟩ : ByteArray) ++ t267) ++ (⟨#[]⟩ : ByteArray)) ++ t269).size + 1 ≤ 9223372036854775807 then (some (((((⟨#[40]⟩ : ByteArray) ++ t267) ++ (⟨#[]⟩ : ByteArray)) ++ t269) ++ (⟨#[41]⟩ : ByteArray))) else (none)) else (none))) else (none)) else (none)) else (none)) = some r := H
          have A57 := Aside0.mk A570
          clear A570
          by_cases c58 : 1 + t267.size ≤ 9223372036854775807
          ·rw [if_pos c58] at H
           have c58b0 := eq_true c58
           have c58b1 : decide (1 + t267.size ≤ 9223372036854775807) = true := decide_eq_true c58
           try have c58b2 : (9223372036854775807 < 1 + t267.size) = False := eq_false (Nat.not_lt.2 c58)
           by_cases c59 : ((⟨#[40]⟩ : ByteArray) ++ t267).size + 0 ≤ 9223372036854775807
           ·rw [if_pos c59] at H
            have c59b0 := eq_true c59
            have c59b1 : decide (((⟨#[40]⟩ : ByteArray) ++ t267).size + 0 ≤ 9223372036854775807) = true := decide_eq_true c59
            try have c59b2 : (9223372036854775807 < ((⟨#[40]⟩ : ByteArray) ++ t267).size + 0) = False := eq_false (Nat.not_lt.2 c59)
            try have c59b5 : (9223372036854775807 < 1 + t267.size) = False := eq_false (by have h_ := c59; simp only [ByteArray.size_append, ByteArray.size_extract, show (⟨#[40]⟩ : ByteArray).size = 1 from rfl] at h_; first | omega | (simp only [decide_eq_true_eq] at *; omega))
            by_cases c60 : 1 < (l0_2.length : Int)
            ·rw [if_pos c60] at H
             have c60b0 : decide (1 < (l0_2.length : Int)) = true := decide_eq_true c60
             have c60b1 : decide (1 < l0_2.length) = true := decide_eq_true (by omega)
             clear c60
             replace H := Option.bind_eq_some_iff.mp H
             obtain ⟨t269, A610, H⟩ := H
             replace H : (if (((⟨#[40]⟩ : ByteArray) ++ t267) ++ (⟨#[]⟩ : ByteArray)).size + t269.size ≤ 9223372036854775807 then (if ((((⟨#[40]⟩ : ByteArray) ++ t267) ++ (⟨#[]⟩ : ByteArray)) ++ t269).size + 1 ≤ 9223372036854775807 then (some (((((⟨#[40]⟩ : ByteArray) ++ t267) ++ (⟨#[]⟩ : ByteArray)) ++ t269) ++ (⟨#[41]⟩ : ByteArray))) else (none)) else (none)) = some r := H
             have A61 := Aside0.mk A610
             clear A610
             by_cases c62 : (((⟨#[40]⟩ : ByteArray) ++ t267) ++ (⟨#[]⟩ : ByteArray)).size + t269.size ≤ 9223372036854775807
             ·rw [if_pos c62] at H
              have c62b0 := eq_true c62
              have c62b1 : decide ((((⟨#[40]⟩ : ByteArray) ++ t267) ++ (⟨#[]⟩ : ByteArray)).size + t269.size ≤ 9223372036854775807) = true := decide_eq_true c62
              try have c62b2 : (9223372036854775807 < (((⟨#[40]⟩ : ByteArray) ++ t267) ++ (⟨#[]⟩ : ByteArray)).size + t269.size) = False := eq_false (Nat.not_lt.2 c62)
              try have c62b5 : (9223372036854775807 < 1 + t267.size + t269.size) = False := eq_false (by have h_ := c62; simp only [ByteArray.size_append, ByteArray.size_extract, show (⟨#[40]⟩ : ByteArray).size = 1 from rfl, show (⟨#[]⟩ : ByteArray).size = 0 from rfl] at h_; first | omega | (simp only [decide_eq_true_eq] at *; omega))
              by_cases c63 : ((((⟨#[40]⟩ : ByteArray) ++ t267) ++ (⟨#[]⟩ : ByteArray)) ++ t269).size + 1 ≤ 9223372036854775807
              ·rw [if_pos c63] at H
               have c63b0 := eq_true c63
               have c63b1 : decide (((((⟨#[40]⟩ : ByteArray) ++ t267) ++ (⟨#[]⟩ : ByteArray)) ++ t269).size + 1 ≤ 9223372036854775807) = true := decide_eq_true c63
               try have c63b2 : (9223372036854775807 < ((((⟨#[40]⟩ : ByteArray) ++ t267) ++ (⟨#[]⟩ : ByteArray)) ++ t269).size + 1) = False := eq_false (Nat.not_lt.2 c63)
               try have c63b5 : (9223372036854775807 < 1 + t267.size + t269.size + 1) = False := eq_false (by have h_ := c63; simp only [ByteArray.size_append, ByteArray.size_extract, show (⟨#[40]⟩ : ByteArray).size = 1 from rfl, show (⟨#[]⟩ : ByteArray).size = 0 from rfl] at h_; first | omega | (simp only [decide_eq_true_eq] at *; omega))
               obtain rfl := Option.some.inj H
               simp only [Option.some.injEq, Prod.mk.injEq] at H
               obtain ⟨rfl⟩ := H
               go_enter Try.func46, Try.ntmps46
               try go_wp2_with (first | ((with_reducible refine gate_dst (N := 1) rfl ?_); refine box_event ?hg (N := 1) ?hd (cs := #[.int .i64 a0_0, .string a0_1, .slice A0_2 l0_2.length c0_2]) (t := 29) ?hr ?_; (case hd => rfl); (case hg => rfl); (case hr => first | (go_simp; done) | (go_simp; rfl)); intro gb253 hg w64 hbox hb; have n0_ := Aside0.mk (below_step (by repeat (first | (with_reducible first | exact HB.out | apply below_alloc | apply pw_below_drewN | apply below_drew1) | exact HB.out)) hb); have n1_ := Aside0.mk (hbox); have n2_ := Aside0.mk ((by rw [hg]; exact (below_size (by repeat (first | (with_reducible first | exact HB.out | apply below_alloc | apply pw_below_drewN | apply below_drew1) | exact HB.out))) : w.heap.size ≤ gb253)); have n3_ := Aside0.mk ((by rw [hg]; exact (below_size (by repeat (first | (with_reducible first | exact HB.out | apply below_alloc | apply pw_below_drewN | apply below_drew1) | exact HB.out))) : w.heap.size ≤ gb253)); clear HB; have HB := n0_; have BK253 := n1_; have GW253 := n2_; have GE253 := n3_; clear n0_ n1_ n2_ n3_; clear hb hbox hg; have hcz65_0 : w64.cell? ⟨gb253, 0, none⟩ = some (.int .i64 a0_0) := (blk_cell BK253.out 0).trans rfl; have hcz65_1 : w64.cell? ⟨gb253, 1, none⟩ = some (.string a0_1) := (blk_cell BK253.out 1).trans rfl; have hcz65_2 : w64.cell? ⟨gb253, 2, none⟩ = some (.slice A0_2 l0_2.length c0_2) := (blk_cell BK253.out 2).trans rfl; have hfz65_0 := blk_frozen BK253.out 0; have hfz65_1 := blk_frozen BK253.out 1; have hfz65_2 := blk_frozen BK253.out 2))
               have n0_ := Aside0.mk (blk_drew BK253.out)
               have n1_ := Aside0.mk (below_drew1 HB.out)
               clear BK253 HB
               have BK253 := n0_; have HB := n1_
               clear n0_ n1_
               have p266 : 0 ≤ (0 : Int) := (by omega)
               have q266 : 0 < (l0_2.length : Int) := of_decide_eq_true (by first | (with_reducible assumption) | assumption)
               obtain ⟨ad266, A266_2, c266_2, e266, hx266_0, hx266_1, hx266_2, hl266_2, hi266_2⟩ := at_T29 HR0_2.out 0 p266 q266
               have hw266_2 := hx266_2
               (try rw [show ((0 : Int)).toNat = 0 from rfl] at hw266_2)
               (try rw [show 0 * 3 = 0 from rfl] at hw266_2)
               (try rw [Addr.add_zero'] at hw266_2)
               have hw266_1 := hx266_1
               (try rw [show ((0 : Int)).toNat = 0 from rfl] at hw266_1)
               (try rw [show 0 * 3 = 0 from rfl] at hw266_1)
               (try rw [Addr.add_zero'] at hw266_1)
               have hw266_0 := hx266_0
               (try rw [show ((0 : Int)).toNat = 0 from rfl] at hw266_0)
               (try rw [show 0 * 3 = 0 from rfl] at hw266_0)
               (try rw [Addr.add_zero'] at hw266_0)
               cases e266
               have qi266 : (0 < l0_2.length) = True := eq_true (by omega)
               (try rw [show ((0 : Int)).toNat = 0 from rfl] at hx266_0)
               (try rw [show 0 * 3 = 0 from rfl] at hx266_0)
               (try rw [Addr.add_zero'] at hx266_0)
               (try rw [show ((0 : Int)).toNat = 0 from rfl] at hx266_1)
               (try rw [show 0 * 3 = 0 from rfl] at hx266_1)
               (try rw [Addr.add_zero'] at hx266_1)
               (try rw [show ((0 : Int)).toNat = 0 from rfl] at hx266_2)
               (try rw [show 0 * 3 = 0 from rfl] at hx266_2)
               (try rw [Addr.add_zero'] at hx266_2)
               replace hx266_0 := (HB.out.cell (World.block_lt_of_cell? w _ hx266_0)).trans hx266_0
               replace hx266_1 := (HB.out.cell (World.block_lt_of_cell? w _ hx266_1)).trans hx266_1
               replace hx266_2 := (HB.out.cell (World.block_lt_of_cell? w _ hx266_2)).trans hx266_2
               have HR266_2 := Aside0.mk hi266_2
               have HC266_2 := Aside0.mk hl266_2
               clear hi266_2 hl266_2
               replace p266 := eq_true p266
               replace q266 := eq_true q266
               have p268 : 0 ≤ (1 : Int) := (by omega)
               have q268 : 1 < (l0_2.length : Int) := of_decide_eq_true (by first | (with_reducible assumption) | assumption)
               obtain ⟨ad268, A268_2, c268_2, e268, hx268_0, hx268_1, hx268_2, hl268_2, hi268_2⟩ := at_T29 HR0_2.out 1 p268 q268
               have hw268_2 := hx268_2
               (try rw [show ((1 : Int)).toNat = 1 from rfl] at hw268_2)
               (try rw [show 1 * 3 = 3 from rfl] at hw268_2)
               (try simp only [Nat.reduceMul, Nat.reduceEqDiff, Go.Addr.add, ↓reduceIte] at hw268_2)
               have hw268_1 := hx268_1
               (try rw [show ((1 : Int)).toNat = 1 from rfl] at hw268_1)
               (try rw [show 1 * 3 = 3 from rfl] at hw268_1)
               (try simp only [Nat.reduceMul, Nat.reduceEqDiff, Go.Addr.add, ↓reduceIte] at hw268_1)
               have hw268_0 := hx268_0
               (try rw [show ((1 : Int)).toNat = 1 from rfl] at hw268_0)
               (try rw [show 1 * 3 = 3 from rfl] at hw268_0)
               (try simp only [Nat.reduceMul, Nat.reduceEqDiff, Go.Addr.add, ↓reduceIte] at hw268_0)
               obtain rfl : ad266 = ad268 := (by injection e268)
               (try simp only [show (1 : Int).toNat = 1 from rfl, Nat.reduceMul, Nat.reduceEqDiff, Go.Addr.add, ↓reduceIte] at hx268_0)
               (try simp only [show (1 : Int).toNat = 1 from rfl, Nat.reduceMul, Nat.reduceEqDiff, Go.Addr.add, ↓reduceIte] at hx268_1)
               (try simp only [show (1 : Int).toNat = 1 from rfl, Nat.reduceMul, Nat.reduceEqDiff, Go.Addr.add, ↓reduceIte] at hx268_2)
               have qi268 : (1 < l0_2.length) = True := eq_true (by omega)
               (try rw [show ((1 : Int)).toNat = 1 from rfl] at hx268_0)
               (try rw [show 1 * 3 = 3 from rfl] at hx268_0)
               (try rw [show ((1 : Int)).toNat = 1 from rfl] at hx268_1)
               (try rw [show 1 * 3 = 3 from rfl] at hx268_1)
               (try rw [show ((1 : Int)).toNat = 1 from rfl] at hx268_2)
               (try rw [show 1 * 3 = 3 from rfl] at hx268_2)
               replace hx268_0 := (HB.out.cell (World.block_lt_of_cell? w _ hx268_0)).trans hx268_0
               replace hx268_1 := (HB.out.cell (World.block_lt_of_cell? w _ hx268_1)).trans hx268_1
               replace hx268_2 := (HB.out.cell (World.block_lt_of_cell? w _ hx268_2)).trans hx268_2
               have HR268_2 := Aside0.mk hi268_2
               have HC268_2 := Aside0.mk hl268_2
               clear hi268_2 hl268_2
               replace p268 := eq_true p268
               replace q268 := eq_true q268
               refine start_ (n := 16) (S := fun w' => w'.cell? ⟨gb253, 0, none⟩ = some (.int .i64 a0_0) ∧ w'.cell? ⟨gb253, 1, none⟩ = some (.string a0_1) ∧ w'.cell? ⟨gb253, 2, none⟩ = some (.slice (some ad266) l0_2.length c0_2) ∧ w'.cell? ad266 = some (.int .i64 ((rd_T29 l0_2 0).f0)) ∧ w'.cell? ⟨ad266.block, ad266.off + 1, none⟩ = some (.string ((rd_T29 l0_2 0).f1)) ∧ w'.cell? ⟨ad266.block, ad266.off + 2, none⟩ = some (.slice A266_2 ((rd_T29 l0_2 0).f2).length c266_2) ∧ w'.cell? ⟨ad266.block, ad266.off + 3, none⟩ = some (.int .i64 ((rd_T29 l0_2 1).f0)) ∧ w'.cell? ⟨ad266.block, ad266.off + 3 + 1, none⟩ = some (.string ((rd_T29 l0_2 1).f1)) ∧ w'.cell? ⟨ad266.block, ad266.off + 3 + 2, none⟩ = some (.slice A268_2 ((rd_T29 l0_2 1).f2).length c268_2)) (ds := []) (bl 16 0) (by kernel_rfl) rfl rfl ⟨(blk_cell BK253.out 0).trans rfl, (blk_cell BK253.out 1).trans rfl, (blk_cell BK253.out 2).trans rfl, ((HB.out.cell (World.block_lt_of_cell? w _ hw266_0)).trans hw266_0), ((HB.out.cell (World.block_lt_of_cell? w _ hw266_1)).trans hw266_1), ((HB.out.cell (World.block_lt_of_cell? w _ hw266_2)).trans hw266_2), ((HB.out.cell (World.block_lt_of_cell? w _ hw268_0)).trans hw268_0), ((HB.out.cell (World.block_lt_of_cell? w _ hw268_1)).trans hw268_1), ((HB.out.cell (World.block_lt_of_cell? w _ hw268_2)).trans hw268_2)⟩ (fun hHeld => ?_); refine with_tabW impl_regexText.tab20 impl_regexText.bits20 (fun HT_ HW_ => ?_)
               generalize w64.drew = w66 at BK253 HB HR266_2 HR268_2 hx266_0 hx266_1 hx266_2 hx268_0 hx268_1 hx268_2 hHeld ⊢
               refine pure_ (i := 0) (N := some 38) (v := ?_) (a' := ?_) (bl 16 1) rfl rfl (any_of HT_.out (by kernel_rfl)) (fun _ _ _ h => h) (Or.inl ⟨by rfl, ?_⟩) ?_ ?_
               rotate_left; (focus (intro w'; go_simp; with_reducible rfl)); rotate_left; (focus (simp only [pn_, sz_, ss_, i64_w, i32_w]; rfl))
               refine pure_ (i := 6) (N := some 44) (v := ?_) (a' := ?_) (bl 16 65) rfl rfl (any_of HT_.out (by kernel_rfl)) (fun _ _ _ h => h) (Or.inl ⟨by rfl, ?_⟩) ?_ ?_
               rotate_left; (focus (intro w'; go_simp; with_reducible rfl)); rotate_left; (focus (simp only [pn_, sz_, ss_, i64_w, i32_w]; rfl))
               refine pure_ (i := 8) (N := some 46) (v := ?_) (a' := ?_) (bl 16 321) rfl rfl (any_of HT_.out (by kernel_rfl)) (fun _ _ _ h => h) (Or.inl ⟨by rfl, ?_⟩) ?_ ?_
               rotate_left; (focus (intro w'; go_simp; with_reducible rfl)); rotate_left; (focus (simp only [pn_, sz_, ss_, i64_w, i32_w]; rfl))
               refine take_ (i := 1) (N := some 39) (v := ?_) (a' := ?_) (bl 16 323) rfl rfl (take_ofW HT_.out HW_.out (by kernel_rfl)) (fun _ _ _ h => h) (Or.inl ⟨by rfl, ?_⟩) hHeld ?_ ?_
               rotate_left; (focus (rintro w' ⟨s0, s1, s2, s3, s4, s5, s6, s7, s8⟩; go_simp; with_reducible rfl)); rotate_left; (focus (simp only [pn_, sz_, ss_, i64_w, i32_w]; rfl))
               refine pure_ (i := 2) (N := some 40) (v := ?_) (a' := ?_) (bl 16 327) rfl rfl (any_of HT_.out (by kernel_rfl)) (fun _ _ _ h => h) (Or.inl ⟨by rfl, ?_⟩) ?_ ?_
               rotate_left; (focus (intro w'; go_simp; with_reducible rfl)); rotate_left; (focus (simp only [pn_, sz_, ss_, i64_w, i32_w]; rfl))
               refine take_ (i := 3) (N := some 41) (v := ?_) (a' := ?_) (bl 16 335) rfl rfl (take_ofW HT_.out HW_.out (by kernel_rfl)) (fun _ _ _ h => h) (Or.inl ⟨by rfl, ?_⟩) hHeld ?_ ?_
               rotate_left; (focus (rintro w' ⟨s0, s1, s2, s3, s4, s5, s6, s7, s8⟩; go_simp; with_reducible rfl)); rotate_left; (focus (simp only [pn_, sz_, ss_, i64_w, i32_w]; rfl))
               refine take_ (i := 9) (N := some 47) (v := ?_) (a' := ?_) (bl 16 847) rfl rfl (take_ofW HT_.out HW_.out (by kernel_rfl)) (fun _ _ _ h => h) (Or.inl ⟨by rfl, ?_⟩) hHeld ?_ ?_
               rotate_left; (focus (rintro w' ⟨s0, s1, s2, s3, s4, s5, s6, s7, s8⟩; go_simp; with_reducible rfl)); rotate_left; (focus (simp only [pn_, sz_, ss_, i64_w, i32_w]; rfl))
               refine pure_ (i := 10) (N := some 48) (v := ?_) (a' := ?_) (bl 16 1871) rfl rfl (any_of HT_.out (by kernel_rfl)) (fun _ _ _ h => h) (Or.inl ⟨by rfl, ?_⟩) ?_ ?_
               rotate_left; (focus (intro w'; go_simp; with_reducible rfl)); rotate_left; (focus (simp only [pn_, sz_, ss_, i64_w, i32_w]; rfl))
               refine take_ (i := 11) (N := some 49) (v := ?_) (a' := ?_) (bl 16 3919) rfl rfl (take_ofW HT_.out HW_.out (by kernel_rfl)) (fun _ _ _ h => h) (Or.inl ⟨by rfl, ?_⟩) hHeld ?_ ?_
               rotate_left; (focus (rintro w' ⟨s0, s1, s2, s3, s4, s5, s6, s7, s8⟩; go_simp; with_reducible rfl)); rotate_left; (focus (simp only [pn_, sz_, ss_, i64_w, i32_w]; rfl))
               refine one_ (i := 4) (N := some 42) (bl 16 3935) rfl rfl (one_of HT_.out (by kernel_rfl)) (by decide) (fun K hK => ?_)
               refine goes_ Try.func46 (by kernel_rfl) rfl #[.agg #[.int .i64 ((rd_T29 l0_2 0).f0), .string ((rd_T29 l0_2 0).f1), .slice A266_2 ((rd_T29 l0_2 0).f2).length c266_2]] (by rfl) rfl rfl (by (try simp only [List.map_toArray, List.map_cons, List.map_nil]); first | done | rfl | (simp only [List.length_drop, List.length_take]; rfl)) ?_
               with_reducible refine (ih k (by omega) ((rd_T29 l0_2 0).f0) ((rd_T29 l0_2 0).f1) _ _ ((rd_T29 l0_2 0).f2) t267 _ ?side1 ?side2 A57.out).mono ?_
               (case side1 => repeat (first | exact (Kd.C_below HR266_2.out HB.out) | (with_reducible refine Kd.C_alloc ?_ _) | (with_reducible refine Kd.C_drewN ?_ _) | (with_reducible refine Kd.C_drew ?_)))
               (case side2 => exact HC266_2.out)
               rintro e w67 ⟨rfl, hb⟩
               refine ⟨_, rfl, ?_⟩
               have n0_ := Aside0.mk (blk_below (g := gb253) (o := .cells #[.int .i64 a0_0, .string a0_1, .slice (some ad266) l0_2.length c0_2] 29 (0, 0)) (by (with_reducible repeat (first | refine blk_drewN ?_ _ | refine blk_drew ?_ | refine blk_alloc ?_ _)); exact BK253.out) hb)
               have n1_ := Aside0.mk (below_step (by repeat (first | (with_reducible first | exact HB.out | apply below_alloc | apply pw_below_drewN | apply below_drew1 | refine below_set ?_ GE253.out) | exact HB.out)) hb)
               clear BK253 HB
               have BK253 := n0_; have HB := n1_
               clear n0_ n1_
               (try clear hb)
               (try clear hb2)
               (try clear hk)
               (try clear hi)
               refine hK.out _ _ ⟨(blk_cell BK253.out 0).trans rfl, (blk_cell BK253.out 1).trans rfl, (blk_cell BK253.out 2).trans rfl, ((HB.out.cell (World.block_lt_of_cell? w _ hw266_0)).trans hw266_0), ((HB.out.cell (World.block_lt_of_cell? w _ hw266_1)).trans hw266_1), ((HB.out.cell (World.block_lt_of_cell? w _ hw266_2)).trans hw266_2), ((HB.out.cell (World.block_lt_of_cell? w _ hw268_0)).trans hw268_0), ((HB.out.cell (World.block_lt_of_cell? w _ hw268_1)).trans hw268_1), ((HB.out.cell (World.block_lt_of_cell? w _ hw268_2)).trans hw268_2)⟩ (fun hHeld => ?_)
               clear hK K
               refine norm_ (a' := ?_) ?_ ?_
               rotate_left
               ·show Act.put _ (some 42) _ = _
                simp only [pn_, sz_, ss_, i64_w, i32_w]
                rfl
               refine pure_ (i := 5) (N := some 43) (v := ?_) (a' := ?_) (bl 16 3967) rfl rfl (any_of HT_.out (by kernel_rfl)) (fun _ _ _ h => h) (Or.inl ⟨by rfl, ?_⟩) ?_ ?_
               rotate_left; (focus (intro w'; go_simp; with_reducible rfl)); rotate_left; (focus (simp only [pn_, sz_, ss_, i64_w, i32_w]; rfl))
               refine pure_ (i := 7) (N := some 45) (v := ?_) (a' := ?_) (bl 16 4095) rfl rfl (any_of HT_.out (by kernel_rfl)) (fun _ _ _ h => h) (Or.inl ⟨by rfl, ?_⟩) ?_ ?_
               rotate_left; (focus (intro w'; go_simp; with_reducible rfl)); rotate_left; (focus (simp only [pn_, sz_, ss_, i64_w, i32_w]; rfl))
               refine one_ (i := 12) (N := some 50) (bl 16 8191) rfl rfl (one_of HT_.out (by kernel_rfl)) (by decide) (fun K hK => ?_)
               refine goes_ Try.func46 (by kernel_rfl) rfl #[.agg #[.int .i64 ((rd_T29 l0_2 1).f0), .string ((rd_T29 l0_2 1).f1), .slice A268_2 ((rd_T29 l0_2 1).f2).length c268_2]] (by rfl) rfl rfl (by (try simp only [List.map_toArray, List.map_cons, List.map_nil]); first | done | rfl | (simp only [List.length_drop, List.length_take]; rfl)) ?_
               with_reducible refine (ih k (by omega) ((rd_T29 l0_2 1).f0) ((rd_T29 l0_2 1).f1) _ _ ((rd_T29 l0_2 1).f2) t269 _ ?side1 ?side2 A61.out).mono ?_
               (case side1 => repeat (first | exact (Kd.C_below HR268_2.out HB.out) | (with_reducible refine Kd.C_alloc ?_ _) | (with_reducible refine Kd.C_drewN ?_ _) | (with_reducible refine Kd.C_drew ?_)))
               (case side2 => exact HC268_2.out)
               rintro e w68 ⟨rfl, hb⟩
               refine ⟨_, rfl, ?_⟩
               have n0_ := Aside0.mk (blk_below (g := gb253) (o := .cells #[.int .i64 a0_0, .string a0_1, .slice (some ad266) l0_2.length c0_2] 29 (0, 0)) (by (with_reducible repeat (first | refine blk_drewN ?_ _ | refine blk_drew ?_ | refine blk_alloc ?_ _)); exact BK253.out) hb)
               have n1_ := Aside0.mk (below_step (by repeat (first | (with_reducible first | exact HB.out | apply below_alloc | apply pw_below_drewN | apply below_drew1 | refine below_set ?_ GE253.out) | exact HB.out)) hb)
               clear BK253 HB
               have BK253 := n0_; have HB := n1_
               clear n0_ n1_
               (try clear hb)
               (try clear hb2)
               (try clear hk)
               (try clear hi)
               refine hK.out _ _ ⟨(blk_cell BK253.out 0).trans rfl, (blk_cell BK253.out 1).trans rfl, (blk_cell BK253.out 2).trans rfl, ((HB.out.cell (World.block_lt_of_cell? w _ hw266_0)).trans hw266_0), ((HB.out.cell (World.block_lt_of_cell? w _ hw266_1)).trans hw266_1), ((HB.out.cell (World.block_lt_of_cell? w _ hw266_2)).trans hw266_2), ((HB.out.cell (World.block_lt_of_cell? w _ hw268_0)).trans hw268_0), ((HB.out.cell (World.block_lt_of_cell? w _ hw268_1)).trans hw268_1), ((HB.out.cell (World.block_lt_of_cell? w _ hw268_2)).trans hw268_2)⟩ (fun hHeld => ?_)
               clear hK K
               refine norm_ (a' := ?_) ?_ ?_
               rotate_left
               ·show Act.put _ (some 50) _ = _
                simp only [pn_, sz_, ss_, i64_w, i32_w]
                rfl
               refine pure_ (i := 13) (N := some 51) (v := ?_) (a' := ?_) (bl 16 16383) rfl rfl (any_of HT_.out (by kernel_rfl)) (fun _ _ _ h => h) (Or.inl ⟨by rfl, ?_⟩) ?_ ?_
               rotate_left; (focus (intro w'; go_simp; with_reducible rfl)); rotate_left; (focus (simp only [pn_, sz_, ss_, i64_w, i32_w]; rfl))
               refine pure_ (i := 14) (N := some 52) (v := ?_) (a' := ?_) (bl 16 32767) rfl rfl (any_of HT_.out (by kernel_rfl)) (fun _ _ _ h => h) (Or.inl ⟨by rfl, ?_⟩) ?_ ?_
               rotate_left; (focus (intro w'; go_simp; with_reducible rfl)); rotate_left; (focus (simp only [pn_, sz_, ss_, i64_w, i32_w]; rfl))
               refine pure_ (i := 15) (N := some 2) (v := ?_) (a' := ?_) (bl 16 65535) rfl rfl (any_of HT_.out (by kernel_rfl)) (fun _ _ _ h => h) (Or.inl ⟨by rfl, ?_⟩) ?_ ?_
               rotate_left; (focus (intro w'; go_simp; with_reducible rfl)); rotate_left; (focus (simp only [pn_, sz_, ss_, i64_w, i32_w]; rfl))
               refine done_ (done_of HT_.out (by kernel_rfl)) ?_
               try go_wp2
               go_ret
               exact ⟨by first | rfl | (simp [errW_none, errW_some] <;> rfl) | (simp [*, errW_none, errW_some] <;> rfl), by repeat (first | (with_reducible first | exact HB.out | apply below_alloc | apply pw_below_drewN | apply below_drew1 | refine below_set ?_ GE253.out) | exact HB.out)⟩
              ·rw [if_neg c63] at H
               exact absurd H (by simp)
             ·rw [if_neg c62] at H
              exact absurd H (by simp)
            ·rw [if_neg c60] at H
             exact absurd H (by simp)
           ·rw [if_neg c59] at H
            exact absurd H (by simp)
          ·rw [if_neg c58] at H
           exact absurd H (by simp)
         ·rw [if_neg c56] at H
          exact absurd H (by simp)
-- OWNPART

end Go.Proofs.Ytldgkgdgcfllmaa.P
