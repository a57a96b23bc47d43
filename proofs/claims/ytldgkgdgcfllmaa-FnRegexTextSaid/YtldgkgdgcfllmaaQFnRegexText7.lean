/- Texts of the proof of FnRegexText, put together. No condition. -/
import Derived.Test.YtldgkgdgcfllmaaQFnRegexText3
import Derived.Test.YtldgkgdgcfllmaaQFnRegexText2
section
namespace Go.Proofs.Ytldgkgdgcfllmaa.P
open Go.RowKit Go.Proofs.YtldgkgdgcfllmaaW.PrintWords Go.Proofs.YtldgkgdgcfllmaaW.PrintLast Go.Proofs.YtldgkgdgcfllmaaW.PrintMore
attribute [local go_sem] max2_int min2_int max_two min_two max_three min_three max_four min_four
set_option linter.unusedVariables false
set_option linter.unusedSimpArgs false
def impl_regexText.f : Nat → Int → ByteArray → List (S29) → Option (ByteArray)
  | 0, _, _, _ => none
  | k + 1, a0_0, a0_1, l0_2 => if a0_0 = 1 then (some (⟨#[48]⟩ : ByteArray)) else (if a0_0 = 2 then (some (⟨#[49]⟩ : ByteArray)) else (if a0_0 = 3 then (some a0_1) else (if a0_0 = 4 then (some (⟨#[46]⟩ : ByteArray)) else (if a0_0 = 8 then (if 0 < (l0_2.length : Int) then ((impl_regexText.f k ((rd_T29 l0_2 0).f0) ((rd_T29 l0_2 0).f1) ((rd_T29 l0_2 0).f2)).bind fun bh => (if 1 + bh.size ≤ 9223372036854775807 then (some ((⟨#[42]⟩ : ByteArray) ++ bh)) else (none))) else (none)) else (if a0_0 = 9 then (if 0 < (l0_2.length : Int) then ((impl_regexText.f k ((rd_T29 l0_2 0).f0) ((rd_T29 l0_2 0).f1) ((rd_T29 l0_2 0).f2)).bind fun bi => (if 1 + bi.size ≤ 9223372036854775807 then (some ((⟨#[33]⟩ : ByteArray) ++ bi)) else (none))) else (none)) else (if a0_0 = 6 then (if 0 < (l0_2.length : Int) then ((impl_regexText.f k ((rd_T29 l0_2 0).f0) ((rd_T29 l0_2 0).f1) ((rd_T29 l0_2 0).f2)).bind fun ae => (if 1 + ae.size ≤ 9223372036854775807 then (if ((⟨#[40]⟩ : ByteArray) ++ ae).size + 1 ≤ 9223372036854775807 then (if 1 < (l0_2.length : Int) then ((impl_regexText.f k ((rd_T29 l0_2 1).f0) ((rd_T29 l0_2 1).f1) ((rd_T29 l0_2 1).f2)).bind fun ah => (if (((⟨#[40]⟩ : ByteArray) ++ ae) ++ (⟨#[124]⟩ : ByteArray)).size + ah.size ≤ 9223372036854775807 then (if ((((⟨#[40]⟩ : ByteArray) ++ ae) ++ (⟨#[124]⟩ : ByteArray)) ++ ah).size + 1 ≤ 9223372036854775807 then (some (((((⟨#[40]⟩ : ByteArray) ++ ae) ++ (⟨#[124]⟩ : ByteArray)) ++ ah) ++ (⟨#[41]⟩ : ByteArray))) else (none)) else (none))) else (none)) else (none)) else (none))) else (none)) else (if a0_0 = 7 then (if 0 < (l0_2.length : Int) then ((impl_regexText.f k ((rd_T29 l0_2 0).f0) ((rd_T29 l0_2 0).f1) ((rd_T29 l0_2 0).f2)).bind fun af => (if 1 + af.size ≤ 9223372036854775807 then (if ((⟨#[40]⟩ : ByteArray) ++ af).size + 1 ≤ 9223372036854775807 then (if 1 < (l0_2.length : Int) then ((impl_regexText.f k ((rd_T29 l0_2 1).f0) ((rd_T29 l0_2 1).f1) ((rd_T29 l0_2 1).f2)).bind fun ai => (if (((⟨#[40]⟩ : ByteArray) ++ af) ++ (⟨#[38]⟩ : ByteArray)).size + ai.size ≤ 9223372036854775807 then (if ((((⟨#[40]⟩ : ByteArray) ++ af) ++ (⟨#[38]⟩ : ByteArray)) ++ ai).size + 1 ≤ 9223372036854775807 then (some (((((⟨#[40]⟩ : ByteArray) ++ af) ++ (⟨#[38]⟩ : ByteArray)) ++ ai) ++ (⟨#[41]⟩ : ByteArray))) else (none)) else (none))) else (none)) else (none)) else (none))) else (none)) else (if 0 < (l0_2.length : Int) then ((impl_regexText.f k ((rd_T29 l0_2 0).f0) ((rd_T29 l0_2 0).f1) ((rd_T29 l0_2 0).f2)).bind fun ag => (if 1 + ag.size ≤ 9223372036854775807 then (if ((⟨#[40]⟩ : ByteArray) ++ ag).size + 0 ≤ 9223372036854775807 then (if 1 < (l0_2.length : Int) then ((impl_regexText.f k ((rd_T29 l0_2 1).f0) ((rd_T29 l0_2 1).f1) ((rd_T29 l0_2 1).f2)).bind fun aj => (if (((⟨#[40]⟩ : ByteArray) ++ ag) ++ (⟨#[]⟩ : ByteArray)).size + aj.size ≤ 9223372036854775807 then (if ((((⟨#[40]⟩ : ByteArray) ++ ag) ++ (⟨#[]⟩ : ByteArray)) ++ aj).size + 1 ≤ 9223372036854775807 then (some (((((⟨#[40]⟩ : ByteArray) ++ ag) ++ (⟨#[]⟩ : ByteArray)) ++ aj) ++ (⟨#[41]⟩ : ByteArray))) else (none)) else (none))) else (none)) else (none)) else (none))) else (none)))))))))
theorem impl_regexText.mono_l : ∀ k, (∀ y0 y1 y2, LeO (impl_regexText.f k y0 y1 y2) (impl_regexText.f (k + 1) y0 y1 y2))
 | 0 => fun _ _ _ r h => by simp [impl_regexText.f] at h
 | k + 1 => by
  have ih0 := impl_regexText.mono_l k
  ·intro y0 y1 y2
   unfold impl_regexText.f
   repeat' first
   | (with_reducible exact ih0 _ _ _)
   | (with_reducible exact LeO.refl _)
   | (with_reducible exact LeO.none _)
   | (with_reducible refine LeO.ite ?_ ?_)
   | (with_reducible refine LeO.bind ?_ (fun _ => ?_))
   | exact ih0 _ _ _
   | exact LeO.none _
   | refine LeO.ite ?_ ?_
   | refine LeO.bind ?_ (fun _ => ?_)
theorem impl_regexText.mono : ∀ a0 a1 a2 k, LeO (impl_regexText.f k a0 a1 a2) (impl_regexText.f (k + 1) a0 a1 a2) := by
 intro a0 a1 a2 k
 have ih0 := impl_regexText.mono_l k
 exact ih0 a0 a1 a2
def impl_regexText.T20 : Bool × List (List Nat × List Nat) := (true, [([], []), ([0], [0]), ([1], [1]), ([2], [2]), ([3], [3]), ([4], [4]), ([], []), ([5, 6], [5, 6]), ([], []), ([8], [8]), ([9], [9]), ([10], [10]), ([11, 4], [11]), ([7, 12], [7, 12]), ([13], [13]), ([14, 12, 0, 1, 2, 3, 4, 5, 6, 7, 8, 9, 10, 11, 12, 13, 14], [14])])
def impl_regexText.B20 : List Nat := [0, 1, 3, 7, 15, 31, 0, 127, 0, 256, 768, 1792, 3871, 8191, 16383, 32767]
theorem impl_regexText.tab20 : rtab .any (opsOf Try.f46 20) = impl_regexText.T20 := by kernel_rfl
theorem impl_regexText.bits20 : waitsOk impl_regexText.T20.2 impl_regexText.B20 = true := by kernel_rfl
theorem zp18_0_ {p q g1 : Prop} (h : p) (h1 : g1) (c : p → g1 → q := by intro h_ h1_; repeat (first | (with_reducible first | exact h_ | apply below_alloc | apply pw_below_drewN | apply below_drew1 | refine below_set ?_ h1_) | exact h_)) : q := c h h1
set_option maxHeartbeats 8000000 in
set_option maxRecDepth 100000 in
theorem impl_regexText.calls (k : Nat) : ∀ (a0_0 : Int) (a0_1 : ByteArray) (A0_2 : Option Addr) (c0_2 : Nat) (l0_2 : List (S29)) (r : ByteArray) (w : World) (hr0_2 : Kd.C k29 w A0_2 l0_2.length l0_2) (hc0_2 : l0_2.length ≤ c0_2) (h : impl_regexText.f k a0_0 a0_1 l0_2 = some r),
  Calls Try.prog 46 #[.agg #[.int .i64 a0_0, .string a0_1, .slice A0_2 l0_2.length c0_2]] w fun e w' => e = .returned (.string r) ∧ Below w.heap.size w w' := by
 induction k using Nat.strongRecOn with
 | _ k ih =>
 intro a0_0 a0_1 A0_2 c0_2 l0_2 r w hr0_2 hc0_2 h
 cases k with
 | zero => exact absurd h (by simp [impl_regexText.f])
 | succ k =>
 simp only [impl_regexText.f] at h
 have hu29 := Try.underlying29
 have bf := am_ hr0_2
 have cP := am_ hc0_2
 clear hr0_2 hc0_2
 have HB := am_ (Below.refl w.heap.size w)
 have H : (if a0_0 = 1 then (some (⟨#[48]⟩ : ByteArray)) else (if a0_0 = 2 then (some (⟨#[49]⟩ : ByteArray)) else (if a0_0 = 3 then (some a0_1) else (if a0_0 = 4 then (some (⟨#[46]⟩ : ByteArray)) else (if a0_0 = 8 then (if 0 < (l0_2.length : Int) then ((impl_regexText.f k ((rd_T29 l0_2 0).f0) ((rd_T29 l0_2 0).f1) ((rd_T29 l0_2 0).f2)).bind fun bh => (if 1 + bh.size ≤ 9223372036854775807 then (some ((⟨#[42]⟩ : ByteArray) ++ bh)) else (none))) else (none)) else (if a0_0 = 9 then (if 0 < (l0_2.length : Int) then ((impl_regexText.f k ((rd_T29 l0_2 0).f0) ((rd_T29 l0_2 0).f1) ((rd_T29 l0_2 0).f2)).bind fun bi => (if 1 + bi.size ≤ 9223372036854775807 then (some ((⟨#[33]⟩ : ByteArray) ++ bi)) else (none))) else (none)) else (if a0_0 = 6 then (if 0 < (l0_2.length : Int) then ((impl_regexText.f k ((rd_T29 l0_2 0).f0) ((rd_T29 l0_2 0).f1) ((rd_T29 l0_2 0).f2)).bind fun ae => (if 1 + ae.size ≤ 9223372036854775807 then (if ((⟨#[40]⟩ : ByteArray) ++ ae).size + 1 ≤ 9223372036854775807 then (if 1 < (l0_2.length : Int) then ((impl_regexText.f k ((rd_T29 l0_2 1).f0) ((rd_T29 l0_2 1).f1) ((rd_T29 l0_2 1).f2)).bind fun ah => (if (((⟨#[40]⟩ : ByteArray) ++ ae) ++ (⟨#[124]⟩ : ByteArray)).size + ah.size ≤ 9223372036854775807 then (if ((((⟨#[40]⟩ : ByteArray) ++ ae) ++ (⟨#[124]⟩ : ByteArray)) ++ ah).size + 1 ≤ 9223372036854775807 then (some (((((⟨#[40]⟩ : ByteArray) ++ ae) ++ (⟨#[124]⟩ : ByteArray)) ++ ah) ++ (⟨#[41]⟩ : ByteArray))) else (none)) else (none))) else (none)) else (none)) else (none))) else (none)) else (if a0_0 = 7 then (if 0 < (l0_2.length : Int) then ((impl_regexText.f k ((rd_T29 l0_2 0).f0) ((rd_T29 l0_2 0).f1) ((rd_T29 l0_2 0).f2)).bind fun af => (if 1 + af.size ≤ 9223372036854775807 then (if ((⟨#[40]⟩ : ByteArray) ++ af).size + 1 ≤ 9223372036854775807 then (if 1 < (l0_2.length : Int) then ((impl_regexText.f k ((rd_T29 l0_2 1).f0) ((rd_T29 l0_2 1).f1) ((rd_T29 l0_2 1).f2)).bind fun ai => (if (((⟨#[40]⟩ : ByteArray) ++ af) ++ (⟨#[38]⟩ : ByteArray)).size + ai.size ≤ 9223372036854775807 then (if ((((⟨#[40]⟩ : ByteArray) ++ af) ++ (⟨#[38]⟩ : ByteArray)) ++ ai).size + 1 ≤ 9223372036854775807 then (some (((((⟨#[40]⟩ : ByteArray) ++ af) ++ (⟨#[38]⟩ : ByteArray)) ++ ai) ++ (⟨#[41]⟩ : ByteArray))) else (none)) else (none))) else (none)) else (none)) else (none))) else (none)) else (if 0 < (l0_2.length : Int) then ((impl_regexText.f k ((rd_T29 l0_2 0).f0) ((rd_T29 l0_2 0).f1) ((rd_T29 l0_2 0).f2)).bind fun ag => (if 1 + ag.size ≤ 9223372036854775807 then (if ((⟨#[40]⟩ : ByteArray) ++ ag).size + 0 ≤ 9223372036854775807 then (if 1 < (l0_2.length : Int) then ((impl_regexText.f k ((rd_T29 l0_2 1).f0) ((rd_T29 l0_2 1).f1) ((rd_T29 l0_2 1).f2)).bind fun aj => (if (((⟨#[40]⟩ : ByteArray) ++ ag) ++ (⟨#[]⟩ : ByteArray)).size + aj.size ≤ 9223372036854775807 then (if ((((⟨#[40]⟩ : ByteArray) ++ ag) ++ (⟨#[]⟩ : ByteArray)) ++ aj).size + 1 ≤ 9223372036854775807 then (some (((((⟨#[40]⟩ : ByteArray) ++ ag) ++ (⟨#[]⟩ : ByteArray)) ++ aj) ++ (⟨#[41]⟩ : ByteArray))) else (none)) else (none))) else (none)) else (none)) else (none))) else (none)))))))))) = some r := h
 clear h
 by_cases c2 : a0_0 = 1
 ·rw [if_pos c2] at H
  have c2b0 : (a0_0 == 1) = true := beq_iff_eq.mpr c2
  have c2b1 : (a0_0 != 1) = false := bne_eq_false_iff_eq.mpr c2
  clear c2
  obtain rfl := Option.some.inj H
  simp only [Option.some.injEq, Prod.mk.injEq] at H
  obtain ⟨rfl⟩ := H
  go_enter Try.func46, Try.ntmps46
  go_wp2_with (first | ((with_reducible refine gate_dst (N := 1) rfl ?_); refine box_event ?hg (N := 1) ?hd (cs := #[.int .i64 a0_0, .string a0_1, .slice A0_2 l0_2.length c0_2]) (t := 29) ?hr ?_; (case hd => rfl); (case hg => rfl); (case hr => first | (go_simp; done) | (go_simp; rfl)); intro ab hg w3 hbox hb; replace aa := am_ (hbox); replace bg := am_ ((by rw [hg]; exact (below_size (b0_ HB.out)) : w.heap.size ≤ ab)); replace ad := am_ ((by rw [hg]; exact (below_size (b0_ HB.out)) : w.heap.size ≤ ab)); replace HB := am_ (below_step (b0_ HB.out) hb); clear hb hbox hg; have cD := ck_ (v := (.int .i64 a0_0)) aa 0 rfl; have cE := ck_ (v := (.string a0_1)) aa 1 rfl; have cF := ck_ (v := (.slice A0_2 l0_2.length c0_2)) aa 2 rfl; have cG := blk_frozen aa.out 0; have cH := blk_frozen aa.out 1; have cI := blk_frozen aa.out 2))
  go_ret
  exact ⟨by first | rfl | (simp [errW_none, errW_some] <;> rfl) | (simp [*, errW_none, errW_some] <;> rfl), by exact zp18_0_ HB.out ad.out⟩
 ·rw [if_neg c2] at H
  have c2b0 : (a0_0 == 1) = false := beq_eq_false_iff_ne.mpr c2
  have c2b1 : (a0_0 != 1) = true := bne_iff_ne.mpr c2
  by_cases c5 : a0_0 = 2
  ·rw [if_pos c5] at H
   have c5b0 : (a0_0 == 2) = true := beq_iff_eq.mpr c5
   have c5b1 : (a0_0 != 2) = false := bne_eq_false_iff_eq.mpr c5
   clear c5
   obtain rfl := Option.some.inj H
   simp only [Option.some.injEq, Prod.mk.injEq] at H
   obtain ⟨rfl⟩ := H
   go_enter Try.func46, Try.ntmps46
   go_wp2_with (first | ((with_reducible refine gate_dst (N := 1) rfl ?_); refine box_event ?hg (N := 1) ?hd (cs := #[.int .i64 a0_0, .string a0_1, .slice A0_2 l0_2.length c0_2]) (t := 29) ?hr ?_; (case hd => rfl); (case hg => rfl); (case hr => first | (go_simp; done) | (go_simp; rfl)); intro ab hg w6 hbox hb; replace aa := am_ (hbox); replace bg := am_ ((by rw [hg]; exact (below_size (b0_ HB.out)) : w.heap.size ≤ ab)); replace ad := am_ ((by rw [hg]; exact (below_size (b0_ HB.out)) : w.heap.size ≤ ab)); replace HB := am_ (below_step (b0_ HB.out) hb); clear hb hbox hg; have cJ := ck_ (v := (.int .i64 a0_0)) aa 0 rfl; have cK := ck_ (v := (.string a0_1)) aa 1 rfl; have cL := ck_ (v := (.slice A0_2 l0_2.length c0_2)) aa 2 rfl; have cM := blk_frozen aa.out 0; have cN := blk_frozen aa.out 1; have cO := blk_frozen aa.out 2))
   go_ret
   exact ⟨by first | rfl | (simp [errW_none, errW_some] <;> rfl) | (simp [*, errW_none, errW_some] <;> rfl), by exact zp18_0_ HB.out ad.out⟩
  ·rw [if_neg c5] at H
   have c5b0 : (a0_0 == 2) = false := beq_eq_false_iff_ne.mpr c5
   have c5b1 : (a0_0 != 2) = true := bne_iff_ne.mpr c5
   by_cases c8 : a0_0 = 3
   ·rw [if_pos c8] at H
    have c8b0 : (a0_0 == 3) = true := beq_iff_eq.mpr c8
    have c8b1 : (a0_0 != 3) = false := bne_eq_false_iff_eq.mpr c8
    clear c8
    obtain rfl := Option.some.inj H
    simp only [Option.some.injEq, Prod.mk.injEq] at H
    obtain ⟨rfl⟩ := H
    go_enter Try.func46, Try.ntmps46
    go_wp2_with (first | ((with_reducible refine gate_dst (N := 1) rfl ?_); refine box_event ?hg (N := 1) ?hd (cs := #[.int .i64 a0_0, .string a0_1, .slice A0_2 l0_2.length c0_2]) (t := 29) ?hr ?_; (case hd => rfl); (case hg => rfl); (case hr => first | (go_simp; done) | (go_simp; rfl)); intro ab hg w9 hbox hb; replace aa := am_ (hbox); replace bg := am_ ((by rw [hg]; exact (below_size (b0_ HB.out)) : w.heap.size ≤ ab)); replace ad := am_ ((by rw [hg]; exact (below_size (b0_ HB.out)) : w.heap.size ≤ ab)); replace HB := am_ (below_step (b0_ HB.out) hb); clear hb hbox hg; have bM := ck_ (v := (.int .i64 a0_0)) aa 0 rfl; have bN := ck_ (v := (.string a0_1)) aa 1 rfl; have bO := ck_ (v := (.slice A0_2 l0_2.length c0_2)) aa 2 rfl; have bP := blk_frozen aa.out 0; have bQ := blk_frozen aa.out 1; have bR := blk_frozen aa.out 2))
    go_ret
    exact ⟨by first | rfl | (simp [errW_none, errW_some] <;> rfl) | (simp [*, errW_none, errW_some] <;> rfl), by exact zp18_0_ HB.out ad.out⟩
   ·rw [if_neg c8] at H
    have c8b0 : (a0_0 == 3) = false := beq_eq_false_iff_ne.mpr c8
    have c8b1 : (a0_0 != 3) = true := bne_iff_ne.mpr c8
    by_cases c11 : a0_0 = 4
    ·rw [if_pos c11] at H
     have c11b0 : (a0_0 == 4) = true := beq_iff_eq.mpr c11
     have c11b1 : (a0_0 != 4) = false := bne_eq_false_iff_eq.mpr c11
     clear c11
     obtain rfl := Option.some.inj H
     simp only [Option.some.injEq, Prod.mk.injEq] at H
     obtain ⟨rfl⟩ := H
     go_enter Try.func46, Try.ntmps46
     go_wp2_with (first | ((with_reducible refine gate_dst (N := 1) rfl ?_); refine box_event ?hg (N := 1) ?hd (cs := #[.int .i64 a0_0, .string a0_1, .slice A0_2 l0_2.length c0_2]) (t := 29) ?hr ?_; (case hd => rfl); (case hg => rfl); (case hr => first | (go_simp; done) | (go_simp; rfl)); intro ab hg w12 hbox hb; replace aa := am_ (hbox); replace bg := am_ ((by rw [hg]; exact (below_size (b0_ HB.out)) : w.heap.size ≤ ab)); replace ad := am_ ((by rw [hg]; exact (below_size (b0_ HB.out)) : w.heap.size ≤ ab)); replace HB := am_ (below_step (b0_ HB.out) hb); clear hb hbox hg; have bS := ck_ (v := (.int .i64 a0_0)) aa 0 rfl; have bT := ck_ (v := (.string a0_1)) aa 1 rfl; have bU := ck_ (v := (.slice A0_2 l0_2.length c0_2)) aa 2 rfl; have bV := blk_frozen aa.out 0; have bW := blk_frozen aa.out 1; have bX := blk_frozen aa.out 2))
     go_ret
     exact ⟨by first | rfl | (simp [errW_none, errW_some] <;> rfl) | (simp [*, errW_none, errW_some] <;> rfl), by exact zp18_0_ HB.out ad.out⟩
    ·rw [if_neg c11] at H
     have c11b0 : (a0_0 == 4) = false := beq_eq_false_iff_ne.mpr c11
     have c11b1 : (a0_0 != 4) = true := bne_iff_ne.mpr c11
     by_cases c14 : a0_0 = 8
     ·rw [if_pos c14] at H
      have c14b0 : (a0_0 == 8) = true := beq_iff_eq.mpr c14
      have c14b1 : (a0_0 != 8) = false := bne_eq_false_iff_eq.mpr c14
      clear c14
      by_cases c15 : 0 < (l0_2.length : Int)
      ·rw [if_pos c15] at H
       have c15b0 : decide (0 < (l0_2.length : Int)) = true := decide_eq_true c15
       have c15b1 : decide (0 < l0_2.length) = true := decide_eq_true (by omega)
       clear c15
       replace H := Option.bind_eq_some_iff.mp H
       obtain ⟨bh, bB, H⟩ := H
       have A16 := am_ bB
       clear bB
       by_cases c17 : 1 + bh.size ≤ 9223372036854775807
       ·rw [if_pos c17] at H
        have c17b0 := eq_true c17
        have c17b1 : decide (1 + bh.size ≤ 9223372036854775807) = true := decide_eq_true c17
        try have c17b2 : (9223372036854775807 < 1 + bh.size) = False := eq_false (Nat.not_lt.2 c17)
        obtain rfl := Option.some.inj H
        simp only [Option.some.injEq, Prod.mk.injEq] at H
        obtain ⟨rfl⟩ := H
        go_enter Try.func46, Try.ntmps46
        go_wp2_with (first | ((with_reducible refine gate_dst (N := 1) rfl ?_); refine box_event ?hg (N := 1) ?hd (cs := #[.int .i64 a0_0, .string a0_1, .slice A0_2 l0_2.length c0_2]) (t := 29) ?hr ?_; (case hd => rfl); (case hg => rfl); (case hr => first | (go_simp; done) | (go_simp; rfl)); intro ab hg w18 hbox hb; replace aa := am_ (hbox); replace bg := am_ ((by rw [hg]; exact (below_size (b0_ HB.out)) : w.heap.size ≤ ab)); replace ad := am_ ((by rw [hg]; exact (below_size (b0_ HB.out)) : w.heap.size ≤ ab)); replace HB := am_ (below_step (b0_ HB.out) hb); clear hb hbox hg; have bY := ck_ (v := (.int .i64 a0_0)) aa 0 rfl; have bZ := ck_ (v := (.string a0_1)) aa 1 rfl; have ca := ck_ (v := (.slice A0_2 l0_2.length c0_2)) aa 2 rfl; have cb := blk_frozen aa.out 0; have cc := blk_frozen aa.out 1; have cd := blk_frozen aa.out 2; have p265 : 0 ≤ (0 : Int) := (by omega); have q265 : 0 < (l0_2.length : Int) := of_decide_eq_true ah_; obtain ⟨cQ, A265_2, c265_2, e265, aZ, ba, bb, hl265_2, hi265_2⟩ := at_T29 bf.out 0 p265 q265; cases e265; have qi265 : (0 < l0_2.length) = True := eq_true (by omega); (try rw [show ((0 : Int)).toNat = 0 from rfl] at aZ); (try rw [show 0 * 3 = 0 from rfl] at aZ); (try rw [Addr.add_zero'] at aZ); (try rw [show ((0 : Int)).toNat = 0 from rfl] at ba); (try rw [show 0 * 3 = 0 from rfl] at ba); (try rw [Addr.add_zero'] at ba); (try rw [show ((0 : Int)).toNat = 0 from rfl] at bb); (try rw [show 0 * 3 = 0 from rfl] at bb); (try rw [Addr.add_zero'] at bb); replace aZ := (HB.out.cell (World.block_lt_of_cell? w _ aZ)).trans aZ; replace ba := (HB.out.cell (World.block_lt_of_cell? w _ ba)).trans ba; replace bb := (HB.out.cell (World.block_lt_of_cell? w _ bb)).trans bb; have bq := am_ hi265_2; have br := am_ hl265_2; clear hi265_2 hl265_2; replace p265 := eq_true p265; replace q265 := eq_true q265) | ((with_reducible refine gate_callee (f := 46) rfl ?_); refine gL_ (some 22) Try.func46 #[.agg #[.int .i64 ((rd_T29 l0_2 0).f0), .string ((rd_T29 l0_2 0).f1), .slice A265_2 ((rd_T29 l0_2 0).f2).length c265_2]] ?_; (with_reducible refine (ih k (by omega) ((rd_T29 l0_2 0).f0) ((rd_T29 l0_2 0).f1) _ _ ((rd_T29 l0_2 0).f2) bh _ ?side1 ?side2 A16.out).mono ?_); (case side1 => exact rc_ (Kd.C_below bq.out HB.out)); (case side2 => exact br.out); rintro e w20 ⟨rfl, hb⟩; refine ⟨_, rfl, ?_⟩; have n0_ := am_ (blk_below (rb_ aa.out) hb); have n1_ := am_ (below_step (b1_ HB.out ad.out) hb); clear aa; clear HB; have aa := n0_; have HB := n1_; clear n0_ n1_; (try clear hb); (try clear hb2); (try clear hk); (try clear hi)))
        go_ret
        exact ⟨by first | rfl | (simp [errW_none, errW_some] <;> rfl) | (simp [*, errW_none, errW_some] <;> rfl), by exact zp18_0_ HB.out ad.out⟩
       ·rw [if_neg c17] at H
        exact absurd H (by simp)
      ·rw [if_neg c15] at H
       exact absurd H (by simp)
     ·rw [if_neg c14] at H
      have c14b0 : (a0_0 == 8) = false := beq_eq_false_iff_ne.mpr c14
      have c14b1 : (a0_0 != 8) = true := bne_iff_ne.mpr c14
      by_cases c21 : a0_0 = 9
      ·rw [if_pos c21] at H
       have c21b0 : (a0_0 == 9) = true := beq_iff_eq.mpr c21
       have c21b1 : (a0_0 != 9) = false := bne_eq_false_iff_eq.mpr c21
       clear c21
       by_cases c22 : 0 < (l0_2.length : Int)
       ·rw [if_pos c22] at H
        have c22b0 : decide (0 < (l0_2.length : Int)) = true := decide_eq_true c22
        have c22b1 : decide (0 < l0_2.length) = true := decide_eq_true (by omega)
        clear c22
        replace H := Option.bind_eq_some_iff.mp H
        obtain ⟨bi, bC, H⟩ := H
        have A23 := am_ bC
        clear bC
        by_cases c24 : 1 + bi.size ≤ 9223372036854775807
        ·rw [if_pos c24] at H
         have c24b0 := eq_true c24
         have c24b1 : decide (1 + bi.size ≤ 9223372036854775807) = true := decide_eq_true c24
         try have c24b2 : (9223372036854775807 < 1 + bi.size) = False := eq_false (Nat.not_lt.2 c24)
         obtain rfl := Option.some.inj H
         simp only [Option.some.injEq, Prod.mk.injEq] at H
         obtain ⟨rfl⟩ := H
         go_enter Try.func46, Try.ntmps46
         go_wp2_with (first | ((with_reducible refine gate_dst (N := 1) rfl ?_); refine box_event ?hg (N := 1) ?hd (cs := #[.int .i64 a0_0, .string a0_1, .slice A0_2 l0_2.length c0_2]) (t := 29) ?hr ?_; (case hd => rfl); (case hg => rfl); (case hr => first | (go_simp; done) | (go_simp; rfl)); intro ab hg w25 hbox hb; replace aa := am_ (hbox); replace bg := am_ ((by rw [hg]; exact (below_size (b0_ HB.out)) : w.heap.size ≤ ab)); replace ad := am_ ((by rw [hg]; exact (below_size (b0_ HB.out)) : w.heap.size ≤ ab)); replace HB := am_ (below_step (b0_ HB.out) hb); clear hb hbox hg; have ce := ck_ (v := (.int .i64 a0_0)) aa 0 rfl; have cf := ck_ (v := (.string a0_1)) aa 1 rfl; have cg := ck_ (v := (.slice A0_2 l0_2.length c0_2)) aa 2 rfl; have ch := blk_frozen aa.out 0; have ci := blk_frozen aa.out 1; have cj := blk_frozen aa.out 2; have p267 : 0 ≤ (0 : Int) := (by omega); have q267 : 0 < (l0_2.length : Int) := of_decide_eq_true ah_; obtain ⟨cR, A267_2, c267_2, e267, bc, bd, be, hl267_2, hi267_2⟩ := at_T29 bf.out 0 p267 q267; cases e267; have qi267 : (0 < l0_2.length) = True := eq_true (by omega); (try rw [show ((0 : Int)).toNat = 0 from rfl] at bc); (try rw [show 0 * 3 = 0 from rfl] at bc); (try rw [Addr.add_zero'] at bc); (try rw [show ((0 : Int)).toNat = 0 from rfl] at bd); (try rw [show 0 * 3 = 0 from rfl] at bd); (try rw [Addr.add_zero'] at bd); (try rw [show ((0 : Int)).toNat = 0 from rfl] at be); (try rw [show 0 * 3 = 0 from rfl] at be); (try rw [Addr.add_zero'] at be); replace bc := (HB.out.cell (World.block_lt_of_cell? w _ bc)).trans bc; replace bd := (HB.out.cell (World.block_lt_of_cell? w _ bd)).trans bd; replace be := (HB.out.cell (World.block_lt_of_cell? w _ be)).trans be; have bs := am_ hi267_2; have bt := am_ hl267_2; clear hi267_2 hl267_2; replace p267 := eq_true p267; replace q267 := eq_true q267) | ((with_reducible refine gate_callee (f := 46) rfl ?_); refine gL_ (some 30) Try.func46 #[.agg #[.int .i64 ((rd_T29 l0_2 0).f0), .string ((rd_T29 l0_2 0).f1), .slice A267_2 ((rd_T29 l0_2 0).f2).length c267_2]] ?_; (with_reducible refine (ih k (by omega) ((rd_T29 l0_2 0).f0) ((rd_T29 l0_2 0).f1) _ _ ((rd_T29 l0_2 0).f2) bi _ ?side1 ?side2 A23.out).mono ?_); (case side1 => exact rc_ (Kd.C_below bs.out HB.out)); (case side2 => exact bt.out); rintro e w27 ⟨rfl, hb⟩; refine ⟨_, rfl, ?_⟩; have n0_ := am_ (blk_below (rb_ aa.out) hb); have n1_ := am_ (below_step (b1_ HB.out ad.out) hb); clear aa; clear HB; have aa := n0_; have HB := n1_; clear n0_ n1_; (try clear hb); (try clear hb2); (try clear hk); (try clear hi)))
         go_ret
         exact ⟨by first | rfl | (simp [errW_none, errW_some] <;> rfl) | (simp [*, errW_none, errW_some] <;> rfl), by exact zp18_0_ HB.out ad.out⟩
        ·rw [if_neg c24] at H
         exact absurd H (by simp)
       ·rw [if_neg c22] at H
        exact absurd H (by simp)
      ·rw [if_neg c21] at H
       have c21b0 : (a0_0 == 9) = false := beq_eq_false_iff_ne.mpr c21
       have c21b1 : (a0_0 != 9) = true := bne_iff_ne.mpr c21
       by_cases c28 : a0_0 = 6
       ·rw [if_pos c28] at H
        have c28b0 : (a0_0 == 6) = true := beq_iff_eq.mpr c28
        have c28b1 : (a0_0 != 6) = false := bne_eq_false_iff_eq.mpr c28
        clear c28
        by_cases c29 : 0 < (l0_2.length : Int)
        ·rw [if_pos c29] at H
         have c29b0 : decide (0 < (l0_2.length : Int)) = true := decide_eq_true c29
         have c29b1 : decide (0 < l0_2.length) = true := decide_eq_true (by omega)
         clear c29
         replace H := Option.bind_eq_some_iff.mp H
         obtain ⟨ae, bD, H⟩ := H
         have A30 := am_ bD
         clear bD
         by_cases c31 : 1 + ae.size ≤ 9223372036854775807
         ·rw [if_pos c31] at H
          have c31b0 := eq_true c31
          have c31b1 : decide (1 + ae.size ≤ 9223372036854775807) = true := decide_eq_true c31
          try have c31b2 : (9223372036854775807 < 1 + ae.size) = False := eq_false (Nat.not_lt.2 c31)
          by_cases c32 : ((⟨#[40]⟩ : ByteArray) ++ ae).size + 1 ≤ 9223372036854775807
          ·rw [if_pos c32] at H
           have c32b0 := eq_true c32
           have c32b1 : decide (((⟨#[40]⟩ : ByteArray) ++ ae).size + 1 ≤ 9223372036854775807) = true := decide_eq_true c32
           try have c32b2 : (9223372036854775807 < ((⟨#[40]⟩ : ByteArray) ++ ae).size + 1) = False := eq_false (Nat.not_lt.2 c32)
           try have c32b5 : (9223372036854775807 < 1 + ae.size + 1) = False := eq_false (by have h_ := c32; simp only [ByteArray.size_append, ByteArray.size_extract, show (⟨#[40]⟩ : ByteArray).size = 1 from rfl] at h_; first | omega | (simp only [decide_eq_true_eq] at *; omega))
           by_cases c33 : 1 < (l0_2.length : Int)
           ·rw [if_pos c33] at H
            have c33b0 : decide (1 < (l0_2.length : Int)) = true := decide_eq_true c33
            have c33b1 : decide (1 < l0_2.length) = true := decide_eq_true (by omega)
            clear c33
            replace H := Option.bind_eq_some_iff.mp H
            obtain ⟨ah, bE, H⟩ := H
            have A34 := am_ bE
            clear bE
            by_cases c35 : (((⟨#[40]⟩ : ByteArray) ++ ae) ++ (⟨#[124]⟩ : ByteArray)).size + ah.size ≤ 9223372036854775807
            ·rw [if_pos c35] at H
             have c35b0 := eq_true c35
             have c35b1 : decide ((((⟨#[40]⟩ : ByteArray) ++ ae) ++ (⟨#[124]⟩ : ByteArray)).size + ah.size ≤ 9223372036854775807) = true := decide_eq_true c35
             try have c35b2 : (9223372036854775807 < (((⟨#[40]⟩ : ByteArray) ++ ae) ++ (⟨#[124]⟩ : ByteArray)).size + ah.size) = False := eq_false (Nat.not_lt.2 c35)
             try have c35b5 : (9223372036854775807 < 1 + ae.size + 1 + ah.size) = False := eq_false (by have h_ := c35; simp only [ByteArray.size_append, ByteArray.size_extract, show (⟨#[124]⟩ : ByteArray).size = 1 from rfl, show (⟨#[40]⟩ : ByteArray).size = 1 from rfl] at h_; first | omega | (simp only [decide_eq_true_eq] at *; omega))
             by_cases c36 : ((((⟨#[40]⟩ : ByteArray) ++ ae) ++ (⟨#[124]⟩ : ByteArray)) ++ ah).size + 1 ≤ 9223372036854775807
             ·rw [if_pos c36] at H
              have c36b0 := eq_true c36
              have c36b1 : decide (((((⟨#[40]⟩ : ByteArray) ++ ae) ++ (⟨#[124]⟩ : ByteArray)) ++ ah).size + 1 ≤ 9223372036854775807) = true := decide_eq_true c36
              try have c36b2 : (9223372036854775807 < ((((⟨#[40]⟩ : ByteArray) ++ ae) ++ (⟨#[124]⟩ : ByteArray)) ++ ah).size + 1) = False := eq_false (Nat.not_lt.2 c36)
              try have c36b5 : (9223372036854775807 < 1 + ae.size + 1 + ah.size + 1) = False := eq_false (by have h_ := c36; simp only [ByteArray.size_append, ByteArray.size_extract, show (⟨#[124]⟩ : ByteArray).size = 1 from rfl, show (⟨#[40]⟩ : ByteArray).size = 1 from rfl] at h_; first | omega | (simp only [decide_eq_true_eq] at *; omega))
              obtain rfl := Option.some.inj H
              simp only [Option.some.injEq, Prod.mk.injEq] at H
              obtain ⟨rfl⟩ := H
              go_enter Try.func46, Try.ntmps46
              try go_wp2_with (first | ((with_reducible refine gate_dst (N := 1) rfl ?_); refine box_event ?hg (N := 1) ?hd (cs := #[.int .i64 a0_0, .string a0_1, .slice A0_2 l0_2.length c0_2]) (t := 29) ?hr ?_; (case hd => rfl); (case hg => rfl); (case hr => first | (go_simp; done) | (go_simp; rfl)); intro ab hg w37 hbox hb; replace aa := am_ (hbox); replace bg := am_ ((by rw [hg]; exact (below_size (b0_ HB.out)) : w.heap.size ≤ ab)); replace ad := am_ ((by rw [hg]; exact (below_size (b0_ HB.out)) : w.heap.size ≤ ab)); replace HB := am_ (below_step (b0_ HB.out) hb); clear hb hbox hg; have ck := ck_ (v := (.int .i64 a0_0)) aa 0 rfl; have cl := ck_ (v := (.string a0_1)) aa 1 rfl; have cm := ck_ (v := (.slice A0_2 l0_2.length c0_2)) aa 2 rfl; have cn := blk_frozen aa.out 0; have co := blk_frozen aa.out 1; have cp := blk_frozen aa.out 2))
              replace aa := am_ (blk_drew aa.out)
              replace HB := am_ (below_drew1 HB.out)
              have p269 : 0 ≤ (0 : Int) := (by omega)
              have q269 : 0 < (l0_2.length : Int) := of_decide_eq_true ah_
              obtain ⟨ak, A269_2, c269_2, e269, aH, aI, aJ, hl269_2, hi269_2⟩ := at_T29 bf.out 0 p269 q269
              have al := aJ
              (try rw [show ((0 : Int)).toNat = 0 from rfl] at al)
              (try rw [show 0 * 3 = 0 from rfl] at al)
              (try rw [Addr.add_zero'] at al)
              have am := aI
              (try rw [show ((0 : Int)).toNat = 0 from rfl] at am)
              (try rw [show 0 * 3 = 0 from rfl] at am)
              (try rw [Addr.add_zero'] at am)
              have an := aH
              (try rw [show ((0 : Int)).toNat = 0 from rfl] at an)
              (try rw [show 0 * 3 = 0 from rfl] at an)
              (try rw [Addr.add_zero'] at an)
              cases e269
              have qi269 : (0 < l0_2.length) = True := eq_true (by omega)
              (try rw [show ((0 : Int)).toNat = 0 from rfl] at aH)
              (try rw [show 0 * 3 = 0 from rfl] at aH)
              (try rw [Addr.add_zero'] at aH)
              (try rw [show ((0 : Int)).toNat = 0 from rfl] at aI)
              (try rw [show 0 * 3 = 0 from rfl] at aI)
              (try rw [Addr.add_zero'] at aI)
              (try rw [show ((0 : Int)).toNat = 0 from rfl] at aJ)
              (try rw [show 0 * 3 = 0 from rfl] at aJ)
              (try rw [Addr.add_zero'] at aJ)
              replace aH := (HB.out.cell (World.block_lt_of_cell? w _ aH)).trans aH
              replace aI := (HB.out.cell (World.block_lt_of_cell? w _ aI)).trans aI
              replace aJ := (HB.out.cell (World.block_lt_of_cell? w _ aJ)).trans aJ
              have bj := am_ hi269_2
              have bu := am_ hl269_2
              clear hi269_2 hl269_2
              replace p269 := eq_true p269
              replace q269 := eq_true q269
              have p271 : 0 ≤ (1 : Int) := (by omega)
              have q271 : 1 < (l0_2.length : Int) := of_decide_eq_true ah_
              obtain ⟨bJ, A271_2, c271_2, e271, aK, aL, aM, hl271_2, hi271_2⟩ := at_T29 bf.out 1 p271 q271
              have ao := aM
              (try rw [show ((1 : Int)).toNat = 1 from rfl] at ao)
              (try rw [show 1 * 3 = 3 from rfl] at ao)
              (try simp only [Nat.reduceMul, Nat.reduceEqDiff, Go.Addr.add, ↓reduceIte] at ao)
              have ap := aL
              (try rw [show ((1 : Int)).toNat = 1 from rfl] at ap)
              (try rw [show 1 * 3 = 3 from rfl] at ap)
              (try simp only [Nat.reduceMul, Nat.reduceEqDiff, Go.Addr.add, ↓reduceIte] at ap)
              have aq := aK
              (try rw [show ((1 : Int)).toNat = 1 from rfl] at aq)
              (try rw [show 1 * 3 = 3 from rfl] at aq)
              (try simp only [Nat.reduceMul, Nat.reduceEqDiff, Go.Addr.add, ↓reduceIte] at aq)
              obtain rfl : ak = bJ := (by injection e271)
              (try simp only [show (1 : Int).toNat = 1 from rfl, Nat.reduceMul, Nat.reduceEqDiff, Go.Addr.add, ↓reduceIte] at aK)
              (try simp only [show (1 : Int).toNat = 1 from rfl, Nat.reduceMul, Nat.reduceEqDiff, Go.Addr.add, ↓reduceIte] at aL)
              (try simp only [show (1 : Int).toNat = 1 from rfl, Nat.reduceMul, Nat.reduceEqDiff, Go.Addr.add, ↓reduceIte] at aM)
              have qi271 : (1 < l0_2.length) = True := eq_true (by omega)
              (try rw [show ((1 : Int)).toNat = 1 from rfl] at aK)
              (try rw [show 1 * 3 = 3 from rfl] at aK)
              (try rw [show ((1 : Int)).toNat = 1 from rfl] at aL)
              (try rw [show 1 * 3 = 3 from rfl] at aL)
              (try rw [show ((1 : Int)).toNat = 1 from rfl] at aM)
              (try rw [show 1 * 3 = 3 from rfl] at aM)
              replace aK := (HB.out.cell (World.block_lt_of_cell? w _ aK)).trans aK
              replace aL := (HB.out.cell (World.block_lt_of_cell? w _ aL)).trans aL
              replace aM := (HB.out.cell (World.block_lt_of_cell? w _ aM)).trans aM
              have bk := am_ hi271_2
              have bv := am_ hl271_2
              clear hi271_2 hl271_2
              replace p271 := eq_true p271
              replace q271 := eq_true q271
              refine start_ (n := 16) (S := fun w' => w'.cell? ⟨ab, 0, none⟩ = some (.int .i64 a0_0) ∧ w'.cell? ⟨ab, 1, none⟩ = some (.string a0_1) ∧ w'.cell? ⟨ab, 2, none⟩ = some (.slice (some ak) l0_2.length c0_2) ∧ w'.cell? ak = some (.int .i64 ((rd_T29 l0_2 0).f0)) ∧ w'.cell? ⟨ak.block, ak.off + 1, none⟩ = some (.string ((rd_T29 l0_2 0).f1)) ∧ w'.cell? ⟨ak.block, ak.off + 2, none⟩ = some (.slice A269_2 ((rd_T29 l0_2 0).f2).length c269_2) ∧ w'.cell? ⟨ak.block, ak.off + 3, none⟩ = some (.int .i64 ((rd_T29 l0_2 1).f0)) ∧ w'.cell? ⟨ak.block, ak.off + 3 + 1, none⟩ = some (.string ((rd_T29 l0_2 1).f1)) ∧ w'.cell? ⟨ak.block, ak.off + 3 + 2, none⟩ = some (.slice A271_2 ((rd_T29 l0_2 1).f2).length c271_2)) (ds := []) (bl 16 0) (by kernel_rfl) rfl rfl ⟨(blk_cell aa.out 0).trans rfl, (blk_cell aa.out 1).trans rfl, (blk_cell aa.out 2).trans rfl, ((HB.out.cell (World.block_lt_of_cell? w _ an)).trans an), ((HB.out.cell (World.block_lt_of_cell? w _ am)).trans am), ((HB.out.cell (World.block_lt_of_cell? w _ al)).trans al), ((HB.out.cell (World.block_lt_of_cell? w _ aq)).trans aq), ((HB.out.cell (World.block_lt_of_cell? w _ ap)).trans ap), ((HB.out.cell (World.block_lt_of_cell? w _ ao)).trans ao)⟩ (fun hHeld => ?_); refine with_tabW impl_regexText.tab20 impl_regexText.bits20 (fun HT_ HW_ => ?_)
              generalize w37.drew = w39 at aa HB bj bk aH aI aJ aK aL aM hHeld ⊢
              refine pu_ 0 38 (bl 16 1) HT_ ?_
              refine pu_ 6 44 (bl 16 65) HT_ ?_
              refine pu_ 8 46 (bl 16 321) HT_ ?_
              refine tk_ 1 39 (bl 16 323) HT_ HW_ hHeld ?_
              refine pu_ 2 40 (bl 16 327) HT_ ?_
              refine tk_ 3 41 (bl 16 335) HT_ HW_ hHeld ?_
              refine tk_ 9 47 (bl 16 847) HT_ HW_ hHeld ?_
              refine pu_ 10 48 (bl 16 1871) HT_ ?_
              refine tk_ 11 49 (bl 16 3919) HT_ HW_ hHeld ?_
              refine on_ 4 (some 42) (bl 16 3935) HT_ (fun K hK => ?_)
              refine gO_ Try.func46 #[.agg #[.int .i64 ((rd_T29 l0_2 0).f0), .string ((rd_T29 l0_2 0).f1), .slice A269_2 ((rd_T29 l0_2 0).f2).length c269_2]] ?_
              with_reducible refine (ih k (by omega) ((rd_T29 l0_2 0).f0) ((rd_T29 l0_2 0).f1) _ _ ((rd_T29 l0_2 0).f2) ae _ ?side1 ?side2 A30.out).mono ?_
              (case side1 => exact rc_ (Kd.C_below bj.out HB.out))
              (case side2 => exact bu.out)
              rintro e w40 ⟨rfl, hb⟩
              refine ⟨_, rfl, ?_⟩
              replace aa := am_ (blk_below (rb_ aa.out) hb)
              replace HB := am_ (below_step (b1_ HB.out ad.out) hb)
              (try clear hb)
              (try clear hb2)
              (try clear hk)
              (try clear hi)
              refine hK.out _ _ ⟨(blk_cell aa.out 0).trans rfl, (blk_cell aa.out 1).trans rfl, (blk_cell aa.out 2).trans rfl, ((HB.out.cell (World.block_lt_of_cell? w _ an)).trans an), ((HB.out.cell (World.block_lt_of_cell? w _ am)).trans am), ((HB.out.cell (World.block_lt_of_cell? w _ al)).trans al), ((HB.out.cell (World.block_lt_of_cell? w _ aq)).trans aq), ((HB.out.cell (World.block_lt_of_cell? w _ ap)).trans ap), ((HB.out.cell (World.block_lt_of_cell? w _ ao)).trans ao)⟩ (fun hHeld => ?_)
              clear hK K
              refine norm_ (a' := ?_) ?_ ?_
              rotate_left
              ·show Act.put _ (some 42) _ = _
               simp only [pn_, sz_, ss_, i64_w, i32_w]
               rfl
              refine pu_ 5 43 (bl 16 3967) HT_ ?_
              refine pu_ 7 45 (bl 16 4095) HT_ ?_
              refine on_ 12 (some 50) (bl 16 8191) HT_ (fun K hK => ?_)
              refine gO_ Try.func46 #[.agg #[.int .i64 ((rd_T29 l0_2 1).f0), .string ((rd_T29 l0_2 1).f1), .slice A271_2 ((rd_T29 l0_2 1).f2).length c271_2]] ?_
              with_reducible refine (ih k (by omega) ((rd_T29 l0_2 1).f0) ((rd_T29 l0_2 1).f1) _ _ ((rd_T29 l0_2 1).f2) ah _ ?side1 ?side2 A34.out).mono ?_
              (case side1 => exact rc_ (Kd.C_below bk.out HB.out))
              (case side2 => exact bv.out)
              rintro e w41 ⟨rfl, hb⟩
              refine ⟨_, rfl, ?_⟩
              replace aa := am_ (blk_below (rb_ aa.out) hb)
              replace HB := am_ (below_step (b1_ HB.out ad.out) hb)
              (try clear hb)
              (try clear hb2)
              (try clear hk)
              (try clear hi)
              refine hK.out _ _ ⟨(blk_cell aa.out 0).trans rfl, (blk_cell aa.out 1).trans rfl, (blk_cell aa.out 2).trans rfl, ((HB.out.cell (World.block_lt_of_cell? w _ an)).trans an), ((HB.out.cell (World.block_lt_of_cell? w _ am)).trans am), ((HB.out.cell (World.block_lt_of_cell? w _ al)).trans al), ((HB.out.cell (World.block_lt_of_cell? w _ aq)).trans aq), ((HB.out.cell (World.block_lt_of_cell? w _ ap)).trans ap), ((HB.out.cell (World.block_lt_of_cell? w _ ao)).trans ao)⟩ (fun hHeld => ?_)
              clear hK K
              refine norm_ (a' := ?_) ?_ ?_
              rotate_left
              ·show Act.put _ (some 50) _ = _
               simp only [pn_, sz_, ss_, i64_w, i32_w]
               rfl
              refine pu_ 13 51 (bl 16 16383) HT_ ?_
              refine pu_ 14 52 (bl 16 32767) HT_ ?_
              refine pu_ 15 2 (bl 16 65535) HT_ ?_
              refine done_ (done_of HT_.out (by kernel_rfl)) ?_
              try go_wp2
              go_ret
              exact ⟨by first | rfl | (simp [errW_none, errW_some] <;> rfl) | (simp [*, errW_none, errW_some] <;> rfl), by exact zp18_0_ HB.out ad.out⟩
             ·rw [if_neg c36] at H
              exact absurd H (by simp)
            ·rw [if_neg c35] at H
             exact absurd H (by simp)
           ·rw [if_neg c33] at H
            exact absurd H (by simp)
          ·rw [if_neg c32] at H
           exact absurd H (by simp)
         ·rw [if_neg c31] at H
          exact absurd H (by simp)
        ·rw [if_neg c29] at H
         exact absurd H (by simp)
       ·rw [if_neg c28] at H
        have c28b0 : (a0_0 == 6) = false := beq_eq_false_iff_ne.mpr c28
        have c28b1 : (a0_0 != 6) = true := bne_iff_ne.mpr c28
        by_cases c42 : a0_0 = 7
        ·rw [if_pos c42] at H
         have c42b0 : (a0_0 == 7) = true := beq_iff_eq.mpr c42
         have c42b1 : (a0_0 != 7) = false := bne_eq_false_iff_eq.mpr c42
         clear c42
         by_cases c43 : 0 < (l0_2.length : Int)
         ·rw [if_pos c43] at H
          have c43b0 : decide (0 < (l0_2.length : Int)) = true := decide_eq_true c43
          have c43b1 : decide (0 < l0_2.length) = true := decide_eq_true (by omega)
          clear c43
          replace H := Option.bind_eq_some_iff.mp H
          obtain ⟨af, bF, H⟩ := H
          have A44 := am_ bF
          clear bF
          by_cases c45 : 1 + af.size ≤ 9223372036854775807
          ·rw [if_pos c45] at H
           have c45b0 := eq_true c45
           have c45b1 : decide (1 + af.size ≤ 9223372036854775807) = true := decide_eq_true c45
           try have c45b2 : (9223372036854775807 < 1 + af.size) = False := eq_false (Nat.not_lt.2 c45)
           by_cases c46 : ((⟨#[40]⟩ : ByteArray) ++ af).size + 1 ≤ 9223372036854775807
           ·rw [if_pos c46] at H
            have c46b0 := eq_true c46
            have c46b1 : decide (((⟨#[40]⟩ : ByteArray) ++ af).size + 1 ≤ 9223372036854775807) = true := decide_eq_true c46
            try have c46b2 : (9223372036854775807 < ((⟨#[40]⟩ : ByteArray) ++ af).size + 1) = False := eq_false (Nat.not_lt.2 c46)
            try have c46b5 : (9223372036854775807 < 1 + af.size + 1) = False := eq_false (by have h_ := c46; simp only [ByteArray.size_append, ByteArray.size_extract, show (⟨#[40]⟩ : ByteArray).size = 1 from rfl] at h_; first | omega | (simp only [decide_eq_true_eq] at *; omega))
            by_cases c47 : 1 < (l0_2.length : Int)
            ·rw [if_pos c47] at H
             have c47b0 : decide (1 < (l0_2.length : Int)) = true := decide_eq_true c47
             have c47b1 : decide (1 < l0_2.length) = true := decide_eq_true (by omega)
             clear c47
             replace H := Option.bind_eq_some_iff.mp H
             obtain ⟨ai, bG, H⟩ := H
             have A48 := am_ bG
             clear bG
             by_cases c49 : (((⟨#[40]⟩ : ByteArray) ++ af) ++ (⟨#[38]⟩ : ByteArray)).size + ai.size ≤ 9223372036854775807
             ·rw [if_pos c49] at H
              have c49b0 := eq_true c49
              have c49b1 : decide ((((⟨#[40]⟩ : ByteArray) ++ af) ++ (⟨#[38]⟩ : ByteArray)).size + ai.size ≤ 9223372036854775807) = true := decide_eq_true c49
              try have c49b2 : (9223372036854775807 < (((⟨#[40]⟩ : ByteArray) ++ af) ++ (⟨#[38]⟩ : ByteArray)).size + ai.size) = False := eq_false (Nat.not_lt.2 c49)
              try have c49b5 : (9223372036854775807 < 1 + af.size + 1 + ai.size) = False := eq_false (by have h_ := c49; simp only [ByteArray.size_append, ByteArray.size_extract, show (⟨#[38]⟩ : ByteArray).size = 1 from rfl, show (⟨#[40]⟩ : ByteArray).size = 1 from rfl] at h_; first | omega | (simp only [decide_eq_true_eq] at *; omega))
              by_cases c50 : ((((⟨#[40]⟩ : ByteArray) ++ af) ++ (⟨#[38]⟩ : ByteArray)) ++ ai).size + 1 ≤ 9223372036854775807
              ·rw [if_pos c50] at H
               have c50b0 := eq_true c50
               have c50b1 : decide (((((⟨#[40]⟩ : ByteArray) ++ af) ++ (⟨#[38]⟩ : ByteArray)) ++ ai).size + 1 ≤ 9223372036854775807) = true := decide_eq_true c50
               try have c50b2 : (9223372036854775807 < ((((⟨#[40]⟩ : ByteArray) ++ af) ++ (⟨#[38]⟩ : ByteArray)) ++ ai).size + 1) = False := eq_false (Nat.not_lt.2 c50)
               try have c50b5 : (9223372036854775807 < 1 + af.size + 1 + ai.size + 1) = False := eq_false (by have h_ := c50; simp only [ByteArray.size_append, ByteArray.size_extract, show (⟨#[38]⟩ : ByteArray).size = 1 from rfl, show (⟨#[40]⟩ : ByteArray).size = 1 from rfl] at h_; first | omega | (simp only [decide_eq_true_eq] at *; omega))
               obtain rfl := Option.some.inj H
               simp only [Option.some.injEq, Prod.mk.injEq] at H
               obtain ⟨rfl⟩ := H
               go_enter Try.func46, Try.ntmps46
               try go_wp2_with (first | ((with_reducible refine gate_dst (N := 1) rfl ?_); refine box_event ?hg (N := 1) ?hd (cs := #[.int .i64 a0_0, .string a0_1, .slice A0_2 l0_2.length c0_2]) (t := 29) ?hr ?_; (case hd => rfl); (case hg => rfl); (case hr => first | (go_simp; done) | (go_simp; rfl)); intro ab hg w51 hbox hb; replace aa := am_ (hbox); replace bg := am_ ((by rw [hg]; exact (below_size (b0_ HB.out)) : w.heap.size ≤ ab)); replace ad := am_ ((by rw [hg]; exact (below_size (b0_ HB.out)) : w.heap.size ≤ ab)); replace HB := am_ (below_step (b0_ HB.out) hb); clear hb hbox hg; have cq := ck_ (v := (.int .i64 a0_0)) aa 0 rfl; have cr := ck_ (v := (.string a0_1)) aa 1 rfl; have ct := ck_ (v := (.slice A0_2 l0_2.length c0_2)) aa 2 rfl; have cu := blk_frozen aa.out 0; have cv := blk_frozen aa.out 1; have cw := blk_frozen aa.out 2))
               replace aa := am_ (blk_drew aa.out)
               replace HB := am_ (below_drew1 HB.out)
               have p273 : 0 ≤ (0 : Int) := (by omega)
               have q273 : 0 < (l0_2.length : Int) := of_decide_eq_true ah_
               obtain ⟨ar, A273_2, c273_2, e273, aN, aO, aP, hl273_2, hi273_2⟩ := at_T29 bf.out 0 p273 q273
               have au := aP
               (try rw [show ((0 : Int)).toNat = 0 from rfl] at au)
               (try rw [show 0 * 3 = 0 from rfl] at au)
               (try rw [Addr.add_zero'] at au)
               have av := aO
               (try rw [show ((0 : Int)).toNat = 0 from rfl] at av)
               (try rw [show 0 * 3 = 0 from rfl] at av)
               (try rw [Addr.add_zero'] at av)
               have aw := aN
               (try rw [show ((0 : Int)).toNat = 0 from rfl] at aw)
               (try rw [show 0 * 3 = 0 from rfl] at aw)
               (try rw [Addr.add_zero'] at aw)
               cases e273
               have qi273 : (0 < l0_2.length) = True := eq_true (by omega)
               (try rw [show ((0 : Int)).toNat = 0 from rfl] at aN)
               (try rw [show 0 * 3 = 0 from rfl] at aN)
               (try rw [Addr.add_zero'] at aN)
               (try rw [show ((0 : Int)).toNat = 0 from rfl] at aO)
               (try rw [show 0 * 3 = 0 from rfl] at aO)
               (try rw [Addr.add_zero'] at aO)
               (try rw [show ((0 : Int)).toNat = 0 from rfl] at aP)
               (try rw [show 0 * 3 = 0 from rfl] at aP)
               (try rw [Addr.add_zero'] at aP)
               replace aN := (HB.out.cell (World.block_lt_of_cell? w _ aN)).trans aN
               replace aO := (HB.out.cell (World.block_lt_of_cell? w _ aO)).trans aO
               replace aP := (HB.out.cell (World.block_lt_of_cell? w _ aP)).trans aP
               have bm := am_ hi273_2
               have bw := am_ hl273_2
               clear hi273_2 hl273_2
               replace p273 := eq_true p273
               replace q273 := eq_true q273
               have p275 : 0 ≤ (1 : Int) := (by omega)
               have q275 : 1 < (l0_2.length : Int) := of_decide_eq_true ah_
               obtain ⟨bK, A275_2, c275_2, e275, aQ, aR, aS, hl275_2, hi275_2⟩ := at_T29 bf.out 1 p275 q275
               have ax := aS
               (try rw [show ((1 : Int)).toNat = 1 from rfl] at ax)
               (try rw [show 1 * 3 = 3 from rfl] at ax)
               (try simp only [Nat.reduceMul, Nat.reduceEqDiff, Go.Addr.add, ↓reduceIte] at ax)
               have ay := aR
               (try rw [show ((1 : Int)).toNat = 1 from rfl] at ay)
               (try rw [show 1 * 3 = 3 from rfl] at ay)
               (try simp only [Nat.reduceMul, Nat.reduceEqDiff, Go.Addr.add, ↓reduceIte] at ay)
               have az := aQ
               (try rw [show ((1 : Int)).toNat = 1 from rfl] at az)
               (try rw [show 1 * 3 = 3 from rfl] at az)
               (try simp only [Nat.reduceMul, Nat.reduceEqDiff, Go.Addr.add, ↓reduceIte] at az)
               obtain rfl : ar = bK := (by injection e275)
               (try simp only [show (1 : Int).toNat = 1 from rfl, Nat.reduceMul, Nat.reduceEqDiff, Go.Addr.add, ↓reduceIte] at aQ)
               (try simp only [show (1 : Int).toNat = 1 from rfl, Nat.reduceMul, Nat.reduceEqDiff, Go.Addr.add, ↓reduceIte] at aR)
               (try simp only [show (1 : Int).toNat = 1 from rfl, Nat.reduceMul, Nat.reduceEqDiff, Go.Addr.add, ↓reduceIte] at aS)
               have qi275 : (1 < l0_2.length) = True := eq_true (by omega)
               (try rw [show ((1 : Int)).toNat = 1 from rfl] at aQ)
               (try rw [show 1 * 3 = 3 from rfl] at aQ)
               (try rw [show ((1 : Int)).toNat = 1 from rfl] at aR)
               (try rw [show 1 * 3 = 3 from rfl] at aR)
               (try rw [show ((1 : Int)).toNat = 1 from rfl] at aS)
               (try rw [show 1 * 3 = 3 from rfl] at aS)
               replace aQ := (HB.out.cell (World.block_lt_of_cell? w _ aQ)).trans aQ
               replace aR := (HB.out.cell (World.block_lt_of_cell? w _ aR)).trans aR
               replace aS := (HB.out.cell (World.block_lt_of_cell? w _ aS)).trans aS
               have bn := am_ hi275_2
               have bx := am_ hl275_2
               clear hi275_2 hl275_2
               replace p275 := eq_true p275
               replace q275 := eq_true q275
               refine start_ (n := 16) (S := fun w' => w'.cell? ⟨ab, 0, none⟩ = some (.int .i64 a0_0) ∧ w'.cell? ⟨ab, 1, none⟩ = some (.string a0_1) ∧ w'.cell? ⟨ab, 2, none⟩ = some (.slice (some ar) l0_2.length c0_2) ∧ w'.cell? ar = some (.int .i64 ((rd_T29 l0_2 0).f0)) ∧ w'.cell? ⟨ar.block, ar.off + 1, none⟩ = some (.string ((rd_T29 l0_2 0).f1)) ∧ w'.cell? ⟨ar.block, ar.off + 2, none⟩ = some (.slice A273_2 ((rd_T29 l0_2 0).f2).length c273_2) ∧ w'.cell? ⟨ar.block, ar.off + 3, none⟩ = some (.int .i64 ((rd_T29 l0_2 1).f0)) ∧ w'.cell? ⟨ar.block, ar.off + 3 + 1, none⟩ = some (.string ((rd_T29 l0_2 1).f1)) ∧ w'.cell? ⟨ar.block, ar.off + 3 + 2, none⟩ = some (.slice A275_2 ((rd_T29 l0_2 1).f2).length c275_2)) (ds := []) (bl 16 0) (by kernel_rfl) rfl rfl ⟨(blk_cell aa.out 0).trans rfl, (blk_cell aa.out 1).trans rfl, (blk_cell aa.out 2).trans rfl, ((HB.out.cell (World.block_lt_of_cell? w _ aw)).trans aw), ((HB.out.cell (World.block_lt_of_cell? w _ av)).trans av), ((HB.out.cell (World.block_lt_of_cell? w _ au)).trans au), ((HB.out.cell (World.block_lt_of_cell? w _ az)).trans az), ((HB.out.cell (World.block_lt_of_cell? w _ ay)).trans ay), ((HB.out.cell (World.block_lt_of_cell? w _ ax)).trans ax)⟩ (fun hHeld => ?_); refine with_tabW impl_regexText.tab20 impl_regexText.bits20 (fun HT_ HW_ => ?_)
               generalize w51.drew = w53 at aa HB bm bn aN aO aP aQ aR aS hHeld ⊢
               refine pu_ 0 38 (bl 16 1) HT_ ?_
               refine pu_ 6 44 (bl 16 65) HT_ ?_
               refine pu_ 8 46 (bl 16 321) HT_ ?_
               refine tk_ 1 39 (bl 16 323) HT_ HW_ hHeld ?_
               refine pu_ 2 40 (bl 16 327) HT_ ?_
               refine tk_ 3 41 (bl 16 335) HT_ HW_ hHeld ?_
               refine tk_ 9 47 (bl 16 847) HT_ HW_ hHeld ?_
               refine pu_ 10 48 (bl 16 1871) HT_ ?_
               refine tk_ 11 49 (bl 16 3919) HT_ HW_ hHeld ?_
               refine on_ 4 (some 42) (bl 16 3935) HT_ (fun K hK => ?_)
               refine gO_ Try.func46 #[.agg #[.int .i64 ((rd_T29 l0_2 0).f0), .string ((rd_T29 l0_2 0).f1), .slice A273_2 ((rd_T29 l0_2 0).f2).length c273_2]] ?_
               with_reducible refine (ih k (by omega) ((rd_T29 l0_2 0).f0) ((rd_T29 l0_2 0).f1) _ _ ((rd_T29 l0_2 0).f2) af _ ?side1 ?side2 A44.out).mono ?_
               (case side1 => exact rc_ (Kd.C_below bm.out HB.out))
               (case side2 => exact bw.out)
               rintro e w54 ⟨rfl, hb⟩
               refine ⟨_, rfl, ?_⟩
               replace aa := am_ (blk_below (rb_ aa.out) hb)
               replace HB := am_ (below_step (b1_ HB.out ad.out) hb)
               (try clear hb)
               (try clear hb2)
               (try clear hk)
               (try clear hi)
               refine hK.out _ _ ⟨(blk_cell aa.out 0).trans rfl, (blk_cell aa.out 1).trans rfl, (blk_cell aa.out 2).trans rfl, ((HB.out.cell (World.block_lt_of_cell? w _ aw)).trans aw), ((HB.out.cell (World.block_lt_of_cell? w _ av)).trans av), ((HB.out.cell (World.block_lt_of_cell? w _ au)).trans au), ((HB.out.cell (World.block_lt_of_cell? w _ az)).trans az), ((HB.out.cell (World.block_lt_of_cell? w _ ay)).trans ay), ((HB.out.cell (World.block_lt_of_cell? w _ ax)).trans ax)⟩ (fun hHeld => ?_)
               clear hK K
               refine norm_ (a' := ?_) ?_ ?_
               rotate_left
               ·show Act.put _ (some 42) _ = _
                simp only [pn_, sz_, ss_, i64_w, i32_w]
                rfl
               refine pu_ 5 43 (bl 16 3967) HT_ ?_
               refine pu_ 7 45 (bl 16 4095) HT_ ?_
               refine on_ 12 (some 50) (bl 16 8191) HT_ (fun K hK => ?_)
               refine gO_ Try.func46 #[.agg #[.int .i64 ((rd_T29 l0_2 1).f0), .string ((rd_T29 l0_2 1).f1), .slice A275_2 ((rd_T29 l0_2 1).f2).length c275_2]] ?_
               with_reducible refine (ih k (by omega) ((rd_T29 l0_2 1).f0) ((rd_T29 l0_2 1).f1) _ _ ((rd_T29 l0_2 1).f2) ai _ ?side1 ?side2 A48.out).mono ?_
               (case side1 => exact rc_ (Kd.C_below bn.out HB.out))
               (case side2 => exact bx.out)
               rintro e w55 ⟨rfl, hb⟩
               refine ⟨_, rfl, ?_⟩
               replace aa := am_ (blk_below (rb_ aa.out) hb)
               replace HB := am_ (below_step (b1_ HB.out ad.out) hb)
               (try clear hb)
               (try clear hb2)
               (try clear hk)
               (try clear hi)
               refine hK.out _ _ ⟨(blk_cell aa.out 0).trans rfl, (blk_cell aa.out 1).trans rfl, (blk_cell aa.out 2).trans rfl, ((HB.out.cell (World.block_lt_of_cell? w _ aw)).trans aw), ((HB.out.cell (World.block_lt_of_cell? w _ av)).trans av), ((HB.out.cell (World.block_lt_of_cell? w _ au)).trans au), ((HB.out.cell (World.block_lt_of_cell? w _ az)).trans az), ((HB.out.cell (World.block_lt_of_cell? w _ ay)).trans ay), ((HB.out.cell (World.block_lt_of_cell? w _ ax)).trans ax)⟩ (fun hHeld => ?_)
               clear hK K
               refine norm_ (a' := ?_) ?_ ?_
               rotate_left
               ·show Act.put _ (some 50) _ = _
                simp only [pn_, sz_, ss_, i64_w, i32_w]
                rfl
               refine pu_ 13 51 (bl 16 16383) HT_ ?_
               refine pu_ 14 52 (bl 16 32767) HT_ ?_
               refine pu_ 15 2 (bl 16 65535) HT_ ?_
               refine done_ (done_of HT_.out (by kernel_rfl)) ?_
               try go_wp2
               go_ret
               exact ⟨by first | rfl | (simp [errW_none, errW_some] <;> rfl) | (simp [*, errW_none, errW_some] <;> rfl), by exact zp18_0_ HB.out ad.out⟩
              ·rw [if_neg c50] at H
               exact absurd H (by simp)
             ·rw [if_neg c49] at H
              exact absurd H (by simp)
            ·rw [if_neg c47] at H
             exact absurd H (by simp)
           ·rw [if_neg c46] at H
            exact absurd H (by simp)
          ·rw [if_neg c45] at H
           exact absurd H (by simp)
         ·rw [if_neg c43] at H
          exact absurd H (by simp)
        ·rw [if_neg c42] at H
         have c42b0 : (a0_0 == 7) = false := beq_eq_false_iff_ne.mpr c42
         have c42b1 : (a0_0 != 7) = true := bne_iff_ne.mpr c42
         by_cases c56 : 0 < (l0_2.length : Int)
         ·rw [if_pos c56] at H
          have c56b0 : decide (0 < (l0_2.length : Int)) = true := decide_eq_true c56
          have c56b1 : decide (0 < l0_2.length) = true := decide_eq_true (by omega)
          clear c56
          replace H := Option.bind_eq_some_iff.mp H
          obtain ⟨ag, bH, H⟩ := H
          have A57 := am_ bH
          clear bH
          by_cases c58 : 1 + ag.size ≤ 9223372036854775807
          ·rw [if_pos c58] at H
           have c58b0 := eq_true c58
           have c58b1 : decide (1 + ag.size ≤ 9223372036854775807) = true := decide_eq_true c58
           try have c58b2 : (9223372036854775807 < 1 + ag.size) = False := eq_false (Nat.not_lt.2 c58)
           by_cases c59 : ((⟨#[40]⟩ : ByteArray) ++ ag).size + 0 ≤ 9223372036854775807
           ·rw [if_pos c59] at H
            have c59b0 := eq_true c59
            have c59b1 : decide (((⟨#[40]⟩ : ByteArray) ++ ag).size + 0 ≤ 9223372036854775807) = true := decide_eq_true c59
            try have c59b2 : (9223372036854775807 < ((⟨#[40]⟩ : ByteArray) ++ ag).size + 0) = False := eq_false (Nat.not_lt.2 c59)
            try have c59b5 : (9223372036854775807 < 1 + ag.size) = False := eq_false (by have h_ := c59; simp only [ByteArray.size_append, ByteArray.size_extract, show (⟨#[40]⟩ : ByteArray).size = 1 from rfl] at h_; first | omega | (simp only [decide_eq_true_eq] at *; omega))
            by_cases c60 : 1 < (l0_2.length : Int)
            ·rw [if_pos c60] at H
             have c60b0 : decide (1 < (l0_2.length : Int)) = true := decide_eq_true c60
             have c60b1 : decide (1 < l0_2.length) = true := decide_eq_true (by omega)
             clear c60
             replace H := Option.bind_eq_some_iff.mp H
             obtain ⟨aj, bI, H⟩ := H
             have A61 := am_ bI
             clear bI
             by_cases c62 : (((⟨#[40]⟩ : ByteArray) ++ ag) ++ (⟨#[]⟩ : ByteArray)).size + aj.size ≤ 9223372036854775807
             ·rw [if_pos c62] at H
              have c62b0 := eq_true c62
              have c62b1 : decide ((((⟨#[40]⟩ : ByteArray) ++ ag) ++ (⟨#[]⟩ : ByteArray)).size + aj.size ≤ 9223372036854775807) = true := decide_eq_true c62
              try have c62b2 : (9223372036854775807 < (((⟨#[40]⟩ : ByteArray) ++ ag) ++ (⟨#[]⟩ : ByteArray)).size + aj.size) = False := eq_false (Nat.not_lt.2 c62)
              try have c62b5 : (9223372036854775807 < 1 + ag.size + aj.size) = False := eq_false (by have h_ := c62; simp only [ByteArray.size_append, ByteArray.size_extract, show (⟨#[40]⟩ : ByteArray).size = 1 from rfl, show (⟨#[]⟩ : ByteArray).size = 0 from rfl] at h_; first | omega | (simp only [decide_eq_true_eq] at *; omega))
              by_cases c63 : ((((⟨#[40]⟩ : ByteArray) ++ ag) ++ (⟨#[]⟩ : ByteArray)) ++ aj).size + 1 ≤ 9223372036854775807
              ·rw [if_pos c63] at H
               have c63b0 := eq_true c63
               have c63b1 : decide (((((⟨#[40]⟩ : ByteArray) ++ ag) ++ (⟨#[]⟩ : ByteArray)) ++ aj).size + 1 ≤ 9223372036854775807) = true := decide_eq_true c63
               try have c63b2 : (9223372036854775807 < ((((⟨#[40]⟩ : ByteArray) ++ ag) ++ (⟨#[]⟩ : ByteArray)) ++ aj).size + 1) = False := eq_false (Nat.not_lt.2 c63)
               try have c63b5 : (9223372036854775807 < 1 + ag.size + aj.size + 1) = False := eq_false (by have h_ := c63; simp only [ByteArray.size_append, ByteArray.size_extract, show (⟨#[40]⟩ : ByteArray).size = 1 from rfl, show (⟨#[]⟩ : ByteArray).size = 0 from rfl] at h_; first | omega | (simp only [decide_eq_true_eq] at *; omega))
               obtain rfl := Option.some.inj H
               simp only [Option.some.injEq, Prod.mk.injEq] at H
               obtain ⟨rfl⟩ := H
               go_enter Try.func46, Try.ntmps46
               try go_wp2_with (first | ((with_reducible refine gate_dst (N := 1) rfl ?_); refine box_event ?hg (N := 1) ?hd (cs := #[.int .i64 a0_0, .string a0_1, .slice A0_2 l0_2.length c0_2]) (t := 29) ?hr ?_; (case hd => rfl); (case hg => rfl); (case hr => first | (go_simp; done) | (go_simp; rfl)); intro ab hg w64 hbox hb; replace aa := am_ (hbox); replace bg := am_ ((by rw [hg]; exact (below_size (b0_ HB.out)) : w.heap.size ≤ ab)); replace ad := am_ ((by rw [hg]; exact (below_size (b0_ HB.out)) : w.heap.size ≤ ab)); replace HB := am_ (below_step (b0_ HB.out) hb); clear hb hbox hg; have cx := ck_ (v := (.int .i64 a0_0)) aa 0 rfl; have cy := ck_ (v := (.string a0_1)) aa 1 rfl; have cz := ck_ (v := (.slice A0_2 l0_2.length c0_2)) aa 2 rfl; have cA := blk_frozen aa.out 0; have cB := blk_frozen aa.out 1; have cC := blk_frozen aa.out 2))
               replace aa := am_ (blk_drew aa.out)
               replace HB := am_ (below_drew1 HB.out)
               have p277 : 0 ≤ (0 : Int) := (by omega)
               have q277 : 0 < (l0_2.length : Int) := of_decide_eq_true ah_
               obtain ⟨aA, A277_2, c277_2, e277, aT, aU, aV, hl277_2, hi277_2⟩ := at_T29 bf.out 0 p277 q277
               have aB := aV
               (try rw [show ((0 : Int)).toNat = 0 from rfl] at aB)
               (try rw [show 0 * 3 = 0 from rfl] at aB)
               (try rw [Addr.add_zero'] at aB)
               have aC := aU
               (try rw [show ((0 : Int)).toNat = 0 from rfl] at aC)
               (try rw [show 0 * 3 = 0 from rfl] at aC)
               (try rw [Addr.add_zero'] at aC)
               have aD := aT
               (try rw [show ((0 : Int)).toNat = 0 from rfl] at aD)
               (try rw [show 0 * 3 = 0 from rfl] at aD)
               (try rw [Addr.add_zero'] at aD)
               cases e277
               have qi277 : (0 < l0_2.length) = True := eq_true (by omega)
               (try rw [show ((0 : Int)).toNat = 0 from rfl] at aT)
               (try rw [show 0 * 3 = 0 from rfl] at aT)
               (try rw [Addr.add_zero'] at aT)
               (try rw [show ((0 : Int)).toNat = 0 from rfl] at aU)
               (try rw [show 0 * 3 = 0 from rfl] at aU)
               (try rw [Addr.add_zero'] at aU)
               (try rw [show ((0 : Int)).toNat = 0 from rfl] at aV)
               (try rw [show 0 * 3 = 0 from rfl] at aV)
               (try rw [Addr.add_zero'] at aV)
               replace aT := (HB.out.cell (World.block_lt_of_cell? w _ aT)).trans aT
               replace aU := (HB.out.cell (World.block_lt_of_cell? w _ aU)).trans aU
               replace aV := (HB.out.cell (World.block_lt_of_cell? w _ aV)).trans aV
               have bo := am_ hi277_2
               have bz := am_ hl277_2
               clear hi277_2 hl277_2
               replace p277 := eq_true p277
               replace q277 := eq_true q277
               have p279 : 0 ≤ (1 : Int) := (by omega)
               have q279 : 1 < (l0_2.length : Int) := of_decide_eq_true ah_
               obtain ⟨bL, A279_2, c279_2, e279, aW, aX, aY, hl279_2, hi279_2⟩ := at_T29 bf.out 1 p279 q279
               have aE := aY
               (try rw [show ((1 : Int)).toNat = 1 from rfl] at aE)
               (try rw [show 1 * 3 = 3 from rfl] at aE)
               (try simp only [Nat.reduceMul, Nat.reduceEqDiff, Go.Addr.add, ↓reduceIte] at aE)
               have aF := aX
               (try rw [show ((1 : Int)).toNat = 1 from rfl] at aF)
               (try rw [show 1 * 3 = 3 from rfl] at aF)
               (try simp only [Nat.reduceMul, Nat.reduceEqDiff, Go.Addr.add, ↓reduceIte] at aF)
               have aG := aW
               (try rw [show ((1 : Int)).toNat = 1 from rfl] at aG)
               (try rw [show 1 * 3 = 3 from rfl] at aG)
               (try simp only [Nat.reduceMul, Nat.reduceEqDiff, Go.Addr.add, ↓reduceIte] at aG)
               obtain rfl : aA = bL := (by injection e279)
               (try simp only [show (1 : Int).toNat = 1 from rfl, Nat.reduceMul, Nat.reduceEqDiff, Go.Addr.add, ↓reduceIte] at aW)
               (try simp only [show (1 : Int).toNat = 1 from rfl, Nat.reduceMul, Nat.reduceEqDiff, Go.Addr.add, ↓reduceIte] at aX)
               (try simp only [show (1 : Int).toNat = 1 from rfl, Nat.reduceMul, Nat.reduceEqDiff, Go.Addr.add, ↓reduceIte] at aY)
               have qi279 : (1 < l0_2.length) = True := eq_true (by omega)
               (try rw [show ((1 : Int)).toNat = 1 from rfl] at aW)
               (try rw [show 1 * 3 = 3 from rfl] at aW)
               (try rw [show ((1 : Int)).toNat = 1 from rfl] at aX)
               (try rw [show 1 * 3 = 3 from rfl] at aX)
               (try rw [show ((1 : Int)).toNat = 1 from rfl] at aY)
               (try rw [show 1 * 3 = 3 from rfl] at aY)
               replace aW := (HB.out.cell (World.block_lt_of_cell? w _ aW)).trans aW
               replace aX := (HB.out.cell (World.block_lt_of_cell? w _ aX)).trans aX
               replace aY := (HB.out.cell (World.block_lt_of_cell? w _ aY)).trans aY
               have bp := am_ hi279_2
               have bA := am_ hl279_2
               clear hi279_2 hl279_2
               replace p279 := eq_true p279
               replace q279 := eq_true q279
               refine start_ (n := 16) (S := fun w' => w'.cell? ⟨ab, 0, none⟩ = some (.int .i64 a0_0) ∧ w'.cell? ⟨ab, 1, none⟩ = some (.string a0_1) ∧ w'.cell? ⟨ab, 2, none⟩ = some (.slice (some aA) l0_2.length c0_2) ∧ w'.cell? aA = some (.int .i64 ((rd_T29 l0_2 0).f0)) ∧ w'.cell? ⟨aA.block, aA.off + 1, none⟩ = some (.string ((rd_T29 l0_2 0).f1)) ∧ w'.cell? ⟨aA.block, aA.off + 2, none⟩ = some (.slice A277_2 ((rd_T29 l0_2 0).f2).length c277_2) ∧ w'.cell? ⟨aA.block, aA.off + 3, none⟩ = some (.int .i64 ((rd_T29 l0_2 1).f0)) ∧ w'.cell? ⟨aA.block, aA.off + 3 + 1, none⟩ = some (.string ((rd_T29 l0_2 1).f1)) ∧ w'.cell? ⟨aA.block, aA.off + 3 + 2, none⟩ = some (.slice A279_2 ((rd_T29 l0_2 1).f2).length c279_2)) (ds := []) (bl 16 0) (by kernel_rfl) rfl rfl ⟨(blk_cell aa.out 0).trans rfl, (blk_cell aa.out 1).trans rfl, (blk_cell aa.out 2).trans rfl, ((HB.out.cell (World.block_lt_of_cell? w _ aD)).trans aD), ((HB.out.cell (World.block_lt_of_cell? w _ aC)).trans aC), ((HB.out.cell (World.block_lt_of_cell? w _ aB)).trans aB), ((HB.out.cell (World.block_lt_of_cell? w _ aG)).trans aG), ((HB.out.cell (World.block_lt_of_cell? w _ aF)).trans aF), ((HB.out.cell (World.block_lt_of_cell? w _ aE)).trans aE)⟩ (fun hHeld => ?_); refine with_tabW impl_regexText.tab20 impl_regexText.bits20 (fun HT_ HW_ => ?_)
               generalize w64.drew = w66 at aa HB bo bp aT aU aV aW aX aY hHeld ⊢
               refine pu_ 0 38 (bl 16 1) HT_ ?_
               refine pu_ 6 44 (bl 16 65) HT_ ?_
               refine pu_ 8 46 (bl 16 321) HT_ ?_
               refine tk_ 1 39 (bl 16 323) HT_ HW_ hHeld ?_
               refine pu_ 2 40 (bl 16 327) HT_ ?_
               refine tk_ 3 41 (bl 16 335) HT_ HW_ hHeld ?_
               refine tk_ 9 47 (bl 16 847) HT_ HW_ hHeld ?_
               refine pu_ 10 48 (bl 16 1871) HT_ ?_
               refine tk_ 11 49 (bl 16 3919) HT_ HW_ hHeld ?_
               refine on_ 4 (some 42) (bl 16 3935) HT_ (fun K hK => ?_)
               refine gO_ Try.func46 #[.agg #[.int .i64 ((rd_T29 l0_2 0).f0), .string ((rd_T29 l0_2 0).f1), .slice A277_2 ((rd_T29 l0_2 0).f2).length c277_2]] ?_
               with_reducible refine (ih k (by omega) ((rd_T29 l0_2 0).f0) ((rd_T29 l0_2 0).f1) _ _ ((rd_T29 l0_2 0).f2) ag _ ?side1 ?side2 A57.out).mono ?_
               (case side1 => exact rc_ (Kd.C_below bo.out HB.out))
               (case side2 => exact bz.out)
               rintro e w67 ⟨rfl, hb⟩
               refine ⟨_, rfl, ?_⟩
               replace aa := am_ (blk_below (rb_ aa.out) hb)
               replace HB := am_ (below_step (b1_ HB.out ad.out) hb)
               (try clear hb)
               (try clear hb2)
               (try clear hk)
               (try clear hi)
               refine hK.out _ _ ⟨(blk_cell aa.out 0).trans rfl, (blk_cell aa.out 1).trans rfl, (blk_cell aa.out 2).trans rfl, ((HB.out.cell (World.block_lt_of_cell? w _ aD)).trans aD), ((HB.out.cell (World.block_lt_of_cell? w _ aC)).trans aC), ((HB.out.cell (World.block_lt_of_cell? w _ aB)).trans aB), ((HB.out.cell (World.block_lt_of_cell? w _ aG)).trans aG), ((HB.out.cell (World.block_lt_of_cell? w _ aF)).trans aF), ((HB.out.cell (World.block_lt_of_cell? w _ aE)).trans aE)⟩ (fun hHeld => ?_)
               clear hK K
               refine norm_ (a' := ?_) ?_ ?_
               rotate_left
               ·show Act.put _ (some 42) _ = _
                simp only [pn_, sz_, ss_, i64_w, i32_w]
                rfl
               refine pu_ 5 43 (bl 16 3967) HT_ ?_
               refine pu_ 7 45 (bl 16 4095) HT_ ?_
               refine on_ 12 (some 50) (bl 16 8191) HT_ (fun K hK => ?_)
               refine gO_ Try.func46 #[.agg #[.int .i64 ((rd_T29 l0_2 1).f0), .string ((rd_T29 l0_2 1).f1), .slice A279_2 ((rd_T29 l0_2 1).f2).length c279_2]] ?_
               with_reducible refine (ih k (by omega) ((rd_T29 l0_2 1).f0) ((rd_T29 l0_2 1).f1) _ _ ((rd_T29 l0_2 1).f2) aj _ ?side1 ?side2 A61.out).mono ?_
               (case side1 => exact rc_ (Kd.C_below bp.out HB.out))
               (case side2 => exact bA.out)
               rintro e w68 ⟨rfl, hb⟩
               refine ⟨_, rfl, ?_⟩
               replace aa := am_ (blk_below (rb_ aa.out) hb)
               replace HB := am_ (below_step (b1_ HB.out ad.out) hb)
               (try clear hb)
               (try clear hb2)
               (try clear hk)
               (try clear hi)
               refine hK.out _ _ ⟨(blk_cell aa.out 0).trans rfl, (blk_cell aa.out 1).trans rfl, (blk_cell aa.out 2).trans rfl, ((HB.out.cell (World.block_lt_of_cell? w _ aD)).trans aD), ((HB.out.cell (World.block_lt_of_cell? w _ aC)).trans aC), ((HB.out.cell (World.block_lt_of_cell? w _ aB)).trans aB), ((HB.out.cell (World.block_lt_of_cell? w _ aG)).trans aG), ((HB.out.cell (World.block_lt_of_cell? w _ aF)).trans aF), ((HB.out.cell (World.block_lt_of_cell? w _ aE)).trans aE)⟩ (fun hHeld => ?_)
               clear hK K
               refine norm_ (a' := ?_) ?_ ?_
               rotate_left
               ·show Act.put _ (some 50) _ = _
                simp only [pn_, sz_, ss_, i64_w, i32_w]
                rfl
               refine pu_ 13 51 (bl 16 16383) HT_ ?_
               refine pu_ 14 52 (bl 16 32767) HT_ ?_
               refine pu_ 15 2 (bl 16 65535) HT_ ?_
               refine done_ (done_of HT_.out (by kernel_rfl)) ?_
               try go_wp2
               go_ret
               exact ⟨by first | rfl | (simp [errW_none, errW_some] <;> rfl) | (simp [*, errW_none, errW_some] <;> rfl), by exact zp18_0_ HB.out ad.out⟩
              ·rw [if_neg c63] at H
               exact absurd H (by simp)
             ·rw [if_neg c62] at H
              exact absurd H (by simp)
            ·rw [if_neg c60] at H
             exact absurd H (by simp)
           ·rw [if_neg c59] at H
            exact absurd H (by simp)
          ·rw [if_neg c58] at H
           exact absurd H (by simp)
         ·rw [if_neg c56] at H
          exact absurd H (by simp)
end Go.Proofs.Ytldgkgdgcfllmaa.P
end
