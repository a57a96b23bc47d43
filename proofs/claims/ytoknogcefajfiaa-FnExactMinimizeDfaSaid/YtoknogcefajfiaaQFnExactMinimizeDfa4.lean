/- Texts of the proof of FnExactMinimizeDfa, put together. No condition. -/
import Derived.Test.YtoknogcefajfiaaQFnExactMinimizeDfa2
import Derived.Test.YtoknogcefajfiaaQFnExactMinimizeDfa3
import Derived.Shelf.Abstract
import Derived.Lib.Walk
section
namespace Go.Proofs.Ytoknogcefajfiaa.P
open Go.RowKit Go.Proofs.YtoknogcefajfiaaW.PrintWords Go.Proofs.YtoknogcefajfiaaW.PrintLast Go.Proofs.YtoknogcefajfiaaW.PrintMore
attribute [local go_sem] max2_int min2_int max_two min_two max_three min_three max_four min_four
set_option linter.unusedVariables false
set_option linter.unusedSimpArgs false
def impl_minimized.f (l0_0 : List Bool) (l0_1 : List (List Int)) (a1 : Int) : Option (List Bool × List (List Int)) := if l0_1.length = l0_0.length ∧ l0_0.length ≤ 1000000 ∧ (∀ r ∈ l0_1, r.length = 3 ∧ ∀ q ∈ r, 0 ≤ q ∧ q < (l0_0.length : Int)) ∧ 0 ≤ a1 ∧ a1 < (l0_0.length : Int) then some (Mn.minD l0_0 l0_1 a1) else none
theorem impl_minimized.calls (A0_0 : Option Addr) (c0_0 : Nat) (l0_0 : List Bool) (A0_1 : Option Addr) (c0_1 : Nat) (l0_1 : List (List Int)) (a1 : Int) (r1 : List Bool) (r2 : List (List Int)) (w : World) (hr0_0 : Kd.C Kd.bool w A0_0 l0_0.length l0_0) (hc0_0 : l0_0.length ≤ c0_0) (hr0_1 : Kd.C (Kd.slice 3 (Kd.int .i64)) w A0_1 l0_1.length l0_1) (hc0_1 : l0_1.length ≤ c0_1) (h : impl_minimized.f l0_0 l0_1 a1 = some (r1, r2)) :
    Calls Try.prog 93 #[.agg #[.slice A0_0 l0_0.length c0_0, .slice A0_1 l0_1.length c0_1], .int .i64 a1] w fun e w' => ∃ v0_ v1_ : Value, e = .returned (.agg #[v0_, v1_]) ∧ Kd.R Kd.bool 4 w' w.heap.size (fun _ => True) v0_ r1 ∧ Kd.S (Kd.slice 3 (Kd.int .i64)) 54 w' w.heap.size (fun _ => True) v1_ r2 ∧ Below w.heap.size w w' := by
  unfold impl_minimized.f at h
  split at h
  · rename_i hp
    obtain ⟨h1, h2, h3, h4, h5⟩ := hp
    have h := Option.some.inj h
    have e1 : (Mn.minD l0_0 l0_1 a1).1 = r1 := by rw [h]
    have e2 : (Mn.minD l0_0 l0_1 a1).2 = r2 := by rw [h]
    rw [← e1, ← e2]
    exact Wk.minCalls A0_0 c0_0 l0_0 A0_1 c0_1 l0_1 a1 w hr0_0 hr0_1 h1 h2 h3 ⟨h4, h5⟩
  · cases h
end Go.Proofs.Ytoknogcefajfiaa.P
end
section
namespace Go.Proofs.Ytoknogcefajfiaa.P
open Go.RowKit Go.Proofs.YtoknogcefajfiaaW.PrintWords Go.Proofs.YtoknogcefajfiaaW.PrintLast Go.Proofs.YtoknogcefajfiaaW.PrintMore
attribute [local go_sem] max2_int min2_int max_two min_two max_three min_three max_four min_four
set_option linter.unusedVariables false
set_option linter.unusedSimpArgs false
def impl_MinimizeDfa.f (l0_0 : List Bool) (l0_1 : List (List Int)) : Option (List Bool × (List (List Int))) := (impl_IsValidDfa.f l0_0 l0_1).bind fun t895 => (if t895 = true then ((impl_minimized.f l0_0 l0_1 0).bind fun bt896 => (some (bt896.1, bt896.2))) else (some (([] : List Bool), ([] : List (List Int)))))
set_option maxHeartbeats 8000000 in
set_option maxRecDepth 100000 in
theorem impl_MinimizeDfa.calls (A0_0 : Option Addr) (c0_0 : Nat) (l0_0 : List Bool) (A0_1 : Option Addr) (c0_1 : Nat) (l0_1 : List (List Int)) (r1 : List Bool) (r2 : List (List Int)) (w : World) (hr0_0 : Kd.C Kd.bool w A0_0 l0_0.length l0_0) (hc0_0 : l0_0.length ≤ c0_0) (hr0_1 : Kd.C (Kd.slice 3 (Kd.int .i64)) w A0_1 l0_1.length l0_1) (hc0_1 : l0_1.length ≤ c0_1) (h : impl_MinimizeDfa.f l0_0 l0_1 = some (r1, r2)) :
  Calls Try.prog 48 #[.agg #[.slice A0_0 l0_0.length c0_0, .slice A0_1 l0_1.length c0_1]] w fun e w' => ∃ v0_ v1_ : Value, e = .returned (.agg #[v0_, v1_]) ∧ Kd.R Kd.bool 4 w' w.heap.size (fun _ => True) v0_ r1 ∧ Kd.S (Kd.slice 3 (Kd.int .i64)) 54 w' w.heap.size (fun _ => True) v1_ r2 ∧ Below w.heap.size w w' := by
 have hu28 := Try.underlying28
 have HR0_0 := Aside0.mk hr0_0
 have HC0_0 := Aside0.mk hc0_0
 clear hr0_0 hc0_0
 have HR0_1 := Aside0.mk hr0_1
 have HC0_1 := Aside0.mk hc0_1
 clear hr0_1 hc0_1
 have HB := Aside0.mk (Below.refl w.heap.size w)
 have H : ((impl_IsValidDfa.f l0_0 l0_1).bind fun t895 => (if t895 = true then ((impl_minimized.f l0_0 l0_1 0).bind fun bt896 => (some (bt896.1, bt896.2))) else (some (([] : List Bool), ([] : List (List Int)))))) = some (r1, r2) := h
 clear h
 replace H := Option.bind_eq_some_iff.mp H
 obtain ⟨t895, A20, H⟩ := H
 replace H : (if t895 = true then ((impl_minimized.f l0_0 l0_1 0).bind fun bt896 => (some (bt896.1, bt896.2))) else (some (([] : List Bool), ([] : List (List Int))))) = some (r1, r2) := H
 have A2 := Aside0.mk A20
 clear A20
 by_cases c3 : t895 = true
 ·subst c3
  have H1 : ((impl_minimized.f l0_0 l0_1 0).bind fun bt896 => (some (bt896.1, bt896.2))) = some (r1, r2) := by rw [if_pos rfl] at H; exact H
  clear H
  have H := H1
  clear H1
  replace H := Option.bind_eq_some_iff.mp H
  obtain ⟨⟨t896, t899⟩, A40, H⟩ := H
  replace H : (some (t896, t899)) = some (r1, r2) := H
  have A4 := Aside0.mk A40
  clear A40
  simp only [Option.some.injEq, Prod.mk.injEq] at H
  obtain ⟨rfl, rfl⟩ := H
  go_enter Try.func48, Try.ntmps48
  go_wp2_with (first | ((with_reducible refine gate_dst (N := 1) rfl ?_); refine box_event ?hg (N := 1) ?hd (cs := #[.slice A0_0 l0_0.length c0_0, .slice A0_1 l0_1.length c0_1]) (t := 28) ?hr ?_; (case hd => rfl); (case hg => rfl); (case hr => first | (go_simp; done) | (go_simp; rfl)); intro gb893 hg w5 hbox hb; have n0_ := Aside0.mk (below_step (by repeat (first | (with_reducible first | exact HB.out | apply below_alloc | apply pw_below_drewN | apply below_drew1) | exact HB.out)) hb); have n1_ := Aside0.mk (hbox); have n2_ := Aside0.mk ((by rw [hg]; exact (below_size (by repeat (first | (with_reducible first | exact HB.out | apply below_alloc | apply pw_below_drewN | apply below_drew1) | exact HB.out))) : w.heap.size ≤ gb893)); have n3_ := Aside0.mk ((by rw [hg]; exact (below_size (by repeat (first | (with_reducible first | exact HB.out | apply below_alloc | apply pw_below_drewN | apply below_drew1) | exact HB.out))) : w.heap.size ≤ gb893)); clear HB; have HB := n0_; have BK893 := n1_; have GW893 := n2_; have GE893 := n3_; clear n0_ n1_ n2_ n3_; clear hb hbox hg) | ((with_reducible refine gate_dst (N := 2) rfl ?_); refine box_event ?hg (N := 2) ?hd (cs := #[.slice none 0 0, .slice none 0 0]) (t := 28) ?hr ?_; (case hd => rfl); (case hg => rfl); (case hr => first | (go_simp; done) | (go_simp; rfl)); intro gb894 hg w6 hbox hb; have n0_ := Aside0.mk (blk_below (g := gb893) (o := .cells #[.slice A0_0 l0_0.length c0_0, .slice A0_1 l0_1.length c0_1] 28 (0, 0)) (by (with_reducible repeat (first | refine blk_drewN ?_ _ | refine blk_drew ?_ | refine blk_alloc ?_ _)); exact BK893.out) hb); have n1_ := Aside0.mk (below_step (by repeat (first | (with_reducible first | exact HB.out | apply below_alloc | apply pw_below_drewN | apply below_drew1 | refine below_set ?_ GE893.out) | exact HB.out)) hb); have n2_ := Aside0.mk (hbox); have n3_ := Aside0.mk ((by rw [hg]; exact (below_size (by repeat (first | (with_reducible first | exact HB.out | apply below_alloc | apply pw_below_drewN | apply below_drew1 | refine below_set ?_ GE893.out) | exact HB.out))) : w.heap.size ≤ gb894)); have n4_ := Aside0.mk ((by rw [hg]; exact (below_size (by repeat (first | (with_reducible first | exact HB.out | apply below_alloc | apply pw_below_drewN | apply below_drew1 | refine below_set ?_ GE893.out) | exact HB.out))) : w.heap.size ≤ gb894)); have n5_ := Aside0.mk ((by rw [hg]; exact Nat.ne_of_lt (blk_lt (g := gb893) (o := .cells #[.slice A0_0 l0_0.length c0_0, .slice A0_1 l0_1.length c0_1] 28 (0, 0)) (by (with_reducible repeat (first | refine blk_drewN ?_ _ | refine blk_drew ?_ | refine blk_alloc ?_ _)); exact BK893.out)) : gb893 ≠ gb894)); have n6_ := Aside0.mk ((by rw [hg]; exact Nat.ne_of_gt (blk_lt (g := gb893) (o := .cells #[.slice A0_0 l0_0.length c0_0, .slice A0_1 l0_1.length c0_1] 28 (0, 0)) (by (with_reducible repeat (first | refine blk_drewN ?_ _ | refine blk_drew ?_ | refine blk_alloc ?_ _)); exact BK893.out)) : gb894 ≠ gb893)); clear BK893; clear HB; have BK893 := n0_; have HB := n1_; have BK894 := n2_; have GW894 := n3_; have GE894 := n4_; have NB893_894 := n5_; have NB894_893 := n6_; clear n0_ n1_ n2_ n3_ n4_ n5_ n6_; clear hb hbox hg; have hnb7 := NB893_894.out; have hnc7 := NB894_893.out; have hcz8_0 : w6.cell? ⟨gb893, 0, none⟩ = some (.slice A0_0 l0_0.length c0_0) := (blk_cell BK893.out 0).trans rfl; have hcz8_1 : w6.cell? ⟨gb893, 1, none⟩ = some (.slice A0_1 l0_1.length c0_1) := (blk_cell BK893.out 1).trans rfl; have hfz8_0 := blk_frozen BK893.out 0; have hfz8_1 := blk_frozen BK893.out 1) | ((with_reducible refine gate_callee (f := 18) rfl ?_); refine goesL_ (some 4) rfl rfl Try.func18 (by kernel_rfl) rfl #[.agg #[.slice A0_0 l0_0.length c0_0, .slice A0_1 l0_1.length c0_1]] rfl (by (try simp only [List.map_toArray, List.map_cons, List.map_nil]); first | done | rfl | (simp only [List.length_drop, List.length_take]; rfl)) ?_; (with_reducible refine (impl_IsValidDfa.calls _ _ l0_0 _ _ l0_1 true _ ?side1 ?side2 ?side3 ?side4 A2.out).mono ?_); (case side1 => repeat (first | exact (Kd.C_below HR0_0.out HB.out) | (with_reducible refine Kd.C_alloc ?_ _) | (with_reducible refine Kd.C_drewN ?_ _) | (with_reducible refine Kd.C_drew ?_))); (case side2 => exact HC0_0.out); (case side3 => repeat (first | exact (Kd.C_below HR0_1.out HB.out) | (with_reducible refine Kd.C_alloc ?_ _) | (with_reducible refine Kd.C_drewN ?_ _) | (with_reducible refine Kd.C_drew ?_))); (case side4 => exact HC0_1.out); rintro e w9 ⟨rfl, hb⟩; refine ⟨_, rfl, ?_⟩; have n0_ := Aside0.mk (blk_below (g := gb893) (o := .cells #[.slice A0_0 l0_0.length c0_0, .slice A0_1 l0_1.length c0_1] 28 (0, 0)) (by (with_reducible repeat (first | refine blk_drewN ?_ _ | refine blk_drew ?_ | refine blk_alloc ?_ _)); exact BK893.out) hb); have n1_ := Aside0.mk (blk_below (g := gb894) (o := .cells #[.slice none 0 0, .slice none 0 0] 28 (0, 0)) (by (with_reducible repeat (first | refine blk_drewN ?_ _ | refine blk_drew ?_ | refine blk_alloc ?_ _)); exact BK894.out) hb); have n2_ := Aside0.mk (below_step (by repeat (first | (with_reducible first | exact HB.out | apply below_alloc | apply pw_below_drewN | apply below_drew1 | refine below_set ?_ GE893.out | refine below_set ?_ GE894.out) | exact HB.out)) hb); clear BK893; clear BK894; clear HB; have BK893 := n0_; have BK894 := n1_; have HB := n2_; clear n0_ n1_ n2_; (try clear hb); (try clear hb2); (try clear hk); (try clear hi); have hcz10_0 : w9.cell? ⟨gb893, 0, none⟩ = some (.slice A0_0 l0_0.length c0_0) := (blk_cell BK893.out 0).trans rfl; have hcz10_1 : w9.cell? ⟨gb893, 1, none⟩ = some (.slice A0_1 l0_1.length c0_1) := (blk_cell BK893.out 1).trans rfl; have hfz10_0 := blk_frozen BK893.out 0; have hfz10_1 := blk_frozen BK893.out 1) | ((with_reducible refine gate_callee (f := 93) rfl ?_); refine goesL_ (some 8) rfl rfl Try.func93 (by kernel_rfl) rfl #[.agg #[.slice A0_0 l0_0.length c0_0, .slice A0_1 l0_1.length c0_1], .int .i64 0] rfl (by (try simp only [List.map_toArray, List.map_cons, List.map_nil]); first | done | rfl | (simp only [List.length_drop, List.length_take]; rfl)) ?_; (with_reducible refine (impl_minimized.calls _ _ l0_0 _ _ l0_1 0 t896 t899 _ ?side1 ?side2 ?side3 ?side4 A4.out).mono ?_); (case side1 => repeat (first | exact (Kd.C_below HR0_0.out HB.out) | (with_reducible refine Kd.C_alloc ?_ _) | (with_reducible refine Kd.C_drewN ?_ _) | (with_reducible refine Kd.C_drew ?_))); (case side2 => exact HC0_0.out); (case side3 => repeat (first | exact (Kd.C_below HR0_1.out HB.out) | (with_reducible refine Kd.C_alloc ?_ _) | (with_reducible refine Kd.C_drewN ?_ _) | (with_reducible refine Kd.C_drew ?_))); (case side4 => exact HC0_1.out); rintro e w11 ⟨v897, v900, rfl, ho0, ho1, hb⟩; refine ⟨_, rfl, ?_⟩; have n0_ := Aside0.mk (Kd.R_lower ho0 (below_size (by repeat (first | (with_reducible first | exact HB.out | apply below_alloc | apply pw_below_drewN | apply below_drew1 | refine below_set ?_ GE893.out | refine below_set ?_ GE894.out) | exact HB.out)))); have n1_ := Aside0.mk (Kd.S_lower ho1 (below_size (by repeat (first | (with_reducible first | exact HB.out | apply below_alloc | apply pw_below_drewN | apply below_drew1 | refine below_set ?_ GE893.out | refine below_set ?_ GE894.out) | exact HB.out)))); have n2_ := Aside0.mk (blk_below (g := gb893) (o := .cells #[.slice A0_0 l0_0.length c0_0, .slice A0_1 l0_1.length c0_1] 28 (0, 0)) (by (with_reducible repeat (first | refine blk_drewN ?_ _ | refine blk_drew ?_ | refine blk_alloc ?_ _)); exact BK893.out) hb); have n3_ := Aside0.mk (blk_below (g := gb894) (o := .cells #[.slice none 0 0, .slice none 0 0] 28 (0, 0)) (by (with_reducible repeat (first | refine blk_drewN ?_ _ | refine blk_drew ?_ | refine blk_alloc ?_ _)); exact BK894.out) hb); have n4_ := Aside0.mk (below_step (by repeat (first | (with_reducible first | exact HB.out | apply below_alloc | apply pw_below_drewN | apply below_drew1 | refine below_set ?_ GE893.out | refine below_set ?_ GE894.out) | exact HB.out)) hb); clear BK893; clear BK894; clear HB; have HO898 := n0_; have HO901 := n1_; have BK893 := n2_; have BK894 := n3_; have HB := n4_; clear n0_ n1_ n2_ n3_ n4_; (try clear hb); (try clear hb2); (try clear hk); (try clear hi); (try clear ho0); (try clear ho1); obtain ⟨Ao12, co12, eo12⟩ := Kd.R_slice HO898.out; subst eo12; have hcz13_0 : w11.cell? ⟨gb894, 0, none⟩ = some (.slice none 0 0) := (blk_cell BK894.out 0).trans rfl; have hcz13_1 : w11.cell? ⟨gb894, 1, none⟩ = some (.slice none 0 0) := (blk_cell BK894.out 1).trans rfl; have hfz13_0 := blk_frozen BK894.out 0; have hfz13_1 := blk_frozen BK894.out 1; obtain ⟨Ao14, co14, eo14⟩ := Kd.S_slice HO901.out; subst eo14))
  refine bodyPost_ret (results_cell_row rfl _ _ gb894 28 #[.slice Ao12 t896.length co12, .slice Ao14 t899.length co14] (0, 0) _ rfl (by (with_reducible repeat (first | refine blk_drewN ?_ _ | refine blk_drew ?_ | refine blk_alloc ?_ _)); refine blk_put (cs := #[.slice Ao12 t896.length co12, .slice none 0 0]) ?_ 1 _ rfl; (with_reducible repeat (first | refine blk_drewN ?_ _ | refine blk_drew ?_ | refine blk_alloc ?_ _)); refine blk_put (cs := #[.slice none 0 0, .slice none 0 0]) ?_ 0 _ rfl; (with_reducible repeat (first | refine blk_drewN ?_ _ | refine blk_drew ?_ | refine blk_alloc ?_ _)); exact BK894.out) Try.underlying28 rfl (by kernel_rfl)) rfl ?_
  exact ⟨_, _, by first | rfl | (simp [errW_none, errW_some] <;> rfl) | (simp [*, errW_none, errW_some] <;> rfl), by (with_reducible repeat (first | apply Kd.R_alloc | apply Kd.R_drewN | apply Kd.R_drew)); exact Kd.R_mono (Kd.R_far (p := ⟨gb894, 1, none⟩) (Kd.R_far (p := ⟨gb894, 0, none⟩) (Kd.R_types HO898.out BK894.out (by decide)) (fun _ hk => hk.2) (.slice Ao12 t896.length co12)) (fun _ hk => hk.2) (.slice Ao14 t899.length co14)) (fun _ hk => trivial), by (with_reducible repeat (first | apply Kd.S_alloc | apply Kd.S_drewN | apply Kd.S_drew)); exact Kd.S_mono (Kd.S_far (p := ⟨gb894, 1, none⟩) (Kd.S_far (p := ⟨gb894, 0, none⟩) (Kd.S_types HO901.out BK894.out (by decide)) (fun _ hk => hk.2) (.slice Ao12 t896.length co12)) (fun _ hk => hk.2) (.slice Ao14 t899.length co14)) (fun _ hk => trivial), by repeat (first | (with_reducible first | exact HB.out | apply below_alloc | apply pw_below_drewN | apply below_drew1 | refine below_set ?_ GE893.out | refine below_set ?_ GE894.out) | exact HB.out)⟩
 ·replace c3 := Bool.eq_false_iff.mpr c3
  subst c3
  have H1 : (some (([] : List Bool), ([] : List (List Int)))) = some (r1, r2) := by rw [if_neg (show ¬ (false = true) by decide)] at H; exact H
  clear H
  have H := H1
  clear H1
  simp only [Option.some.injEq, Prod.mk.injEq] at H
  obtain ⟨rfl, rfl⟩ := H
  go_enter Try.func48, Try.ntmps48
  go_wp2_with (first | ((with_reducible refine gate_dst (N := 1) rfl ?_); refine box_event ?hg (N := 1) ?hd (cs := #[.slice A0_0 l0_0.length c0_0, .slice A0_1 l0_1.length c0_1]) (t := 28) ?hr ?_; (case hd => rfl); (case hg => rfl); (case hr => first | (go_simp; done) | (go_simp; rfl)); intro gb893 hg w15 hbox hb; have n0_ := Aside0.mk (below_step (by repeat (first | (with_reducible first | exact HB.out | apply below_alloc | apply pw_below_drewN | apply below_drew1) | exact HB.out)) hb); have n1_ := Aside0.mk (hbox); have n2_ := Aside0.mk ((by rw [hg]; exact (below_size (by repeat (first | (with_reducible first | exact HB.out | apply below_alloc | apply pw_below_drewN | apply below_drew1) | exact HB.out))) : w.heap.size ≤ gb893)); have n3_ := Aside0.mk ((by rw [hg]; exact (below_size (by repeat (first | (with_reducible first | exact HB.out | apply below_alloc | apply pw_below_drewN | apply below_drew1) | exact HB.out))) : w.heap.size ≤ gb893)); clear HB; have HB := n0_; have BK893 := n1_; have GW893 := n2_; have GE893 := n3_; clear n0_ n1_ n2_ n3_; clear hb hbox hg) | ((with_reducible refine gate_dst (N := 2) rfl ?_); refine box_event ?hg (N := 2) ?hd (cs := #[.slice none 0 0, .slice none 0 0]) (t := 28) ?hr ?_; (case hd => rfl); (case hg => rfl); (case hr => first | (go_simp; done) | (go_simp; rfl)); intro gb894 hg w16 hbox hb; have n0_ := Aside0.mk (blk_below (g := gb893) (o := .cells #[.slice A0_0 l0_0.length c0_0, .slice A0_1 l0_1.length c0_1] 28 (0, 0)) (by (with_reducible repeat (first | refine blk_drewN ?_ _ | refine blk_drew ?_ | refine blk_alloc ?_ _)); exact BK893.out) hb); have n1_ := Aside0.mk (below_step (by repeat (first | (with_reducible first | exact HB.out | apply below_alloc | apply pw_below_drewN | apply below_drew1 | refine below_set ?_ GE893.out) | exact HB.out)) hb); have n2_ := Aside0.mk (hbox); have n3_ := Aside0.mk ((by rw [hg]; exact (below_size (by repeat (first | (with_reducible first | exact HB.out | apply below_alloc | apply pw_below_drewN | apply below_drew1 | refine below_set ?_ GE893.out) | exact HB.out))) : w.heap.size ≤ gb894)); have n4_ := Aside0.mk ((by rw [hg]; exact (below_size (by repeat (first | (with_reducible first | exact HB.out | apply below_alloc | apply pw_below_drewN | apply below_drew1 | refine below_set ?_ GE893.out) | exact HB.out))) : w.heap.size ≤ gb894)); have n5_ := Aside0.mk ((by rw [hg]; exact Nat.ne_of_lt (blk_lt (g := gb893) (o := .cells #[.slice A0_0 l0_0.length c0_0, .slice A0_1 l0_1.length c0_1] 28 (0, 0)) (by (with_reducible repeat (first | refine blk_drewN ?_ _ | refine blk_drew ?_ | refine blk_alloc ?_ _)); exact BK893.out)) : gb893 ≠ gb894)); have n6_ := Aside0.mk ((by rw [hg]; exact Nat.ne_of_gt (blk_lt (g := gb893) (o := .cells #[.slice A0_0 l0_0.length c0_0, .slice A0_1 l0_1.length c0_1] 28 (0, 0)) (by (with_reducible repeat (first | refine blk_drewN ?_ _ | refine blk_drew ?_ | refine blk_alloc ?_ _)); exact BK893.out)) : gb894 ≠ gb893)); clear BK893; clear HB; have BK893 := n0_; have HB := n1_; have BK894 := n2_; have GW894 := n3_; have GE894 := n4_; have NB893_894 := n5_; have NB894_893 := n6_; clear n0_ n1_ n2_ n3_ n4_ n5_ n6_; clear hb hbox hg; have hnb17 := NB893_894.out; have hnc17 := NB894_893.out; have hcz18_0 : w16.cell? ⟨gb893, 0, none⟩ = some (.slice A0_0 l0_0.length c0_0) := (blk_cell BK893.out 0).trans rfl; have hcz18_1 : w16.cell? ⟨gb893, 1, none⟩ = some (.slice A0_1 l0_1.length c0_1) := (blk_cell BK893.out 1).trans rfl; have hfz18_0 := blk_frozen BK893.out 0; have hfz18_1 := blk_frozen BK893.out 1) | ((with_reducible refine gate_callee (f := 18) rfl ?_); refine goesL_ (some 4) rfl rfl Try.func18 (by kernel_rfl) rfl #[.agg #[.slice A0_0 l0_0.length c0_0, .slice A0_1 l0_1.length c0_1]] rfl (by (try simp only [List.map_toArray, List.map_cons, List.map_nil]); first | done | rfl | (simp only [List.length_drop, List.length_take]; rfl)) ?_; (with_reducible refine (impl_IsValidDfa.calls _ _ l0_0 _ _ l0_1 false _ ?side1 ?side2 ?side3 ?side4 A2.out).mono ?_); (case side1 => repeat (first | exact (Kd.C_below HR0_0.out HB.out) | (with_reducible refine Kd.C_alloc ?_ _) | (with_reducible refine Kd.C_drewN ?_ _) | (with_reducible refine Kd.C_drew ?_))); (case side2 => exact HC0_0.out); (case side3 => repeat (first | exact (Kd.C_below HR0_1.out HB.out) | (with_reducible refine Kd.C_alloc ?_ _) | (with_reducible refine Kd.C_drewN ?_ _) | (with_reducible refine Kd.C_drew ?_))); (case side4 => exact HC0_1.out); rintro e w19 ⟨rfl, hb⟩; refine ⟨_, rfl, ?_⟩; have n0_ := Aside0.mk (blk_below (g := gb893) (o := .cells #[.slice A0_0 l0_0.length c0_0, .slice A0_1 l0_1.length c0_1] 28 (0, 0)) (by (with_reducible repeat (first | refine blk_drewN ?_ _ | refine blk_drew ?_ | refine blk_alloc ?_ _)); exact BK893.out) hb); have n1_ := Aside0.mk (blk_below (g := gb894) (o := .cells #[.slice none 0 0, .slice none 0 0] 28 (0, 0)) (by (with_reducible repeat (first | refine blk_drewN ?_ _ | refine blk_drew ?_ | refine blk_alloc ?_ _)); exact BK894.out) hb); have n2_ := Aside0.mk (below_step (by repeat (first | (with_reducible first | exact HB.out | apply below_alloc | apply pw_below_drewN | apply below_drew1 | refine below_set ?_ GE893.out | refine below_set ?_ GE894.out) | exact HB.out)) hb); clear BK893; clear BK894; clear HB; have BK893 := n0_; have BK894 := n1_; have HB := n2_; clear n0_ n1_ n2_; (try clear hb); (try clear hb2); (try clear hk); (try clear hi); have hcz20_0 : w19.cell? ⟨gb894, 0, none⟩ = some (.slice none 0 0) := (blk_cell BK894.out 0).trans rfl; have hcz20_1 : w19.cell? ⟨gb894, 1, none⟩ = some (.slice none 0 0) := (blk_cell BK894.out 1).trans rfl; have hfz20_0 := blk_frozen BK894.out 0; have hfz20_1 := blk_frozen BK894.out 1))
  refine bodyPost_ret (results_cell_row rfl _ _ gb894 28 #[.slice none 0 0, .slice none 0 0] (0, 0) _ rfl (by (with_reducible repeat (first | refine blk_drewN ?_ _ | refine blk_drew ?_ | refine blk_alloc ?_ _)); refine blk_put (cs := #[.slice none 0 0, .slice none 0 0]) ?_ 1 _ rfl; (with_reducible repeat (first | refine blk_drewN ?_ _ | refine blk_drew ?_ | refine blk_alloc ?_ _)); refine blk_put (cs := #[.slice none 0 0, .slice none 0 0]) ?_ 0 _ rfl; (with_reducible repeat (first | refine blk_drewN ?_ _ | refine blk_drew ?_ | refine blk_alloc ?_ _)); exact BK894.out) Try.underlying28 rfl (by kernel_rfl)) rfl ?_
  exact ⟨_, _, by first | rfl | (simp [errW_none, errW_some] <;> rfl) | (simp [*, errW_none, errW_some] <;> rfl), by first | exact Kd.R_nil _ _ _ _ _ | exact Kd.N_nil _ _ _ _ _ | exact Kd.V_nil _ _ _ _ _ | exact Kd.Q_nil _ _ _ _ _ | exact Kd.S_nil _ _ _ _ _, by first | exact Kd.S_nil _ _ _ _ _ | exact Kd.N_nil _ _ _ _ _ | exact Kd.V_nil _ _ _ _ _ | exact Kd.Q_nil _ _ _ _ _ | exact Kd.R_nil _ _ _ _ _, by repeat (first | (with_reducible first | exact HB.out | apply below_alloc | apply pw_below_drewN | apply below_drew1 | refine below_set ?_ GE893.out | refine below_set ?_ GE894.out) | exact HB.out)⟩
def laws_heldIntS.l0 : Nat → List Int → Int → Int → Option (Int)
  | 0, _, _, _ => none
  | k + 1, x0, x1, x5 => if x5 < (x0.length : Int) then (if 0 ≤ x5 then (if (rd x0 x5) = x1 then (laws_heldIntS.l0 k x0 (wrap64 (x1 + 1)) (wrap64 (x5 + 1))) else (some (-1))) else (none)) else (some x1)
def laws_heldIntS.f (k : Nat) (l0 : List Int) (a1 : Int) : Option (Int) := laws_heldIntS.l0 k l0 a1 0
theorem laws_heldIntS.mono_l : ∀ k, (∀ y0 y1 y2, LeO (laws_heldIntS.l0 k y0 y1 y2) (laws_heldIntS.l0 (k + 1) y0 y1 y2))
  | 0 => fun _ _ _ r h => by simp [laws_heldIntS.l0] at h
  | k + 1 => by
    have ih0 := laws_heldIntS.mono_l k
    · intro y0 y1 y2
      unfold laws_heldIntS.l0
      repeat' first
      | (with_reducible exact ih0 _ _ _)
      | (with_reducible exact LeO.refl _)
      | (with_reducible exact LeO.none _)
      | (with_reducible refine LeO.ite ?_ ?_)
      | (with_reducible refine LeO.bind ?_ (fun _ => ?_))
      | exact ih0 _ _ _
      | exact LeO.none _
      | refine LeO.ite ?_ ?_
      | refine LeO.bind ?_ (fun _ => ?_)
theorem laws_heldIntS.mono : ∀ a0 a1 k, LeO (laws_heldIntS.f k a0 a1) (laws_heldIntS.f (k + 1) a0 a1) := by
  intro a0 a1 k
  have ih0 := laws_heldIntS.mono_l k
  unfold laws_heldIntS.f
  repeat' first
      | (with_reducible exact ih0 _ _ _)
      | (with_reducible exact LeO.refl _)
      | (with_reducible exact LeO.none _)
      | (with_reducible refine LeO.ite ?_ ?_)
      | (with_reducible refine LeO.bind ?_ (fun _ => ?_))
      | exact ih0 _ _ _
      | exact LeO.none _
      | refine LeO.ite ?_ ?_
      | refine LeO.bind ?_ (fun _ => ?_)
set_option maxHeartbeats 8000000 in
set_option maxRecDepth 100000 in
theorem laws_heldIntS.calls (k : Nat) (A0 : Option Addr) (c0 : Nat) (l0 : List Int) (a1 : Int) (r : Int) (w : World) (hr0 : Kd.C (Kd.int .i64) w A0 l0.length l0) (hc0 : l0.length ≤ c0) (h : laws_heldIntS.f k l0 a1 = some r) :
    Calls Try.prog 110 #[.slice A0 l0.length c0, .int .i64 a1] w fun e w' => e = .returned (.int .i64 r) ∧ Drawn0 w w' := by
  have HR0 := Aside0.mk hr0
  have HC0 := Aside0.mk hc0
  clear hr0 hc0
  have H : (laws_heldIntS.l0 k l0 a1 0) = some r := h
  clear h
  have H' := Aside0.mk H
  clear H
  go_enter Try.func110, Try.ntmps110
  go_wp2
  go_loopg [1, 5] k (fun kq v1 v5 w' => ∃ (x1_1 : Int) (x5_1 : Int), v1 = .int .i64 x1_1 ∧ v5 = .int .i64 x5_1 ∧ Aside0 (laws_heldIntS.l0 kq l0 x1_1 x5_1 = some r) ∧ Aside0 (kq ≤ k) ∧ Drawn0 w w')
  case atStart => exact ⟨(a1), (0), (by first | rfl | (simp; done) | (simp [*]; done)), (by first | rfl | (simp; done) | (simp [*]; done)), H', ⟨Nat.le_refl _⟩, by repeat (first | exact Drawn0.refl _ | apply Drawn0.step)⟩
  case round =>
    clear H'
    try clear c1
    try clear p2
    obtain ⟨x1_1, x5_1, rfl, rfl, HA, HK1, ⟨m1, rfl⟩⟩ := hrel
    cases gk with
    | zero => exact absurd HA.out (by simp [laws_heldIntS.l0])
    | succ k1 =>
      have H := HA.out
      clear HA
      simp only [laws_heldIntS.l0] at H
      by_cases c3 : x5_1 < (l0.length : Int)
      · rw [if_pos c3] at H
        have c3b0 : decide (x5_1 < (l0.length : Int)) = true := decide_eq_true c3
        clear c3
        by_cases c4 : 0 ≤ x5_1
        · rw [if_pos c4] at H
          have c4b0 : decide (0 ≤ x5_1) = true := decide_eq_true c4
          clear c4
          by_cases c5 : (rd l0 x5_1) = x1_1
          · rw [if_pos c5] at H
            have c5b0 : ((rd l0 x5_1) == x1_1) = true := beq_iff_eq.mpr c5
            have c5b1 : ((rd l0 x5_1) != x1_1) = false := bne_eq_false_iff_eq.mpr c5
            clear c5
            have H' := Aside0.mk H
            clear H
            have p902 : 0 ≤ (x5_1 : Int) := of_decide_eq_true (by first | (with_reducible assumption) | assumption)
            have q902 : x5_1 < (l0.length : Int) := of_decide_eq_true (by first | (with_reducible assumption) | assumption)
            obtain ⟨ad902, e902, hx902_0⟩ := Kd.at_int HR0.out x5_1 p902 q902
            cases e902
            replace p902 := eq_true p902
            replace q902 := eq_true q902
            go_wp2
            go_roundg k1
            case measure => have := HK1.out; omega
            case rel => exact ⟨(wrap64 (x1_1 + 1)), (wrap64 (x5_1 + 1)), (by first | rfl | (simp; done) | (simp [*]; done)), (by first | rfl | (simp; done) | (simp [*]; done)), H', ⟨by have := HK1.out; omega⟩, by repeat (first | exact Drawn0.refl _ | apply Drawn0.step)⟩
          · rw [if_neg c5] at H
            have c5b0 : ((rd l0 x5_1) == x1_1) = false := beq_eq_false_iff_ne.mpr c5
            have c5b1 : ((rd l0 x5_1) != x1_1) = true := bne_iff_ne.mpr c5
            obtain rfl := Option.some.inj H
            simp only [Option.some.injEq, Prod.mk.injEq] at H
            obtain ⟨rfl⟩ := H
            have p902 : 0 ≤ (x5_1 : Int) := of_decide_eq_true (by first | (with_reducible assumption) | assumption)
            have q902 : x5_1 < (l0.length : Int) := of_decide_eq_true (by first | (with_reducible assumption) | assumption)
            obtain ⟨ad902, e902, hx902_0⟩ := Kd.at_int HR0.out x5_1 p902 q902
            cases e902
            replace p902 := eq_true p902
            replace q902 := eq_true q902
            go_wp2
            go_ret
            exact ⟨by first | rfl | (simp; done) | (simp [*]; done), by repeat (first | exact Drawn0.refl _ | apply Drawn0.step)⟩
        · rw [if_neg c4] at H
          exact absurd H (by simp)
      · rw [if_neg c3] at H
        have c3b0 : decide (x5_1 < (l0.length : Int)) = false := decide_eq_false c3
        clear c3
        obtain rfl := Option.some.inj H
        simp only [Option.some.injEq, Prod.mk.injEq] at H
        obtain ⟨rfl⟩ := H
        go_wp2
        go_ret
        exact ⟨by first | rfl | (simp; done) | (simp [*]; done), by repeat (first | exact Drawn0.refl _ | apply Drawn0.step)⟩
def laws_heldIntSS.l0 : Nat → List (List Int) → Int → Int → Option (Int)
  | 0, _, _, _ => none
  | k + 1, x0, x1, x5 => if x5 < (x0.length : Int) then (if 0 ≤ x5 then ((laws_heldIntS.f k (rd_L2 x0 x5) x1).bind fun t904 => (if t904 < 0 then (some (-1)) else (laws_heldIntSS.l0 k x0 t904 (wrap64 (x5 + 1))))) else (none)) else (some x1)
def laws_heldIntSS.f (k : Nat) (l0 : List (List Int)) (a1 : Int) : Option (Int) := laws_heldIntSS.l0 k l0 a1 0
theorem laws_heldIntSS.mono_l : ∀ k, (∀ y0 y1 y2, LeO (laws_heldIntSS.l0 k y0 y1 y2) (laws_heldIntSS.l0 (k + 1) y0 y1 y2))
  | 0 => fun _ _ _ r h => by simp [laws_heldIntSS.l0] at h
  | k + 1 => by
    have ih0 := laws_heldIntSS.mono_l k
    · intro y0 y1 y2
      unfold laws_heldIntSS.l0
      repeat' first
      | (with_reducible exact ih0 _ _ _)
      | (with_reducible exact laws_heldIntS.mono _ _ _)
      | (with_reducible exact LeO.refl _)
      | (with_reducible exact LeO.none _)
      | (with_reducible refine LeO.ite ?_ ?_)
      | (with_reducible refine LeO.bind ?_ (fun _ => ?_))
      | exact ih0 _ _ _
      | exact laws_heldIntS.mono _ _ _
      | exact LeO.none _
      | refine LeO.ite ?_ ?_
      | refine LeO.bind ?_ (fun _ => ?_)
theorem laws_heldIntSS.mono : ∀ a0 a1 k, LeO (laws_heldIntSS.f k a0 a1) (laws_heldIntSS.f (k + 1) a0 a1) := by
  intro a0 a1 k
  have ih0 := laws_heldIntSS.mono_l k
  unfold laws_heldIntSS.f
  repeat' first
      | (with_reducible exact ih0 _ _ _)
      | (with_reducible exact laws_heldIntS.mono _ _ _)
      | (with_reducible exact LeO.refl _)
      | (with_reducible exact LeO.none _)
      | (with_reducible refine LeO.ite ?_ ?_)
      | (with_reducible refine LeO.bind ?_ (fun _ => ?_))
      | exact ih0 _ _ _
      | exact laws_heldIntS.mono _ _ _
      | exact LeO.none _
      | refine LeO.ite ?_ ?_
      | refine LeO.bind ?_ (fun _ => ?_)
set_option maxHeartbeats 8000000 in
set_option maxRecDepth 100000 in
theorem laws_heldIntSS.calls (k : Nat) (A0 : Option Addr) (c0 : Nat) (l0 : List (List Int)) (a1 : Int) (r : Int) (w : World) (hr0 : Kd.C (Kd.slice 3 (Kd.int .i64)) w A0 l0.length l0) (hc0 : l0.length ≤ c0) (h : laws_heldIntSS.f k l0 a1 = some r) :
    Calls Try.prog 94 #[.slice A0 l0.length c0, .int .i64 a1] w fun e w' => e = .returned (.int .i64 r) ∧ Drawn0 w w' := by
  have HR0 := Aside0.mk hr0
  have HC0 := Aside0.mk hc0
  clear hr0 hc0
  have H : (laws_heldIntSS.l0 k l0 a1 0) = some r := h
  clear h
  have H' := Aside0.mk H
  clear H
  go_enter Try.func94, Try.ntmps94
  go_wp2
  go_loopg [1, 5] k (fun kq v1 v5 w' => ∃ (x1_1 : Int) (x5_1 : Int), v1 = .int .i64 x1_1 ∧ v5 = .int .i64 x5_1 ∧ Aside0 (laws_heldIntSS.l0 kq l0 x1_1 x5_1 = some r) ∧ Aside0 (kq ≤ k) ∧ Drawn0 w w')
  case atStart => exact ⟨(a1), (0), (by first | rfl | (simp; done) | (simp [*]; done)), (by first | rfl | (simp; done) | (simp [*]; done)), H', ⟨Nat.le_refl _⟩, by repeat (first | exact Drawn0.refl _ | apply Drawn0.step)⟩
  case round =>
    clear H'
    try clear p2
    obtain ⟨x1_1, x5_1, rfl, rfl, HA, HK1, ⟨m1, rfl⟩⟩ := hrel
    cases gk with
    | zero => exact absurd HA.out (by simp [laws_heldIntSS.l0])
    | succ k1 =>
      have H := HA.out
      clear HA
      simp only [laws_heldIntSS.l0] at H
      by_cases c3 : x5_1 < (l0.length : Int)
      · rw [if_pos c3] at H
        have c3b0 : decide (x5_1 < (l0.length : Int)) = true := decide_eq_true c3
        clear c3
        by_cases c4 : 0 ≤ x5_1
        · rw [if_pos c4] at H
          have c4b0 : decide (0 ≤ x5_1) = true := decide_eq_true c4
          clear c4
          replace H := Option.bind_eq_some_iff.mp H
          obtain ⟨t904, A50, H⟩ := H
          replace H : (if t904 < 0 then (some (-1)) else (laws_heldIntSS.l0 k1 l0 t904 (wrap64 (x5_1 + 1)))) = some r := H
          have A5 := Aside0.mk A50
          clear A50
          by_cases c6 : t904 < 0
          · rw [if_pos c6] at H
            have c6b0 : decide (t904 < 0) = true := decide_eq_true c6
            clear c6
            obtain rfl := Option.some.inj H
            simp only [Option.some.injEq, Prod.mk.injEq] at H
            obtain ⟨rfl⟩ := H
            have p903 : 0 ≤ (x5_1 : Int) := of_decide_eq_true (by first | (with_reducible assumption) | assumption)
            have q903 : x5_1 < (l0.length : Int) := of_decide_eq_true (by first | (with_reducible assumption) | assumption)
            obtain ⟨ad903, A903_0, c903_0, e903, hx903_0, hl903_0, hi903_0⟩ := at_L2 HR0.out x5_1 p903 q903
            cases e903
            have HR903_0 := Aside0.mk hi903_0
            have HC903_0 := Aside0.mk hl903_0
            clear hi903_0 hl903_0
            replace p903 := eq_true p903
            replace q903 := eq_true q903
            go_wp2_with (first | ((with_reducible refine gate_callee (f := 110) rfl ?_); refine goesL_ (some 17) rfl rfl Try.func110 (by kernel_rfl) rfl #[.slice A903_0 (rd_L2 l0 x5_1).length c903_0, .int .i64 x1_1] rfl (by (try simp only [List.map_toArray, List.map_cons, List.map_nil]); first | done | rfl | (simp only [List.length_drop, List.length_take]; rfl)) ?_; (with_reducible refine (laws_heldIntS.calls k1 _ _ (rd_L2 l0 x5_1) x1_1 t904 _ ?side1 ?side2 A5.out).mono ?_); (case side1 => repeat (first | exact HR903_0.out | (with_reducible refine Kd.C_alloc ?_ _) | (with_reducible refine Kd.C_drewN ?_ _) | (with_reducible refine Kd.C_drew ?_))); (case side2 => exact HC903_0.out); rintro e w' ⟨rfl, ⟨nd, rfl⟩⟩; refine ⟨_, rfl, ?_⟩))
            go_ret
            exact ⟨by first | rfl | (simp; done) | (simp [*]; done), by repeat (first | exact Drawn0.refl _ | apply Drawn0.step)⟩
          · rw [if_neg c6] at H
            have c6b0 : decide (t904 < 0) = false := decide_eq_false c6
            clear c6
            have H' := Aside0.mk H
            clear H
            have p903 : 0 ≤ (x5_1 : Int) := of_decide_eq_true (by first | (with_reducible assumption) | assumption)
            have q903 : x5_1 < (l0.length : Int) := of_decide_eq_true (by first | (with_reducible assumption) | assumption)
            obtain ⟨ad903, A903_0, c903_0, e903, hx903_0, hl903_0, hi903_0⟩ := at_L2 HR0.out x5_1 p903 q903
            cases e903
            have HR903_0 := Aside0.mk hi903_0
            have HC903_0 := Aside0.mk hl903_0
            clear hi903_0 hl903_0
            replace p903 := eq_true p903
            replace q903 := eq_true q903
            go_wp2_with (first | ((with_reducible refine gate_callee (f := 110) rfl ?_); refine goesL_ (some 17) rfl rfl Try.func110 (by kernel_rfl) rfl #[.slice A903_0 (rd_L2 l0 x5_1).length c903_0, .int .i64 x1_1] rfl (by (try simp only [List.map_toArray, List.map_cons, List.map_nil]); first | done | rfl | (simp only [List.length_drop, List.length_take]; rfl)) ?_; (with_reducible refine (laws_heldIntS.calls k1 _ _ (rd_L2 l0 x5_1) x1_1 t904 _ ?side1 ?side2 A5.out).mono ?_); (case side1 => repeat (first | exact HR903_0.out | (with_reducible refine Kd.C_alloc ?_ _) | (with_reducible refine Kd.C_drewN ?_ _) | (with_reducible refine Kd.C_drew ?_))); (case side2 => exact HC903_0.out); rintro e w' ⟨rfl, ⟨nd, rfl⟩⟩; refine ⟨_, rfl, ?_⟩))
            go_roundg k1
            case measure => have := HK1.out; omega
            case rel => exact ⟨(t904), (wrap64 (x5_1 + 1)), (by first | rfl | (simp; done) | (simp [*]; done)), (by first | rfl | (simp; done) | (simp [*]; done)), H', ⟨by have := HK1.out; omega⟩, by repeat (first | exact Drawn0.refl _ | apply Drawn0.step)⟩
        · rw [if_neg c4] at H
          exact absurd H (by simp)
      · rw [if_neg c3] at H
        have c3b0 : decide (x5_1 < (l0.length : Int)) = false := decide_eq_false c3
        clear c3
        obtain rfl := Option.some.inj H
        simp only [Option.some.injEq, Prod.mk.injEq] at H
        obtain ⟨rfl⟩ := H
        go_wp2
        go_ret
        exact ⟨by first | rfl | (simp; done) | (simp [*]; done), by repeat (first | exact Drawn0.refl _ | apply Drawn0.step)⟩
def laws_heldDfa.f (k : Nat) (l0_0 : List Bool) (l0_1 : List (List Int)) (a1 : Int) : Option (Int) := (laws_heldBoolS.f k l0_0 a1).bind fun t906 => (if t906 < 0 then (some (-1)) else ((laws_heldIntSS.f k l0_1 t906).bind fun t907 => (if t907 < 0 then (some (-1)) else (some t907))))
theorem laws_heldDfa.mono : ∀ a0 a1 a2 k, LeO (laws_heldDfa.f k a0 a1 a2) (laws_heldDfa.f (k + 1) a0 a1 a2) := by
  intro a0 a1 a2 k
  unfold laws_heldDfa.f
  repeat' first
      | (with_reducible exact laws_heldBoolS.mono _ _ _)
      | (with_reducible exact laws_heldIntSS.mono _ _ _)
      | (with_reducible exact LeO.refl _)
      | (with_reducible exact LeO.none _)
      | (with_reducible refine LeO.ite ?_ ?_)
      | (with_reducible refine LeO.bind ?_ (fun _ => ?_))
      | exact laws_heldBoolS.mono _ _ _
      | exact laws_heldIntSS.mono _ _ _
      | exact LeO.none _
      | refine LeO.ite ?_ ?_
      | refine LeO.bind ?_ (fun _ => ?_)
set_option maxHeartbeats 8000000 in
set_option maxRecDepth 100000 in
theorem laws_heldDfa.calls (k : Nat) (A0_0 : Option Addr) (c0_0 : Nat) (l0_0 : List Bool) (A0_1 : Option Addr) (c0_1 : Nat) (l0_1 : List (List Int)) (a1 : Int) (r : Int) (w : World) (hr0_0 : Kd.C Kd.bool w A0_0 l0_0.length l0_0) (hc0_0 : l0_0.length ≤ c0_0) (hr0_1 : Kd.C (Kd.slice 3 (Kd.int .i64)) w A0_1 l0_1.length l0_1) (hc0_1 : l0_1.length ≤ c0_1) (h : laws_heldDfa.f k l0_0 l0_1 a1 = some r) :
    Calls Try.prog 49 #[.agg #[.slice A0_0 l0_0.length c0_0, .slice A0_1 l0_1.length c0_1], .int .i64 a1] w fun e w' => e = .returned (.int .i64 r) ∧ Below w.heap.size w w' := by
  have hu28 := Try.underlying28
  have HR0_0 := Aside0.mk hr0_0
  have HC0_0 := Aside0.mk hc0_0
  clear hr0_0 hc0_0
  have HR0_1 := Aside0.mk hr0_1
  have HC0_1 := Aside0.mk hc0_1
  clear hr0_1 hc0_1
  have HB := Aside0.mk (Below.refl w.heap.size w)
  have H : ((laws_heldBoolS.f k l0_0 a1).bind fun t906 => (if t906 < 0 then (some (-1)) else ((laws_heldIntSS.f k l0_1 t906).bind fun t907 => (if t907 < 0 then (some (-1)) else (some t907))))) = some r := h
  clear h
  replace H := Option.bind_eq_some_iff.mp H
  obtain ⟨t906, A30, H⟩ := H
  replace H : (if t906 < 0 then (some (-1)) else ((laws_heldIntSS.f k l0_1 t906).bind fun t907 => (if t907 < 0 then (some (-1)) else (some t907)))) = some r := H
  have A3 := Aside0.mk A30
  clear A30
  by_cases c4 : t906 < 0
  · rw [if_pos c4] at H
    have c4b0 : decide (t906 < 0) = true := decide_eq_true c4
    clear c4
    obtain rfl := Option.some.inj H
    simp only [Option.some.injEq, Prod.mk.injEq] at H
    obtain ⟨rfl⟩ := H
    go_enter Try.func49, Try.ntmps49
    go_wp2_with (first | ((with_reducible refine gate_dst (N := 2) rfl ?_); refine box_event ?hg (N := 2) ?hd (cs := #[.slice A0_0 l0_0.length c0_0, .slice A0_1 l0_1.length c0_1]) (t := 28) ?hr ?_; (case hd => rfl); (case hg => rfl); (case hr => first | (go_simp; done) | (go_simp; rfl)); intro gb905 hg w5 hbox hb; have n0_ := Aside0.mk (below_step (by repeat (first | (with_reducible first | exact HB.out | apply below_alloc | apply pw_below_drewN | apply below_drew1) | exact HB.out)) hb); have n1_ := Aside0.mk (hbox); have n2_ := Aside0.mk ((by rw [hg]; exact (below_size (by repeat (first | (with_reducible first | exact HB.out | apply below_alloc | apply pw_below_drewN | apply below_drew1) | exact HB.out))) : w.heap.size ≤ gb905)); have n3_ := Aside0.mk ((by rw [hg]; exact (below_size (by repeat (first | (with_reducible first | exact HB.out | apply below_alloc | apply pw_below_drewN | apply below_drew1) | exact HB.out))) : w.heap.size ≤ gb905)); clear HB; have HB := n0_; have BK905 := n1_; have GW905 := n2_; have GE905 := n3_; clear n0_ n1_ n2_ n3_; clear hb hbox hg; have hcz6_0 : w5.cell? ⟨gb905, 0, none⟩ = some (.slice A0_0 l0_0.length c0_0) := (blk_cell BK905.out 0).trans rfl; have hcz6_1 : w5.cell? ⟨gb905, 1, none⟩ = some (.slice A0_1 l0_1.length c0_1) := (blk_cell BK905.out 1).trans rfl; have hfz6_0 := blk_frozen BK905.out 0; have hfz6_1 := blk_frozen BK905.out 1) | ((with_reducible refine gate_callee (f := 41) rfl ?_); refine goesL_ (some 8) rfl rfl Try.func41 (by kernel_rfl) rfl #[.slice A0_0 l0_0.length c0_0, .int .i64 a1] rfl (by (try simp only [List.map_toArray, List.map_cons, List.map_nil]); first | done | rfl | (simp only [List.length_drop, List.length_take]; rfl)) ?_; (with_reducible refine (laws_heldBoolS.calls k _ _ l0_0 a1 t906 _ ?side1 ?side2 A3.out).mono ?_); (case side1 => repeat (first | exact (Kd.C_below HR0_0.out HB.out) | (with_reducible refine Kd.C_alloc ?_ _) | (with_reducible refine Kd.C_drewN ?_ _) | (with_reducible refine Kd.C_drew ?_))); (case side2 => exact HC0_0.out); rintro e w' ⟨rfl, ⟨nd, rfl⟩⟩; refine ⟨_, rfl, ?_⟩))
    go_ret
    exact ⟨by first | rfl | (simp [errW_none, errW_some] <;> rfl) | (simp [*, errW_none, errW_some] <;> rfl), by repeat (first | (with_reducible first | exact HB.out | apply below_alloc | apply pw_below_drewN | apply below_drew1 | refine below_set ?_ GE905.out) | exact HB.out)⟩
  · rw [if_neg c4] at H
    have c4b0 : decide (t906 < 0) = false := decide_eq_false c4
    clear c4
    replace H := Option.bind_eq_some_iff.mp H
    obtain ⟨t907, A70, H⟩ := H
    replace H : (if t907 < 0 then (some (-1)) else (some t907)) = some r := H
    have A7 := Aside0.mk A70
    clear A70
    by_cases c8 : t907 < 0
    · rw [if_pos c8] at H
      have c8b0 : decide (t907 < 0) = true := decide_eq_true c8
      clear c8
      obtain rfl := Option.some.inj H
      simp only [Option.some.injEq, Prod.mk.injEq] at H
      obtain ⟨rfl⟩ := H
      go_enter Try.func49, Try.ntmps49
      go_wp2_with (first | ((with_reducible refine gate_dst (N := 2) rfl ?_); refine box_event ?hg (N := 2) ?hd (cs := #[.slice A0_0 l0_0.length c0_0, .slice A0_1 l0_1.length c0_1]) (t := 28) ?hr ?_; (case hd => rfl); (case hg => rfl); (case hr => first | (go_simp; done) | (go_simp; rfl)); intro gb905 hg w9 hbox hb; have n0_ := Aside0.mk (below_step (by repeat (first | (with_reducible first | exact HB.out | apply below_alloc | apply pw_below_drewN | apply below_drew1) | exact HB.out)) hb); have n1_ := Aside0.mk (hbox); have n2_ := Aside0.mk ((by rw [hg]; exact (below_size (by repeat (first | (with_reducible first | exact HB.out | apply below_alloc | apply pw_below_drewN | apply below_drew1) | exact HB.out))) : w.heap.size ≤ gb905)); have n3_ := Aside0.mk ((by rw [hg]; exact (below_size (by repeat (first | (with_reducible first | exact HB.out | apply below_alloc | apply pw_below_drewN | apply below_drew1) | exact HB.out))) : w.heap.size ≤ gb905)); clear HB; have HB := n0_; have BK905 := n1_; have GW905 := n2_; have GE905 := n3_; clear n0_ n1_ n2_ n3_; clear hb hbox hg; have hcz10_0 : w9.cell? ⟨gb905, 0, none⟩ = some (.slice A0_0 l0_0.length c0_0) := (blk_cell BK905.out 0).trans rfl; have hcz10_1 : w9.cell? ⟨gb905, 1, none⟩ = some (.slice A0_1 l0_1.length c0_1) := (blk_cell BK905.out 1).trans rfl; have hfz10_0 := blk_frozen BK905.out 0; have hfz10_1 := blk_frozen BK905.out 1) | ((with_reducible refine gate_callee (f := 41) rfl ?_); refine goesL_ (some 8) rfl rfl Try.func41 (by kernel_rfl) rfl #[.slice A0_0 l0_0.length c0_0, .int .i64 a1] rfl (by (try simp only [List.map_toArray, List.map_cons, List.map_nil]); first | done | rfl | (simp only [List.length_drop, List.length_take]; rfl)) ?_; (with_reducible refine (laws_heldBoolS.calls k _ _ l0_0 a1 t906 _ ?side1 ?side2 A3.out).mono ?_); (case side1 => repeat (first | exact (Kd.C_below HR0_0.out HB.out) | (with_reducible refine Kd.C_alloc ?_ _) | (with_reducible refine Kd.C_drewN ?_ _) | (with_reducible refine Kd.C_drew ?_))); (case side2 => exact HC0_0.out); rintro e w' ⟨rfl, ⟨nd, rfl⟩⟩; refine ⟨_, rfl, ?_⟩) | ((with_reducible refine gate_callee (f := 94) rfl ?_); refine goesL_ (some 14) rfl rfl Try.func94 (by kernel_rfl) rfl #[.slice A0_1 l0_1.length c0_1, .int .i64 t906] rfl (by (try simp only [List.map_toArray, List.map_cons, List.map_nil]); first | done | rfl | (simp only [List.length_drop, List.length_take]; rfl)) ?_; (with_reducible refine (laws_heldIntSS.calls k _ _ l0_1 t906 t907 _ ?side1 ?side2 A7.out).mono ?_); (case side1 => repeat (first | exact (Kd.C_below HR0_1.out (by repeat (first | (with_reducible first | exact HB.out | apply below_alloc | apply pw_below_drewN | apply below_drew1 | refine below_set ?_ GE905.out) | exact HB.out))) | (with_reducible refine Kd.C_alloc ?_ _) | (with_reducible refine Kd.C_drewN ?_ _) | (with_reducible refine Kd.C_drew ?_))); (case side2 => exact HC0_1.out); rintro e w' ⟨rfl, ⟨nd, rfl⟩⟩; refine ⟨_, rfl, ?_⟩))
      go_ret
      exact ⟨by first | rfl | (simp [errW_none, errW_some] <;> rfl) | (simp [*, errW_none, errW_some] <;> rfl), by repeat (first | (with_reducible first | exact HB.out | apply below_alloc | apply pw_below_drewN | apply below_drew1 | refine below_set ?_ GE905.out) | exact HB.out)⟩
    · rw [if_neg c8] at H
      have c8b0 : decide (t907 < 0) = false := decide_eq_false c8
      clear c8
      obtain rfl := Option.some.inj H
      simp only [Option.some.injEq, Prod.mk.injEq] at H
      obtain ⟨rfl⟩ := H
      go_enter Try.func49, Try.ntmps49
      go_wp2_with (first | ((with_reducible refine gate_dst (N := 2) rfl ?_); refine box_event ?hg (N := 2) ?hd (cs := #[.slice A0_0 l0_0.length c0_0, .slice A0_1 l0_1.length c0_1]) (t := 28) ?hr ?_; (case hd => rfl); (case hg => rfl); (case hr => first | (go_simp; done) | (go_simp; rfl)); intro gb905 hg w11 hbox hb; have n0_ := Aside0.mk (below_step (by repeat (first | (with_reducible first | exact HB.out | apply below_alloc | apply pw_below_drewN | apply below_drew1) | exact HB.out)) hb); have n1_ := Aside0.mk (hbox); have n2_ := Aside0.mk ((by rw [hg]; exact (below_size (by repeat (first | (with_reducible first | exact HB.out | apply below_alloc | apply pw_below_drewN | apply below_drew1) | exact HB.out))) : w.heap.size ≤ gb905)); have n3_ := Aside0.mk ((by rw [hg]; exact (below_size (by repeat (first | (with_reducible first | exact HB.out | apply below_alloc | apply pw_below_drewN | apply below_drew1) | exact HB.out))) : w.heap.size ≤ gb905)); clear HB; have HB := n0_; have BK905 := n1_; have GW905 := n2_; have GE905 := n3_; clear n0_ n1_ n2_ n3_; clear hb hbox hg; have hcz12_0 : w11.cell? ⟨gb905, 0, none⟩ = some (.slice A0_0 l0_0.length c0_0) := (blk_cell BK905.out 0).trans rfl; have hcz12_1 : w11.cell? ⟨gb905, 1, none⟩ = some (.slice A0_1 l0_1.length c0_1) := (blk_cell BK905.out 1).trans rfl; have hfz12_0 := blk_frozen BK905.out 0; have hfz12_1 := blk_frozen BK905.out 1) | ((with_reducible refine gate_callee (f := 41) rfl ?_); refine goesL_ (some 8) rfl rfl Try.func41 (by kernel_rfl) rfl #[.slice A0_0 l0_0.length c0_0, .int .i64 a1] rfl (by (try simp only [List.map_toArray, List.map_cons, List.map_nil]); first | done | rfl | (simp only [List.length_drop, List.length_take]; rfl)) ?_; (with_reducible refine (laws_heldBoolS.calls k _ _ l0_0 a1 t906 _ ?side1 ?side2 A3.out).mono ?_); (case side1 => repeat (first | exact (Kd.C_below HR0_0.out HB.out) | (with_reducible refine Kd.C_alloc ?_ _) | (with_reducible refine Kd.C_drewN ?_ _) | (with_reducible refine Kd.C_drew ?_))); (case side2 => exact HC0_0.out); rintro e w' ⟨rfl, ⟨nd, rfl⟩⟩; refine ⟨_, rfl, ?_⟩) | ((with_reducible refine gate_callee (f := 94) rfl ?_); refine goesL_ (some 14) rfl rfl Try.func94 (by kernel_rfl) rfl #[.slice A0_1 l0_1.length c0_1, .int .i64 t906] rfl (by (try simp only [List.map_toArray, List.map_cons, List.map_nil]); first | done | rfl | (simp only [List.length_drop, List.length_take]; rfl)) ?_; (with_reducible refine (laws_heldIntSS.calls k _ _ l0_1 t906 t907 _ ?side1 ?side2 A7.out).mono ?_); (case side1 => repeat (first | exact (Kd.C_below HR0_1.out (by repeat (first | (with_reducible first | exact HB.out | apply below_alloc | apply pw_below_drewN | apply below_drew1 | refine below_set ?_ GE905.out) | exact HB.out))) | (with_reducible refine Kd.C_alloc ?_ _) | (with_reducible refine Kd.C_drewN ?_ _) | (with_reducible refine Kd.C_drew ?_))); (case side2 => exact HC0_1.out); rintro e w' ⟨rfl, ⟨nd, rfl⟩⟩; refine ⟨_, rfl, ?_⟩))
      go_ret
      exact ⟨by first | rfl | (simp [errW_none, errW_some] <;> rfl) | (simp [*, errW_none, errW_some] <;> rfl), by repeat (first | (with_reducible first | exact HB.out | apply below_alloc | apply pw_below_drewN | apply below_drew1 | refine below_set ?_ GE905.out) | exact HB.out)⟩
end Go.Proofs.Ytoknogcefajfiaa.P
end
section
namespace Go.Proofs.Ytoknogcefajfiaa.Wk
open Go.RowKit Go.Shelf Go.Proofs.Ytoknogcefajfiaa.P Go.Proofs.Ytoknogcefajfiaa.Pl Go.Proofs.Ytoknogcefajfiaa.Mp Go.Proofs.YtoknogcefajfiaaW.PrintWords Go.Proofs.YtoknogcefajfiaaW.PrintLast Go.Proofs.YtoknogcefajfiaaW.PrintMore
set_option linter.unusedVariables false
set_option linter.unusedSimpArgs false
theorem S_mark {e0 e : Nat} {w : World} {base g n cap : Nat} {ok : Nat → Prop} {xss : List (List Int)} (h : Kd.S (Kd.slice e0 (Kd.int .i64)) e w base ok (.slice (some ⟨g, 0, none⟩) n cap) xss) (j : Nat) (hj : j < xss.length) :
    ∃ u : Value, w.cell? ⟨g, j, none⟩ = some u ∧ Kd.R (Kd.int .i64) e0 w base (fun k => some k = u.ownBlock ∧ ok k ∧ k ≠ g) u xss[j] ∧
      ∀ (w' : World) (ys : List Int), (∀ b, some b ≠ u.ownBlock → b < w.heap.size → w'.heap[b]? = w.heap[b]?) → Kd.R (Kd.int .i64) e0 w' base (fun k => some k = u.ownBlock) u ys → Kd.S (Kd.slice e0 (Kd.int .i64)) e w' base ok (.slice (some ⟨g, 0, none⟩) n cap) (xss.set j ys) := by
  obtain ⟨f, h0, inner, ho, hr⟩ := h
  obtain ⟨u, hu, hR⟩ := hr.2 j _ (Kd.zip_at (List.getElem?_eq_getElem hj))
  have hsz : (Kd.tag f (Kd.slice e0 (Kd.int .i64))).sz = 1 := rfl
  rw [hsz, Nat.mul_one] at hu
  have hg : (Value.slice (some ⟨g, 0, none⟩) n cap).ownBlock = some g := by simp [Value.ownBlock]
  have hin : inner[j]? = some u := by
    have := congrArg (fun l => l[0]?) hu
    simpa [List.getElem?_take, List.getElem?_drop] using this
  refine ⟨u, ?_, Kd.R_mono (Kd.R_tight2 rfl hR) (fun k hk => ⟨hk.1, hk.2.1.1, fun e => hk.2.1.2 (by rw [e, hg])⟩), fun w' ys hb hR2 => ⟨f, h0, inner, ?_, ?_, ?_⟩⟩
  · have := ho.cells (g := g) hg j u hin
    rwa [add_plain] at this
  · rw [List.length_zipIdx, List.length_set]
    rw [List.length_zipIdx] at ho
    refine own_move ho (fun k hk => hb k (fun e => ?_) (own_lt ho k hk))
    exact (hR.1 k e.symm).1.2 hk.symm
  · have := hr.1
    rw [List.length_zipIdx] at this ⊢
    rw [List.length_set]
    exact this
  · intro i p hp
    rw [List.getElem?_zipIdx, Nat.zero_add] at hp
    obtain ⟨x, hx, rfl⟩ := Option.map_eq_some_iff.1 hp
    rw [List.getElem?_set] at hx
    by_cases e : j = i
    · subst e
      rw [if_pos rfl, if_pos hj] at hx
      injection hx with hx
      subst hx
      refine ⟨u, by rw [hsz, Nat.mul_one]; exact hu, Kd.R_mono hR2 (fun k hk => hR.1 k hk.symm)⟩
    · rw [if_neg e] at hx
      have := hr.2 i _ (Kd.zip_at hx)
      exact Kd.M_step (d := Kd.slice e0 (Kd.int .i64)) this (fun k hk hlt => hb k (fun e2 => e ((hR.1 k e2.symm).2.symm.trans hk.2)) hlt)
def mkRow (a : Int) (xs : List Int) : List Int := (List.range xs.length).map fun (i : Nat) => a + i
def mkK : List (List Int) → Int → Int
  | [], a => a
  | r :: t, a => mkK t (a + r.length)
def mkRows : List (List Int) → Int → List (List Int)
  | [], _ => []
  | r :: t, a => mkRow a r :: mkRows t (a + r.length)
theorem markInts_l0 (xs : List Int) (hl : xs.length ≤ 2000000) (a : Int) (ha : 0 ≤ a ∧ a ≤ 1000000000000000) : ∀ d i : Nat, i + d = xs.length → Ev (fun k => laws_markIntS.l0 k ((List.range i).map (fun (m : Nat) => a + m) ++ xs.drop i) (a + i) i) (a + xs.length, mkRow a xs) := by
  intro d
  induction d with
  | zero =>
    intro i hi
    refine next ?_
    rw [List.drop_eq_nil_of_le (by omega), List.append_nil]
    simp only [laws_markIntS.l0, List.length_map, List.length_range, if_neg (show ¬ (i : Int) < (i : Int) by omega)]
    exact ev_some (by unfold mkRow; rw [show xs.length = i by omega])
  | succ d ih =>
    intro i hi
    refine next ?_
    have hlen : (((List.range i).map (fun (m : Nat) => a + m) ++ xs.drop i).length : Int) = (xs.length : Int) := by simp; omega
    have hset : ((List.range i).map (fun (m : Nat) => a + m) ++ xs.drop i).set i (a + i) = (List.range (i + 1)).map (fun (m : Nat) => a + m) ++ xs.drop (i + 1) := by
      rw [List.drop_eq_getElem_cons (by omega), List.range_succ, List.map_append, List.map_singleton]
      rw [List.set_append_right _ _ (by simp)]
      simp only [List.length_map, List.length_range, Nat.sub_self, List.set_cons_zero, List.append_assoc, List.singleton_append]
    have IH := ih (i + 1) (by omega)
    simp only [laws_markIntS.l0, hlen, if_pos (show (i : Int) < (xs.length : Int) by omega), if_pos (show (0 : Int) ≤ (i : Int) by omega), Int.toNat_natCast, hset]
    rw [up1 (by omega), w64 (by omega) (by omega)]
    rw [show a + ((i + 1 : Nat) : Int) = a + i + 1 by omega] at IH
    exact IH
theorem markInts (xs : List Int) (hl : xs.length ≤ 2000000) (a : Int) (ha : 0 ≤ a ∧ a ≤ 1000000000000000) : Ev (fun k => laws_markIntS.f k xs a) (a + xs.length, mkRow a xs) := by
  have := markInts_l0 xs hl a ha xs.length 0 (by omega)
  refine this.congr fun k => ?_
  simp [laws_markIntS.f]
theorem mkK_snoc : ∀ (t : List (List Int)) (r : List Int) (a : Int), mkK (t ++ [r]) a = mkK t a + r.length
  | [], r, a => rfl
  | x :: t, r, a => mkK_snoc t r _
theorem mkRows_snoc : ∀ (t : List (List Int)) (r : List Int) (a : Int), mkRows (t ++ [r]) a = mkRows t a ++ [mkRow (mkK t a) r]
  | [], r, a => rfl
  | x :: t, r, a => by
    show mkRow a x :: mkRows (t ++ [r]) _ = _
    rw [mkRows_snoc t r]
    rfl
theorem mkRows_len : ∀ (t : List (List Int)) (a : Int), (mkRows t a).length = t.length
  | [], a => rfl
  | x :: t, a => congrArg (· + 1) (mkRows_len t _)
def small (xss : List (List Int)) : Prop := ∀ r ∈ xss, r.length ≤ 2000000
theorem mkK_bound : ∀ (t : List (List Int)) (a : Int), small t → a ≤ mkK t a ∧ mkK t a ≤ a + 2000000 * t.length
  | [], a, h => by simp [mkK]
  | x :: t, a, h => by
    have h1 := mkK_bound t (a + x.length) (fun r hr => h r (List.mem_cons_of_mem _ hr))
    have h2 := h x List.mem_cons_self
    show a ≤ mkK t (a + x.length) ∧ mkK t (a + x.length) ≤ _
    simp only [List.length_cons]
    omega
set_option maxRecDepth 100000 in
set_option maxHeartbeats 4000000 in
theorem markRowsCalls (P0 : Nat → Prop) (v : Value) (xss : List (List Int)) (a : Int) (w0 w : World) (hB : Below w0.heap.size w0 w) (ho : Kd.S (Kd.slice 3 (Kd.int .i64)) 54 w w0.heap.size P0 v xss)
    (hx : xss.length ≤ 2000000) (hs : small xss) (ha : 0 ≤ a ∧ a ≤ 1000000000) :
    Calls Try.prog 86 #[v, .int .i64 a] w fun e w' => e = .returned (.int .i64 (mkK xss a)) ∧ Kd.S (Kd.slice 3 (Kd.int .i64)) 54 w' w0.heap.size P0 v (mkRows xss a) ∧ Below w0.heap.size w0 w' ∧ Kept w w' P0 := by
  obtain ⟨A, c, ev⟩ := Kd.S_slice ho
  subst ev
  have HX := Aside0.mk hx
  have HS := Aside0.mk hs
  have HA := Aside0.mk ha
  have HB := Aside0.mk hB
  have HO := Aside0.mk ho
  have HK := Aside0.mk (Kept.refl w P0)
  clear hx hs ha hB ho
  go_enter Try.func86, Try.ntmps86
  go_wp2
  go_loopg [1, 5] xss.length (fun gg v1 v5 wr => ∃ (i : Nat), v5 = .int .i64 (i : Int) ∧ v1 = .int .i64 (mkK (xss.take i) a) ∧ Aside0 (i ≤ xss.length) ∧ Aside0 (xss.length ≤ gg + i) ∧ Aside0 (Kd.S (Kd.slice 3 (Kd.int .i64)) 54 wr w0.heap.size P0 (.slice A xss.length c) (mkRows (xss.take i) a ++ xss.drop i)) ∧ Aside0 (Below w0.heap.size w0 wr) ∧ Aside0 (Kept w wr P0))
  case atStart => exact ⟨0, rfl, by simp [mkK], ⟨Nat.zero_le _⟩, ⟨by omega⟩, ⟨by simpa [mkRows] using HO.out⟩, HB, HK⟩
  case round =>
    clear HO HB HK
    obtain ⟨i, rfl, rfl, HI, HG, HO, HB, HK⟩ := hrel
    by_cases hi : i < xss.length
    · cases gk with
      | zero => exact absurd HG.out (by omega)
      | succ g1 =>
      have hlen : (mkRows (xss.take i) a ++ xss.drop i).length = xss.length := by rw [List.length_append, mkRows_len, List.length_take, List.length_drop]; omega
      obtain ⟨g, cap, e, _⟩ := Kd.S_form HO.out (by omega)
      injection e with e1 e2 e3
      subst e1
      subst e3
      obtain ⟨u, hu, hR, hset⟩ := S_mark HO.out i (by omega)
      have hat : (mkRows (xss.take i) a ++ xss.drop i)[i]'(by omega) = xss[i] := by
        rw [List.getElem_append_right (by rw [mkRows_len]; simp; omega)]
        simp only [mkRows_len, List.length_take, List.getElem_drop]
        congr 1
        omega
      rw [hat] at hR
      have hri := HS.out _ (List.getElem_mem hi)
      have hkb := mkK_bound (xss.take i) a (fun r hr => HS.out r (List.mem_of_mem_take hr))
      have hti : (xss.take i).length = i := by simp; omega
      rw [hti] at hkb
      have hkk : mkK (xss.take (i + 1)) a = mkK (xss.take i) a + xss[i].length := by rw [List.take_succ_eq_append_getElem hi, mkK_snoc]
      have hrr : (mkRows (xss.take i) a ++ xss.drop i).set i (mkRow (mkK (xss.take i) a) xss[i]) = mkRows (xss.take (i + 1)) a ++ xss.drop (i + 1) := by
        rw [List.take_succ_eq_append_getElem hi, mkRows_snoc, List.set_append_right _ _ (by rw [mkRows_len, hti]; exact Nat.le_refl _), mkRows_len, hti, Nat.sub_self, List.drop_eq_getElem_cons hi, List.set_cons_zero, List.append_assoc, List.singleton_append]
      obtain ⟨kf, hkf⟩ := (markInts xss[i] hri (mkK (xss.take i) a) (by have := HA.out; have := HX.out; omega)).rounds
      generalize xss[i] = row at hR hri hkk hrr hkf
      generalize hka : mkK (xss.take i) a = ka at hkk hrr hkf ⊢
      obtain ⟨Au, cu, eu⟩ := Kd.R_slice hR
      subst eu
      have HRW := Aside0.mk hR
      have HSET := Aside0.mk hset
      have HKF := Aside0.mk hkf
      have HKK := Aside0.mk hkk
      have HRR := Aside0.mk hrr
      have p1 : ((0 : Int) ≤ (i : Int)) = True := eq_true (by omega)
      have q1 : ((i : Int) < (xss.length : Int)) = True := eq_true (by omega)
      have HI2 := Aside0.mk hi
      clear hi hlen hat hri hkb hti hkk hrr hkf hR hset hka e2
      go_wp2_with ((with_reducible refine gate_callee (f := 105) rfl ?_); refine goesL_ (some 17) rfl rfl Try.func105 (by kernel_rfl) rfl #[.slice Au row.length cu, .int .i64 ka] rfl (by (try simp only [List.map_toArray, List.map_cons, List.map_nil]); first | done | rfl) ?_; (with_reducible refine (laws_markIntS.calls kf (fun k_ => some k_ = (Value.slice Au row.length cu).ownBlock) _ row ka _ _ w0 _ ?sideB ?sideO HKF.out).mono ?_); (case sideB => exact HB.out); (case sideO => exact Kd.R_mono HRW.out (fun _ h_ => h_.1)); rintro e w' ⟨rfl, hr2, hb2, hk2⟩; have HR2 := Aside0.mk hr2; have HB2 := Aside0.mk hb2; have HK2 := Aside0.mk hk2; clear hr2 hb2 hk2; refine ⟨_, rfl, ?_⟩)
      have HSN : Aside0 (Kd.S (Kd.slice 3 (Kd.int .i64)) 54 w' w0.heap.size P0 (.slice (some ⟨g, 0, none⟩) xss.length c) (mkRows (xss.take (i + 1)) a ++ xss.drop (i + 1))) := ⟨by
        rw [← HRR.out]
        exact HSET.out w' _ (fun b hne hlt => HK2.out.2 b hlt (fun e => hne e)) (Kd.R_tight rfl HR2.out)⟩
      have HKN : Aside0 (Kept w w' P0) := ⟨HK.out.then_ HK2.out (fun k e => .inl (HRW.out.1 k e.symm).2.1)⟩
      go_roundg g1
      case measure => omega
      case rel => exact ⟨i + 1, by rw [up1 (by have := HI2.out; have := HX.out; omega)], by rw [HKK.out], ⟨HI2.out⟩, ⟨by have := HG.out; omega⟩, HSN, HB2, HKN⟩
    · have ei : i = xss.length := by have := HI.out; omega
      subst ei
      have q1 : ((xss.length : Int) < (xss.length : Int)) = False := eq_false (by omega)
      have HO : Aside0 (Kd.S (Kd.slice 3 (Kd.int .i64)) 54 wr w0.heap.size P0 (.slice A xss.length c) (mkRows xss a)) := ⟨by simpa using HO.out⟩
      rw [List.take_length]
      clear hi HI HG
      go_wp2
      go_ret
      exact ⟨rfl, HO.out, HB.out, HK.out⟩
def mkB (a : Int) (xs : List Bool) : List Bool := (List.range xs.length).map fun (i : Nat) => (Int.tmod (a + i) 3) == 0
theorem markBools_l0 (xs : List Bool) (hl : xs.length ≤ 2000000) (a : Int) (ha : 0 ≤ a ∧ a ≤ 1000000000000000) : ∀ d i : Nat, i + d = xs.length → Ev (fun k => laws_markBoolS.l0 k ((List.range i).map (fun (m : Nat) => (Int.tmod (a + m) 3) == 0) ++ xs.drop i) (a + i) i) (a + xs.length, mkB a xs) := by
  intro d
  induction d with
  | zero =>
    intro i hi
    refine next ?_
    rw [List.drop_eq_nil_of_le (by omega), List.append_nil]
    simp only [laws_markBoolS.l0, List.length_map, List.length_range, if_neg (show ¬ (i : Int) < (i : Int) by omega)]
    exact ev_some (by unfold mkB; rw [show xs.length = i by omega])
  | succ d ih =>
    intro i hi
    refine next ?_
    have hlen : (((List.range i).map (fun (m : Nat) => (Int.tmod (a + m) 3) == 0) ++ xs.drop i).length : Int) = (xs.length : Int) := by simp; omega
    have hset : ((List.range i).map (fun (m : Nat) => (Int.tmod (a + m) 3) == 0) ++ xs.drop i).set i ((Int.tmod (a + i) 3) == 0) = (List.range (i + 1)).map (fun (m : Nat) => (Int.tmod (a + m) 3) == 0) ++ xs.drop (i + 1) := by
      rw [List.drop_eq_getElem_cons (by omega), List.range_succ, List.map_append, List.map_singleton]
      rw [List.set_append_right _ _ (by simp)]
      simp only [List.length_map, List.length_range, Nat.sub_self, List.set_cons_zero, List.append_assoc, List.singleton_append]
    have IH := ih (i + 1) (by omega)
    simp only [laws_markBoolS.l0, hlen, if_pos (show (i : Int) < (xs.length : Int) by omega), if_pos (show (0 : Int) ≤ (i : Int) by omega), Int.toNat_natCast, hset]
    rw [up1 (by omega), w64 (by omega) (by omega)]
    rw [show a + ((i + 1 : Nat) : Int) = a + i + 1 by omega] at IH
    exact IH
theorem markBools (xs : List Bool) (hl : xs.length ≤ 2000000) (a : Int) (ha : 0 ≤ a ∧ a ≤ 1000000000000000) : Ev (fun k => laws_markBoolS.f k xs a) (a + xs.length, mkB a xs) := by
  have := markBools_l0 xs hl a ha xs.length 0 (by omega)
  refine this.congr fun k => ?_
  simp [laws_markBoolS.f]
theorem heldBools_l0 (n : Nat) (xs : List Bool) (hx : xs.length = n) (hl : n ≤ 2000000) (a : Int) (ha : 0 ≤ a ∧ a ≤ 1000000000000000) : ∀ d i : Nat, i + d = n → Ev (fun k => laws_heldBoolS.l0 k (mkB a xs) (a + i) i) (a + n) := by
  have hlen : (mkB a xs).length = n := by simp [mkB, hx]
  intro d
  induction d with
  | zero =>
    intro i hi
    refine next ?_
    simp only [laws_heldBoolS.l0, hlen, if_neg (show ¬ (i : Int) < (n : Int) by omega)]
    exact ev_some (by rw [show i = n by omega])
  | succ d ih =>
    intro i hi
    refine next ?_
    have IH := ih (i + 1) (by omega)
    have hat : rdOf false (mkB a xs) (i : Int) = ((Int.tmod (a + i) 3) == 0) := by
      rw [rdOf_get false _ i (by omega)]
      simp [mkB]
    simp only [laws_heldBoolS.l0, hlen, if_pos (show (i : Int) < (n : Int) by omega), if_pos (show (0 : Int) ≤ (i : Int) by omega), hat, bne_self_eq_false, if_neg (show ¬ false = true by decide)]
    rw [up1 (by omega), w64 (by omega) (by omega)]
    rw [show a + ((i + 1 : Nat) : Int) = a + i + 1 by omega] at IH
    exact IH
theorem heldBools (xs : List Bool) (hl : xs.length ≤ 2000000) (a : Int) (ha : 0 ≤ a ∧ a ≤ 1000000000000000) : Ev (fun k => laws_heldBoolS.f k (mkB a xs) a) (a + xs.length) := by
  have := heldBools_l0 xs.length xs rfl hl a ha xs.length 0 (by omega)
  refine this.congr fun k => ?_
  simp [laws_heldBoolS.f]
theorem heldInts_l0 (n : Nat) (xs : List Int) (hx : xs.length = n) (hl : n ≤ 2000000) (a : Int) (ha : 0 ≤ a ∧ a ≤ 1000000000000000) : ∀ d i : Nat, i + d = n → Ev (fun k => laws_heldIntS.l0 k (mkRow a xs) (a + i) i) (a + n) := by
  have hlen : (mkRow a xs).length = n := by simp [mkRow, hx]
  intro d
  induction d with
  | zero =>
    intro i hi
    refine next ?_
    simp only [laws_heldIntS.l0, hlen, if_neg (show ¬ (i : Int) < (n : Int) by omega)]
    exact ev_some (by rw [show i = n by omega])
  | succ d ih =>
    intro i hi
    refine next ?_
    have IH := ih (i + 1) (by omega)
    have hat : rd (mkRow a xs) (i : Int) = a + i := by
      rw [rd_get _ i (by omega)]
      simp [mkRow]
    simp only [laws_heldIntS.l0, hlen, if_pos (show (i : Int) < (n : Int) by omega), if_pos (show (0 : Int) ≤ (i : Int) by omega), hat, if_true]
    rw [up1 (by omega), w64 (by omega) (by omega)]
    rw [show a + ((i + 1 : Nat) : Int) = a + i + 1 by omega] at IH
    exact IH
theorem heldInts (xs : List Int) (hl : xs.length ≤ 2000000) (a : Int) (ha : 0 ≤ a ∧ a ≤ 1000000000000000) : Ev (fun k => laws_heldIntS.f k (mkRow a xs) a) (a + xs.length) := by
  have := heldInts_l0 xs.length xs rfl hl a ha xs.length 0 (by omega)
  refine this.congr fun k => ?_
  simp [laws_heldIntS.f]
theorem mkRows_get : ∀ (t : List (List Int)) (a : Int) (i : Nat) (hi : i < t.length), (mkRows t a)[i]'(by rw [mkRows_len]; exact hi) = mkRow (mkK (t.take i) a) t[i]
  | x :: t, a, 0, _ => rfl
  | x :: t, a, i + 1, hi => mkRows_get t _ i (by simpa using hi)
theorem heldRows (xss : List (List Int)) (hx : xss.length ≤ 2000000) (hs : small xss) (a : Int) (ha : 0 ≤ a ∧ a ≤ 1000000000) : Ev (fun k => laws_heldIntSS.f k (mkRows xss a) a) (mkK xss a) := by
  have hlen : (mkRows xss a).length = xss.length := mkRows_len xss a
  have H : ∀ d i : Nat, i + d = xss.length → Ev (fun k => laws_heldIntSS.l0 k (mkRows xss a) (mkK (xss.take i) a) i) (mkK xss a) := by
    intro d
    induction d with
    | zero =>
      intro i hi
      refine next ?_
      simp only [laws_heldIntSS.l0, hlen, if_neg (show ¬ (i : Int) < (xss.length : Int) by omega)]
      exact ev_some (by rw [List.take_of_length_le (by omega)])
    | succ d ih =>
      intro i hi
      have hii : i < xss.length := by omega
      refine next ?_
      have IH := ih (i + 1) (by omega)
      rw [List.take_succ_eq_append_getElem hii, mkK_snoc] at IH
      have hkb := mkK_bound (xss.take i) a (fun r hr => hs r (List.mem_of_mem_take hr))
      have hti : (xss.take i).length = i := by simp; omega
      rw [hti] at hkb
      have hat : rd_L2 (mkRows xss a) (i : Int) = mkRow (mkK (xss.take i) a) xss[i] := by
        show (mkRows xss a).getD (i : Int).toNat [] = _
        rw [Int.toNat_natCast, List.getD_eq_getElem?_getD, List.getElem?_eq_getElem (by omega), Option.getD_some, mkRows_get xss a i hii]
      simp only [laws_heldIntSS.l0, hlen, if_pos (show (i : Int) < (xss.length : Int) by omega), if_pos (show (0 : Int) ≤ (i : Int) by omega), hat]
      refine (heldInts xss[i] (hs _ (List.getElem_mem hii)) _ (by omega)).bind ?_
      simp only [if_neg (show ¬ mkK (xss.take i) a + (xss[i].length : Int) < 0 by omega)]
      rw [up1 (by omega)]
      exact IH
  have := H xss.length 0 (by omega)
  refine this.congr fun k => ?_
  simp [laws_heldIntSS.f, mkK]
theorem heldMarked (xs : List Bool) (xss : List (List Int)) (hl : xs.length ≤ 2000000) (hx : xss.length ≤ 2000000) (hs : small xss) (a : Int) (ha : 0 ≤ a ∧ a ≤ 1000) : Ev (fun k => laws_heldDfa.f k (mkB a xs) (mkRows xss (a + xs.length)) a) (mkK xss (a + xs.length)) := by
  have hkb := mkK_bound xss (a + xs.length) hs
  refine (heldBools xs (by omega) a (by omega)).bind ?_
  simp only [if_neg (show ¬ a + (xs.length : Int) < 0 by omega)]
  refine (heldRows xss hx hs _ (by omega)).bind ?_
  simp only [if_neg (show ¬ mkK xss (a + (xs.length : Int)) < 0 by omega)]
  exact ev_some rfl
set_option maxRecDepth 100000 in
set_option maxHeartbeats 4000000 in
theorem markDfaCalls (P0 P1 : Nat → Prop) (v0 v1 : Value) (xs : List Bool) (xss : List (List Int)) (a : Int) (w0 w : World) (hB : Below w0.heap.size w0 w) (h0 : Kd.R Kd.bool 4 w w0.heap.size P0 v0 xs) (h1 : Kd.S (Kd.slice 3 (Kd.int .i64)) 54 w w0.heap.size P1 v1 xss)
    (hl : xs.length ≤ 2000000) (hx : xss.length ≤ 2000000) (hs : small xss) (ha : 0 ≤ a ∧ a ≤ 1000) :
    Calls Try.prog 39 #[.agg #[v0, v1], .int .i64 a] w fun e w' => e = .returned (.int .i64 (mkK xss (a + xs.length))) ∧ Kd.R Kd.bool 4 w' w0.heap.size P0 v0 (mkB a xs) ∧ Kd.S (Kd.slice 3 (Kd.int .i64)) 54 w' w0.heap.size P1 v1 (mkRows xss (a + xs.length)) ∧ Below w0.heap.size w0 w' ∧ Kept w w' (fun k => P0 k ∨ P1 k) := by
  have hu := Try.underlying28
  obtain ⟨A0, c0, e0⟩ := Kd.R_slice h0
  subst e0
  obtain ⟨A1, c1, e1⟩ := Kd.S_slice h1
  subst e1
  obtain ⟨kf, hkf⟩ := (markBools xs (by omega) a (by omega)).rounds
  have HKF := Aside0.mk hkf
  have HX := Aside0.mk hx
  have HS := Aside0.mk hs
  have HA : Aside0 (0 ≤ a + (xs.length : Int) ∧ a + (xs.length : Int) ≤ 1000000000) := ⟨by omega⟩
  have HB := Aside0.mk (below_alloc hB (Obj.cells #[.slice A0 xs.length c0, .slice A1 xss.length c1] 28))
  have H0 := Aside0.mk (Kd.R_alloc h0 (Obj.cells #[.slice A0 xs.length c0, .slice A1 xss.length c1] 28))
  have H1 := Aside0.mk (Kd.S_alloc h1 (Obj.cells #[.slice A0 xs.length c0, .slice A1 xss.length c1] 28))
  have HK := Aside0.mk ((Kept.refl w (fun k => P0 k ∨ P1 k)).alloc (Obj.cells #[.slice A0 xs.length c0, .slice A1 xss.length c1] 28))
  have HBX : Aside0 ((w.alloc (Obj.cells #[.slice A0 xs.length c0, .slice A1 xss.length c1] 28)).heap[w.heap.size]? = some (.cells #[.slice A0 xs.length c0, .slice A1 xss.length c1] 28 (0, 0))) := ⟨blk_new w _⟩
  clear h0 h1 hkf hl hx hs ha hB
  go_enter Try.func39, Try.ntmps39
  go_wp2_with (first
    | ((with_reducible refine gate_callee (f := 40) rfl ?_); refine goesL_ (some 8) rfl rfl Try.func40 (by kernel_rfl) rfl #[.slice A0 xs.length c0, .int .i64 a] rfl (by (try simp only [List.map_toArray, List.map_cons, List.map_nil]); first | done | rfl) ?_; (with_reducible refine (laws_markBoolS.calls kf (fun k_ => some k_ = (Value.slice A0 xs.length c0).ownBlock) _ xs a _ _ w0 _ ?sideB ?sideO HKF.out).mono ?_); (case sideB => exact HB.out); (case sideO => exact Kd.R_tight rfl H0.out); rintro e w2 ⟨rfl, hr2, hb2, hk2⟩; have HR2 := Aside0.mk (Kd.R_tight rfl hr2); have HB2 := Aside0.mk hb2; have HK2 := Aside0.mk hk2; have HBX2 : Aside0 (w2.heap[w.heap.size]? = some (.cells #[.slice A0 xs.length c0, .slice A1 xss.length c1] 28 (0, 0))) := ⟨blk_kept HBX.out hk2 (Kd.R_ne H0.out HBX.out (by decide))⟩; have H12 := Aside0.mk (Kd.S_step (Kd.S_apart' H1.out (Kd.R_typed H0.out) (by decide)) (fun k hk hlt => hk2.2 k hlt hk.2)); have hcx : w2.cell? ⟨w.heap.size, 1, none⟩ = some (.slice A1 xss.length c1) := (blk_cell HBX2.out 1).trans rfl; clear hr2 hb2 hk2; refine ⟨_, rfl, ?_⟩)
    | ((with_reducible refine gate_callee (f := 86) rfl ?_); refine goesL_ (some 12) rfl rfl Try.func86 (by kernel_rfl) rfl #[.slice A1 xss.length c1, .int .i64 (a + xs.length)] rfl (by (try simp only [List.map_toArray, List.map_cons, List.map_nil]); first | done | rfl) ?_; (with_reducible refine (markRowsCalls (fun k_ => P1 k_ ∧ some k_ ≠ (Value.slice A0 xs.length c0).ownBlock) _ xss (a + xs.length) w0 _ ?sideB ?sideO HX.out HS.out HA.out).mono ?_); (case sideB => exact HB2.out); (case sideO => exact H12.out); rintro e w3 ⟨rfl, hr3, hb3, hk3⟩; have HR3 := Aside0.mk hr3; have HB3 := Aside0.mk hb3; have HK3 := Aside0.mk hk3; clear hr3 hb3 hk3; refine ⟨_, rfl, ?_⟩))
  go_ret
  refine ⟨rfl, ?_, Kd.S_mono HR3.out (fun _ hk => hk.1), HB3.out, ?_⟩
  · exact Kd.R_mono (Kd.R_step HR2.out (fun k hk hlt => HK3.out.2 k hlt (fun e => e.2 hk))) (fun k hk => H0.out.1 k hk.symm)
  · exact (HK.out.then_ HK2.out (fun k hk => .inl (.inl (H0.out.1 k hk.symm)))).then_ HK3.out (fun k hk => .inl (.inr hk.1))
end Go.Proofs.Ytoknogcefajfiaa.Wk
end
section
namespace Go.Proofs.Ytoknogcefajfiaa.Wk
open Go.RowKit Go.Shelf Go.Proofs.Ytoknogcefajfiaa.P Go.Proofs.Ytoknogcefajfiaa.Pl Go.Proofs.Ytoknogcefajfiaa.Mp Go.Proofs.YtoknogcefajfiaaW.PrintWords Go.Proofs.YtoknogcefajfiaaW.PrintLast Go.Proofs.YtoknogcefajfiaaW.PrintMore
set_option linter.unusedVariables false
set_option linter.unusedSimpArgs false
structure Dv (base : Nat) (w : World) (lo hi : Nat) (v0 v1 : Value) (xs : List Bool) (xss : List (List Int)) : Prop where
  r0 : Kd.R Kd.bool 4 w base (fun k => lo ≤ k ∧ k < hi) v0 xs
  r1 : Kd.S (Kd.slice 3 (Kd.int .i64)) 54 w base (fun k => lo ≤ k ∧ k < hi) v1 xss
section
variable {base : Nat} {w w' : World} {lo hi : Nat} {v0 v1 : Value} {xs : List Bool} {xss : List (List Int)}
theorem Dv.fresh (hb : base ≤ w.heap.size) (h0 : Kd.R Kd.bool 4 w' w.heap.size (fun _ => True) v0 xs) (h1 : Kd.S (Kd.slice 3 (Kd.int .i64)) 54 w' w.heap.size (fun _ => True) v1 xss) : Dv base w' w.heap.size w'.heap.size v0 v1 xs xss :=
  ⟨Kd.R_lower (Kd.R_mono (Kd.R_bound h0) (fun k hk => ⟨hk.2.1, hk.2.2.1⟩)) hb, Kd.S_lower (Kd.S_mono (Kd.S_bound h1) (fun k hk => ⟨hk.2.1, hk.2.2.1⟩)) hb⟩
theorem Dv.below (h : Dv base w lo hi v0 v1 xs xss) (hb : Below w.heap.size w w') : Dv base w' lo hi v0 v1 xs xss := ⟨Kd.R_below h.r0 hb, Kd.S_below h.r1 hb⟩
theorem Dv.kept (h : Dv base w lo hi v0 v1 xs xss) {S : Nat → Prop} (hk : Kept w w' S) (hd : ∀ k, lo ≤ k → k < hi → ¬ S k) : Dv base w' lo hi v0 v1 xs xss :=
  ⟨Kd.R_step h.r0 (fun k hk2 hlt => hk.2 k hlt (hd k hk2.1 hk2.2)), Kd.S_step h.r1 (fun k hk2 hlt => hk.2 k hlt (hd k hk2.1 hk2.2))⟩
theorem Dv.slices (h : Dv base w lo hi v0 v1 xs xss) : ∃ A0 c0 A1 c1, v0 = .slice A0 xs.length c0 ∧ v1 = .slice A1 xss.length c1 ∧ xs.length ≤ c0 ∧ xss.length ≤ c1 := by
  obtain ⟨A0, c0, e0, h0, _⟩ := Kd.R_reads h.r0
  obtain ⟨A1, c1, e1, h1, _⟩ := Kd.S_reads h.r1
  exact ⟨A0, c0, A1, c1, e0, e1, h0, h1⟩
theorem Dv.c0 {A : Option Addr} {n c : Nat} (h : Dv base w lo hi (.slice A n c) v1 xs xss) : Kd.C Kd.bool w A xs.length xs := (Kd.R_reads' h.r0).2.2
theorem Dv.c1 {A : Option Addr} {n c : Nat} (h : Dv base w lo hi v0 (.slice A n c) xs xss) : Kd.C (Kd.slice 3 (Kd.int .i64)) w A xss.length xss := (Kd.S_reads' h.r1).2.2
end
theorem markDv {w0 w : World} {lo hi : Nat} {v0 v1 : Value} {xs : List Bool} {xss : List (List Int)} (a : Int) (hB : Below w0.heap.size w0 w) (h : Dv w0.heap.size w lo hi v0 v1 xs xss)
    (hl : xs.length ≤ 2000000) (hx : xss.length ≤ 2000000) (hs : small xss) (ha : 0 ≤ a ∧ a ≤ 1000) :
    Calls Try.prog 39 #[.agg #[v0, v1], .int .i64 a] w fun e w' => e = .returned (.int .i64 (mkK xss (a + xs.length))) ∧ Dv w0.heap.size w' lo hi v0 v1 (mkB a xs) (mkRows xss (a + xs.length)) ∧ Below w0.heap.size w0 w' ∧ Kept w w' (fun k => lo ≤ k ∧ k < hi) :=
  (markDfaCalls _ _ v0 v1 xs xss a w0 w hB h.r0 h.r1 hl hx hs ha).mono fun e w' hh => by
    obtain ⟨h1, h2, h3, h4, h5⟩ := hh
    exact ⟨h1, ⟨h2, h3⟩, h4, h5.mono (fun k hk => hk.elim id id)⟩
theorem heldDv {base : Nat} {w : World} {lo hi : Nat} {v0 v1 : Value} {xs : List Bool} {xss : List (List Int)} (h : Dv base w lo hi v0 v1 (mkB 1 xs) (mkRows xss (1 + xs.length)))
    (hl : xs.length ≤ 2000000) (hx : xss.length ≤ 2000000) (hs : small xss) :
    Calls Try.prog 49 #[.agg #[v0, v1], .int .i64 1] w fun e w' => e = .returned (.int .i64 (mkK xss (1 + xs.length))) ∧ Below w.heap.size w w' := by
  obtain ⟨k, hk⟩ := (heldMarked xs xss hl hx hs 1 (by omega)).rounds
  obtain ⟨A0, c0, A1, c1, e0, e1, h0, h1⟩ := h.slices
  subst e0
  subst e1
  exact laws_heldDfa.calls k _ _ _ _ _ _ 1 _ _ h.c0 h0 h.c1 h1 hk
end Go.Proofs.Ytoknogcefajfiaa.Wk
end
section
namespace Go.Proofs.Ytoknogcefajfiaa.Can
open Go.RowKit Go.Proofs.Ytoknogcefajfiaa Go.Proofs.Ytoknogcefajfiaa.Lg Go.Proofs.Ytoknogcefajfiaa.Pl Go.Proofs.Ytoknogcefajfiaa.Mp Go.Proofs.Ytoknogcefajfiaa.Bf Go.Proofs.Ytoknogcefajfiaa.Mn Go.Proofs.YtoknogcefajfiaaW.PrintWords Go.Proofs.YtoknogcefajfiaaW.PrintLast Go.Proofs.YtoknogcefajfiaaW.PrintMore
set_option linter.unusedVariables false
set_option linter.unusedSimpArgs false
set_option linter.unusedSectionVars false
def Lan := List (Fin 3) → Bool
noncomputable instance decLan : DecidableEq Lan := fun _ _ => Classical.propDecidable _
instance : Inhabited Lan := ⟨fun _ => false⟩
def der (L : Lan) (k : Fin 3) : Lan := fun w => L (k :: w)
def lsucc (L : Lan) : List Lan := [der L 0, der L 1, der L 2]
def eps (L : Lan) : Bool := L []
noncomputable def outL (R : List Lan) : List Bool × List (List Int) := (R.map eps, R.map (fun X => (lsucc X).map (fun Y => (R.idxOf Y : Int))))
def IsCan (L : Lan) (out : List Bool × List (List Int)) : Prop := ∃ R, Runs lsucc [L] 0 R ∧ out = outL R
theorem IsCan.det {L : Lan} {a b : List Bool × List (List Int)} (h : IsCan L a) (h' : IsCan L b) : a = b := by
  obtain ⟨R, hR, rfl⟩ := h
  obtain ⟨R', hR', rfl⟩ := h'
  rw [hR.det hR']
structure Fits (acc : List Bool) (nx : List (List Int)) : Prop where
  len : nx.length = acc.length
  row : ∀ q : Int, 0 ≤ q ∧ q < (acc.length : Int) → (rowOf nx q).length = 3 ∧ ∀ x ∈ rowOf nx q, 0 ≤ x ∧ x < (acc.length : Int)
def run (acc : List Bool) (nx : List (List Int)) : List (Fin 3) → Int → Bool
  | [], q => rdOf false acc q
  | k :: w, q => run acc nx w (rd (rowOf nx q) (k.val : Int))
def lang (acc : List Bool) (nx : List (List Int)) (q : Int) : Lan := fun w => run acc nx w q
theorem three {r : List Int} (h : r.length = 3) : r = [rd r 0, rd r 1, rd r 2] := by
  match r, h with
  | [a, b, c], _ => rfl
theorem succ_lang {acc : List Bool} {nx : List (List Int)} (hf : Fits acc nx) {q : Int} (hq : 0 ≤ q ∧ q < (acc.length : Int)) : (rowOf nx q).map (lang acc nx) = lsucc (lang acc nx q) := by
  rw [three (hf.row q hq).1]
  rfl
section
variable {α β : Type} [DecidableEq α] [DecidableEq β]
theorem dd_map2 (f : α → β) (l : List α) : dd (l.map f) = dd ((dd l).map f) := (dd_adds f l []).symm
theorem dd_inj (g : α → β) (A : List α) (hg : ∀ a ∈ A, ∀ b ∈ A, g a = g b → a = b) : dd (A.map g) = (dd A).map g := by
  rw [dd_map2]
  refine dd_id ?_
  rw [List.nodup_iff_pairwise_ne, List.pairwise_map]
  refine (List.nodup_iff_pairwise_ne.mp (dd_nodup A)).imp_of_mem ?_
  intro a b ha hb hne h
  exact hne (hg a (mem_dd.mp ha) b (mem_dd.mp hb) h)
theorem idxOf_inj (g : α → β) : ∀ (R : List α) (a : α), (∀ b ∈ R, g b = g a → b = a) → (R.map g).idxOf (g a) = R.idxOf a
  | [], a, _ => rfl
  | b :: R, a, h => by
    rw [List.map_cons, List.idxOf_cons, List.idxOf_cons]
    rw [idxOf_inj g R a (fun c hc => h c (List.mem_cons_of_mem _ hc))]
    by_cases e : b = a
    · subst e
      rw [beq_self_eq_true, beq_self_eq_true]
    · have e2 : g b ≠ g a := fun h2 => e (h b List.mem_cons_self h2)
      rw [beq_eq_false_iff_ne.mpr e, beq_eq_false_iff_ne.mpr e2]
theorem nodup_of_dd : ∀ (l : List α), (dd l).length = l.length → l.Nodup := by
  intro l
  suffices H : ∀ (m k : List α), (adds k m).length = k.length + m.length → m.Nodup ∧ ∀ x ∈ m, x ∉ k by
    intro h
    exact (H l [] (by simpa [dd] using h)).1
  intro m
  induction m with
  | nil => intro k _; simp
  | cons y m ih =>
    intro k hk
    rw [adds_cons] at hk
    have hle : ∀ (m k : List α), (adds k m).length ≤ k.length + m.length := by
      intro m
      induction m with
      | nil => intro k; simp [adds_nil]
      | cons z m ih2 =>
        intro k
        rw [adds_cons]
        have := ih2 (add k z)
        have h2 : (add k z).length ≤ k.length + 1 := by unfold add; split <;> simp
        simp only [List.length_cons]
        omega
    by_cases hy : y ∈ k
    · rw [add_in hy] at hk
      have := hle m k
      simp only [List.length_cons] at hk
      omega
    · rw [add_out hy] at hk
      obtain ⟨h1, h2⟩ := ih (k ++ [y]) (by rw [hk]; simp; omega)
      refine ⟨List.nodup_cons.mpr ⟨fun hm => h2 y hm (by simp), h1⟩, fun x hx => ?_⟩
      rcases List.mem_cons.mp hx with rfl | hx
      · exact hy
      · exact fun hk => h2 x hx (by simp [hk])
theorem inj_of_len (f : α → β) (K : List α) (h : (dd (K.map f)).length = (dd K).length) : ∀ a ∈ K, ∀ b ∈ K, f a = f b → a = b := by
  rw [dd_map2] at h
  have h2 := nodup_of_dd ((dd K).map f) (by rw [h, List.length_map])
  intro a ha b hb hab
  obtain ⟨i, hi, rfl⟩ := List.mem_iff_getElem.mp (mem_dd.mpr ha)
  obtain ⟨j, hj, rfl⟩ := List.mem_iff_getElem.mp (mem_dd.mpr hb)
  have e1 := h2.idxOf_getElem i (by simpa using hi)
  have e2 := h2.idxOf_getElem j (by simpa using hj)
  rw [List.getElem_map] at e1 e2
  rw [hab, e2] at e1
  subst e1
  rfl
end
def Cf (os cl : List Int) (x : Int) : Int := rd cl (pl os x)
theorem pl_at {os : List Int} (hn : os.Nodup) (i : Nat) (hi : i < os.length) : pl os os[i] = (i : Int) := by
  have hm : os[i] ∈ os := List.getElem_mem hi
  show (idx os os[i]).getD 0 = _
  rw [← idx_val hm, hn.idxOf_getElem]
theorem Cf_at {os cl : List Int} (hn : os.Nodup) (hl : cl.length = os.length) (i : Nat) (hi : i < os.length) : Cf os cl os[i] = cl[i] := by
  unfold Cf
  rw [pl_at hn i hi, rd_get cl i (by omega)]
theorem cl_map {os cl : List Int} (hn : os.Nodup) (hl : cl.length = os.length) : os.map (Cf os cl) = cl := by
  apply List.ext_getElem
  · simp [hl]
  · intro i h1 h2
    rw [List.getElem_map, Cf_at hn hl]
def Kx (l1 : List (List Int)) (os cl : List Int) (x : Int) : K4 := (Cf os cl x, Cf os cl (rd (rowOf l1 x) 0), Cf os cl (rd (rowOf l1 x) 1), Cf os cl (rd (rowOf l1 x) 2))
theorem keys_map {l1 : List (List Int)} {os cl : List Int} (hn : os.Nodup) (hl : cl.length = os.length) : keys l1 os cl = os.map (Kx l1 os cl) := by
  apply List.ext_getElem
  · simp [keys]
  · intro i h1 h2
    have hi : i < os.length := by simpa [keys] using h1
    simp only [keys, List.getElem_map, List.getElem_range, keyAt, Kx]
    rw [Cf_at hn hl i hi]
    simp only [List.getD_eq_getElem?_getD, List.getElem?_eq_getElem hi, List.getElem?_eq_getElem (show i < cl.length by omega), Option.getD_some]
    rfl
def nmOf {α : Type} [DecidableEq α] (D : List α) (k : α) : Int := (D.idxOf k : Int)
theorem nm_snd {α : Type} [DecidableEq α] (K : List α) : (nmF K [] []).2 = K.map (nmOf (dd K)) := by rw [nm_eq]; rfl
theorem nm_fst {α : Type} [DecidableEq α] (K : List α) : (nmF K [] []).1 = dd K := by rw [nm_eq]
theorem idxOf_eq_iff {α : Type} [DecidableEq α] {l : List α} {a b : α} (ha : a ∈ l) (hb : b ∈ l) : l.idxOf a = l.idxOf b ↔ a = b := by
  constructor
  · intro h
    have h1 := List.getElem_idxOf (List.idxOf_lt_length_of_mem ha)
    have h2 := List.getElem_idxOf (List.idxOf_lt_length_of_mem hb)
    rw [← h1, ← h2]
    congr 1
  · rintro rfl; rfl
theorem nmOf_iff {α : Type} [DecidableEq α] {l : List α} {a b : α} (ha : a ∈ l) (hb : b ∈ l) : nmOf l a = nmOf l b ↔ a = b := by
  rw [← idxOf_eq_iff ha hb]
  unfold nmOf
  omega
theorem Cf_next {l1 : List (List Int)} {os cl : List Int} (hn : os.Nodup) (hl : cl.length = os.length) {x : Int} (hx : x ∈ os) : Cf os (nmF (keys l1 os cl) [] []).2 x = nmOf (dd (os.map (Kx l1 os cl))) (Kx l1 os cl x) := by
  obtain ⟨i, hi, rfl⟩ := List.mem_iff_getElem.mp hx
  rw [Cf_at hn (by rw [nm_snd]; simp [keys]) i hi]
  simp only [nm_snd, keys_map hn hl, List.getElem_map]
theorem next_iff {l1 : List (List Int)} {os cl : List Int} (hn : os.Nodup) (hl : cl.length = os.length) {x y : Int} (hx : x ∈ os) (hy : y ∈ os) :
    Cf os (nmF (keys l1 os cl) [] []).2 x = Cf os (nmF (keys l1 os cl) [] []).2 y ↔ Kx l1 os cl x = Kx l1 os cl y := by
  rw [Cf_next hn hl hx, Cf_next hn hl hy]
  exact nmOf_iff (mem_dd.mpr (List.mem_map_of_mem hx)) (mem_dd.mpr (List.mem_map_of_mem hy))
theorem ref_good {acc : List Bool} {l1 : List (List Int)} {os : List Int} (hf : Fits acc l1) (hn : os.Nodup) (hpos : 1 ≤ os.length) (hdom : ∀ x ∈ os, 0 ≤ x ∧ x < (acc.length : Int)) (hcl : ∀ x ∈ os, ∀ y ∈ rowOf l1 x, y ∈ os) :
    ∀ (d : Nat) (cl : List Int) (c : Nat), cl.length = os.length → (∀ x ∈ os, ∀ y ∈ os, lang acc l1 x = lang acc l1 y → Cf os cl x = Cf os cl y) → (∀ x ∈ os, ∀ y ∈ os, Cf os cl x = Cf os cl y → rdOf false acc x = rdOf false acc y) →
      (c = 0 ∨ c = (dd cl).length) → os.length + 2 ≤ d + c → ∀ cf, refF l1 os d cl c = cf → cf.length = os.length ∧ ∀ x ∈ os, ∀ y ∈ os, (Cf os cf x = Cf os cf y ↔ lang acc l1 x = lang acc l1 y) := by
  intro d
  induction d with
  | zero =>
    intro cl c hl h1 h2 hc hd cf
    have := dd_len_le cl
    omega
  | succ d ih =>
    intro cl c hl h1 h2 hc hd cf hcf
    have mem3 : ∀ x ∈ os, rd (rowOf l1 x) 0 ∈ os ∧ rd (rowOf l1 x) 1 ∈ os ∧ rd (rowOf l1 x) 2 ∈ os := fun x hx => by
      have h3 := three (hf.row x (hdom x hx)).1
      have := hcl x hx
      rw [h3] at this
      exact ⟨this _ (by simp), this _ (by simp), this _ (by simp)⟩
    have g1 : ∀ x ∈ os, ∀ y ∈ os, lang acc l1 x = lang acc l1 y → Cf os (nmF (keys l1 os cl) [] []).2 x = Cf os (nmF (keys l1 os cl) [] []).2 y := fun x hx y hy h => by
      rw [next_iff hn hl hx hy]
      unfold Kx
      rw [h1 x hx y hy h, h1 _ (mem3 x hx).1 _ (mem3 y hy).1 (congrArg (fun L => der L 0) h), h1 _ (mem3 x hx).2.1 _ (mem3 y hy).2.1 (congrArg (fun L => der L 1) h), h1 _ (mem3 x hx).2.2 _ (mem3 y hy).2.2 (congrArg (fun L => der L 2) h)]
    have g2 : ∀ x ∈ os, ∀ y ∈ os, Cf os (nmF (keys l1 os cl) [] []).2 x = Cf os (nmF (keys l1 os cl) [] []).2 y → rdOf false acc x = rdOf false acc y := fun x hx y hy h => by
      rw [next_iff hn hl hx hy] at h
      exact h2 x hx y hy (congrArg (fun k : K4 => k.1) h)
    have gl : (nmF (keys l1 os cl) [] []).2.length = os.length := by rw [nm_snd]; simp [keys]
    have hK1 : (nmF (keys l1 os cl) [] []).1.length = (dd (os.map (Kx l1 os cl))).length := by rw [nm_fst, keys_map hn hl]
    rw [refF] at hcf
    by_cases he : (nmF (keys l1 os cl) [] []).1.length = c
    · rw [if_pos he] at hcf
      subst hcf
      refine ⟨gl, fun x hx y hy => ⟨fun h => ?_, g1 x hx y hy⟩⟩
      have hpos2 : 0 < (dd (os.map (Kx l1 os cl))).length := by
        have : os ≠ [] := fun e => by rw [e] at hpos; simp at hpos
        obtain ⟨a, ha⟩ := List.exists_mem_of_ne_nil os this
        exact List.length_pos_of_mem (mem_dd.mpr (List.mem_map_of_mem ha))
      have hcd : c = (dd cl).length := by
        rcases hc with hc | hc
        · omega
        · exact hc
      have hfst : (os.map (Kx l1 os cl)).map (fun k : K4 => k.1) = cl := by
        rw [List.map_map]
        exact cl_map hn hl
      have hinj := inj_of_len (fun k : K4 => k.1) (os.map (Kx l1 os cl)) (by rw [hfst]; omega)
      have hst : ∀ x ∈ os, ∀ y ∈ os, Cf os cl x = Cf os cl y → Kx l1 os cl x = Kx l1 os cl y := fun x hx y hy h => hinj _ (List.mem_map_of_mem hx) _ (List.mem_map_of_mem hy) h
      have hrun : ∀ w : List (Fin 3), ∀ x ∈ os, ∀ y ∈ os, Cf os cl x = Cf os cl y → run acc l1 w x = run acc l1 w y := by
        intro w
        induction w with
        | nil => exact h2
        | cons k w ihw =>
          intro x hx y hy hxy
          have hk := hst x hx y hy hxy
          unfold Kx at hk
          injection hk with _ hk
          injection hk with hk0 hk
          injection hk with hk1 hk2
          match k with
          | 0 => exact ihw _ (mem3 x hx).1 _ (mem3 y hy).1 hk0
          | 1 => exact ihw _ (mem3 x hx).2.1 _ (mem3 y hy).2.1 hk1
          | 2 => exact ihw _ (mem3 x hx).2.2 _ (mem3 y hy).2.2 hk2
      rw [next_iff hn hl hx hy] at h
      have h0 : Cf os cl x = Cf os cl y := congrArg (fun k : K4 => k.1) h
      exact funext fun w => hrun w x hx y hy h0
    · rw [if_neg he] at hcf
      have hmore := keys_more (l1 := l1) hl
      rw [keys_map hn hl] at hmore
      have hlen2 : (nmF (keys l1 os cl) [] []).1.length = (dd (nmF (keys l1 os cl) [] []).2).length := by rw [nm_classes, nm_fst]
      refine ih _ _ gl g1 g2 (Or.inr hlen2) ?_ cf hcf
      rcases hc with hc | hc
      · have hpos2 : 0 < (dd (os.map (Kx l1 os cl))).length := by
          have : os ≠ [] := fun e => by rw [e] at hpos; simp at hpos
          obtain ⟨a, ha⟩ := List.exists_mem_of_ne_nil os this
          exact List.length_pos_of_mem (mem_dd.mpr (List.mem_map_of_mem ha))
        omega
      · omega
theorem card_n (n : Nat) (s : List Int) (hn : s.Nodup) (h : ∀ x ∈ s, 0 ≤ x ∧ x < n) : s.length ≤ n := by
  have := nodup_len s ((List.range n).map fun (i : Nat) => (i : Int)) hn (fun x hx => by
    have := h x hx
    exact List.mem_map.mpr ⟨x.toNat, List.mem_range.mpr (by omega), by omega⟩)
  simpa using this
theorem ord_runs {acc : List Bool} {l1 : List (List Int)} (hf : Fits acc l1) : ∀ (d : Nat) (L : List Int) (i : Nat), L.Nodup → (∀ x ∈ L, 0 ≤ x ∧ x < (acc.length : Int)) → acc.length ≤ d + i → Runs (rowOf l1) L i (ordF l1 d L i)
  | 0, L, i, hn, ha, hd => .stop (by have := card_n acc.length L hn ha; omega)
  | d + 1, L, i, hn, ha, hd => by
    rw [ordF]
    by_cases h : i < L.length
    · rw [dif_pos h]
      refine .step h (ord_runs hf d _ _ (nodup_adds _ hn) (fun x hx => ?_) (by omega))
      rcases mem_adds.mp hx with q | q
      · exact ha x q
      · exact (hf.row _ (ha _ (List.getElem_mem h))).2 x q
    · rw [dif_neg h]
      exact .stop (by omega)
theorem ld_good (cl : List Int) : ∀ (m : List Int) (i : Nat) (ns ls : List Int), m = cl.drop i → ns = dd (cl.take i) → ls.map (rd cl) = ns → (∀ x ∈ ls, 0 ≤ x ∧ x < (cl.length : Int)) →
    (ldF m i ns ls).1 = dd cl ∧ (ldF m i ns ls).2.map (rd cl) = dd cl ∧ ∀ x ∈ (ldF m i ns ls).2, 0 ≤ x ∧ x < (cl.length : Int)
  | [], i, ns, ls, hm, hns, hls, hb => by
    have hi : cl.length ≤ i := by
      have := congrArg List.length hm
      simp only [List.length_nil, List.length_drop] at this
      omega
    rw [List.take_of_length_le hi] at hns
    rw [ldF, ← hns]
    exact ⟨rfl, hls, hb⟩
  | c :: m, i, ns, ls, hm, hns, hls, hb => by
    have hi : i < cl.length := by
      have := congrArg List.length hm
      simp only [List.length_cons, List.length_drop] at this
      omega
    rw [List.drop_eq_getElem_cons hi] at hm
    injection hm with hc hm
    have ht : dd (cl.take (i + 1)) = add ns c := by rw [List.take_succ_eq_append_getElem hi, dd_snoc, ← hns, hc]
    rw [ldF]
    by_cases h : c ∈ ns
    · rw [if_pos h]
      exact ld_good cl m (i + 1) ns ls hm (by rw [ht, add_in h]) hls hb
    · rw [if_neg h]
      refine ld_good cl m (i + 1) _ _ hm (by rw [ht, add_out h]) ?_ ?_
      · rw [List.map_append, hls, List.map_singleton, rd_get cl i hi, hc]
      · intro x hx
        rcases List.mem_append.mp hx with q | q
        · exact hb x q
        · rw [List.mem_singleton] at q; subst q; omega
theorem min_can {acc : List Bool} {l1 : List (List Int)} (hf : Fits acc l1) {st : Int} (hst : 0 ≤ st ∧ st < (acc.length : Int)) : IsCan (lang acc l1 st) (minD acc l1 st) := by
  have h0 : ∀ x ∈ [st], 0 ≤ x ∧ x < (acc.length : Int) := fun x hx => by rw [List.mem_singleton] at hx; subst hx; exact hst
  have hR := ord_runs hf (acc.length + 2) [st] 0 (by simp) h0 (by omega)
  unfold minD minT
  generalize ordF l1 (acc.length + 2) [st] 0 = os at hR
  have hn : os.Nodup := hR.nodup (by simp)
  have hdom := hR.all (p := fun x => 0 ≤ x ∧ x < (acc.length : Int)) (fun x hx y hy => (hf.row x hx).2 y hy) h0
  have hcl := hR.closed (fun j _ hj => by omega)
  have hpos : 1 ≤ os.length := hR.pre.length_le
  have hcan := hR.map0 (dom := fun x => 0 ≤ x ∧ x < (acc.length : Int)) (succ' := lsucc) (f := lang acc l1) (fun x hx y hy => (hf.row x hx).2 y hy) (fun x hx => succ_lang hf hx) hst
  have hl0 : (os.map (cls0 acc)).length = os.length := by simp
  have hc0 : ∀ x ∈ os, Cf os (os.map (cls0 acc)) x = cls0 acc x := fun x hx => by
    obtain ⟨i, hi, rfl⟩ := List.mem_iff_getElem.mp hx
    rw [Cf_at hn hl0 i hi, List.getElem_map]
  obtain ⟨hcl2, hiff⟩ := ref_good hf hn hpos hdom hcl (os.length + 2) (os.map (cls0 acc)) 0 hl0 (fun x hx y hy h => by
    rw [hc0 x hx, hc0 y hy]
    have : rdOf false acc x = rdOf false acc y := congrFun h []
    unfold cls0
    rw [this]) (fun x hx y hy h => by
    rw [hc0 x hx, hc0 y hy] at h
    unfold cls0 at h
    cases hx : rdOf false acc x <;> cases hy : rdOf false acc y <;> simp [hx, hy] at h ⊢) (Or.inl rfl) (by omega) _ rfl
  generalize refF l1 os (os.length + 2) (os.map (cls0 acc)) 0 = cf at hcl2 hiff
  obtain ⟨e1, e2, e3⟩ := ld_good cf cf 0 [] [] rfl rfl rfl (fun x hx => by cases hx)
  unfold outD
  generalize hns : (ldF cf 0 [] []).1 = ns at e1
  generalize hls : (ldF cf 0 [] []).2 = ls at e2 e3
  have hg : ∃ g : Int → Lan, ∀ x ∈ os, g (Cf os cf x) = lang acc l1 x := by
    refine ⟨fun c => lang acc l1 (rd os ((cf.idxOf c : Nat) : Int)), fun x hx => ?_⟩
    obtain ⟨i, hi, rfl⟩ := List.mem_iff_getElem.mp hx
    rw [Cf_at hn hcl2 i hi]
    have hm : cf[i] ∈ cf := List.getElem_mem (by omega)
    have hlt := List.idxOf_lt_length_of_mem hm
    have hat : cf[cf.idxOf cf[i]] = cf[i] := List.getElem_idxOf hlt
    show lang acc l1 (rd os ((cf.idxOf cf[i] : Nat) : Int)) = _
    rw [rd_get os _ (by omega)]
    refine (hiff _ (List.getElem_mem _) _ (List.getElem_mem hi)).mp ?_
    rw [Cf_at hn hcl2, Cf_at hn hcl2 i hi, hat]
  obtain ⟨g, hg⟩ := hg
  have hgc : cf.map g = os.map (lang acc l1) := by
    conv => lhs; rw [← cl_map hn hcl2]
    rw [List.map_map]
    exact List.map_congr_left fun x hx => hg x hx
  have hmem : ∀ c ∈ cf, ∃ x ∈ os, c = Cf os cf x := fun c hc => by
    rw [← cl_map hn hcl2] at hc
    obtain ⟨x, hx, rfl⟩ := List.mem_map.mp hc
    exact ⟨x, hx, rfl⟩
  have hinj : ∀ a ∈ cf, ∀ b ∈ cf, g a = g b → a = b := fun a ha b hb h => by
    obtain ⟨x, hx, rfl⟩ := hmem a ha
    obtain ⟨y, hy, rfl⟩ := hmem b hb
    rw [hg x hx, hg y hy] at h
    exact (hiff x hx y hy).mpr h
  have hdd : dd (os.map (lang acc l1)) = (dd cf).map g := by rw [← hgc]; exact dd_inj g cf hinj
  have hgi : ∀ i ∈ ls, rd os i ∈ os ∧ g (rd cf i) = lang acc l1 (rd os i) := fun i hi => by
    have hb := e3 i hi
    have ht : i.toNat < os.length := by omega
    have h1 := rd_get os i.toNat ht
    have h2 := rd_get cf i.toNat (by omega)
    rw [Int.toNat_of_nonneg hb.1] at h1 h2
    rw [h1, h2, ← Cf_at hn hcl2 i.toNat ht]
    exact ⟨List.getElem_mem ht, hg _ (List.getElem_mem ht)⟩
  have hR2 : dd (os.map (lang acc l1)) = ls.map (fun i => lang acc l1 (rd os i)) := by
    rw [hdd, ← e2, List.map_map]
    exact List.map_congr_left fun i hi => (hgi i hi).2
  refine ⟨_, hcan, ?_⟩
  unfold outL
  refine Prod.ext ?_ ?_
  · show ls.map _ = _
    rw [hR2, List.map_map]
    rfl
  · have hh : ∀ F : Lan → List Int, (dd (os.map (lang acc l1))).map F = ls.map (fun i => F (lang acc l1 (rd os i))) := fun F => by rw [hR2, List.map_map]; rfl
    show ls.map (outRow l1 os cf ns) = (dd (os.map (lang acc l1))).map _
    rw [hh]
    refine List.map_congr_left fun i hi => ?_
    have hx := (hgi i hi).1
    show outRow l1 os cf ns i = (lsucc (lang acc l1 (rd os i))).map _
    rw [← succ_lang hf (hdom _ hx), List.map_map]
    unfold outRow
    refine List.map_congr_left fun y hy => ?_
    have hyo := hcl _ hx y hy
    show (idx ns (Cf os cf y)).getD 0 = ((dd (os.map (lang acc l1))).idxOf (lang acc l1 y) : Int)
    have hcm : Cf os cf y ∈ cf := by
      have h1 : Cf os cf y ∈ os.map (Cf os cf) := List.mem_map_of_mem hyo
      rw [cl_map hn hcl2] at h1
      exact h1
    rw [e1, ← idx_val (mem_dd.mpr hcm), hdd, ← hg y hyo, idxOf_inj g (dd cf) _ (fun b hb h => hinj b (mem_dd.mp hb) _ hcm h)]
end Go.Proofs.Ytoknogcefajfiaa.Can
end
section
namespace Go.Proofs.Ytoknogcefajfiaa.Can
open Go.RowKit Go.Proofs.Ytoknogcefajfiaa Go.Proofs.Ytoknogcefajfiaa.Lg Go.Proofs.Ytoknogcefajfiaa.Pl Go.Proofs.Ytoknogcefajfiaa.Mp Go.Proofs.Ytoknogcefajfiaa.Bf Go.Proofs.Ytoknogcefajfiaa.Mn Go.Proofs.YtoknogcefajfiaaW.PrintWords Go.Proofs.YtoknogcefajfiaaW.PrintLast Go.Proofs.YtoknogcefajfiaaW.PrintMore
set_option linter.unusedVariables false
set_option linter.unusedSimpArgs false
set_option linter.unusedSectionVars false
def trunc (r : Nat) (L : Lan) : Lan := fun w => if w.length ≤ r then L w else false
theorem trunc_trunc (r : Nat) (L : Lan) : trunc r (trunc (r + 1) L) = trunc r L := by
  funext w
  unfold trunc
  by_cases h : w.length ≤ r
  · rw [if_pos h, if_pos h, if_pos (by omega)]
  · rw [if_neg h, if_neg h]
theorem trunc_zero {L M : Lan} : trunc 0 L = trunc 0 M ↔ eps L = eps M := by
  constructor
  · intro h
    exact congrFun h []
  · intro h
    funext w
    unfold trunc
    by_cases hw : w.length ≤ 0
    · rw [if_pos hw, if_pos hw]
      have : w = [] := List.length_eq_zero_iff.mp (by omega)
      subst this
      exact h
    · rw [if_neg hw, if_neg hw]
theorem trunc_succ {r : Nat} {L M : Lan} : trunc (r + 1) L = trunc (r + 1) M ↔ eps L = eps M ∧ ∀ k, trunc r (der L k) = trunc r (der M k) := by
  constructor
  · intro h
    refine ⟨congrFun h [], fun k => funext fun w => ?_⟩
    have := congrFun h (k :: w)
    unfold trunc at this ⊢
    by_cases hw : w.length ≤ r
    · rw [if_pos (by simp; omega), if_pos (by simp; omega)] at this
      rw [if_pos hw, if_pos hw]
      exact this
    · rw [if_neg hw, if_neg hw]
  · rintro ⟨h0, h⟩
    funext w
    cases w with
    | nil => exact h0
    | cons k w =>
      have := congrFun (h k) w
      unfold trunc at this ⊢
      by_cases hw : w.length ≤ r
      · rw [if_pos hw, if_pos hw] at this
        rw [if_pos (by simp; omega), if_pos (by simp; omega)]
        exact this
      · rw [if_neg (by simp; omega), if_neg (by simp; omega)]
theorem lan_of_trunc {L M : Lan} (h : ∀ r, trunc r L = trunc r M) : L = M := by
  funext w
  have := congrFun (h w.length) w
  unfold trunc at this
  rw [if_pos (Nat.le_refl _), if_pos (Nat.le_refl _)] at this
  exact this
section
variable {acc : List Bool} {nx : List (List Int)}
def sig (acc : List Bool) (nx : List (List Int)) (r : Nat) (q : Int) : Lan := trunc r (lang acc nx q)
theorem sig_zero {p q : Int} : sig acc nx 0 p = sig acc nx 0 q ↔ rdOf false acc p = rdOf false acc q := trunc_zero
theorem sig_succ {r : Nat} {p q : Int} : sig acc nx (r + 1) p = sig acc nx (r + 1) q ↔ rdOf false acc p = rdOf false acc q ∧ ∀ k : Fin 3, sig acc nx r (rd (rowOf nx p) (k.val : Int)) = sig acc nx r (rd (rowOf nx q) (k.val : Int)) := trunc_succ
theorem sig_down {r : Nat} {p q : Int} (h : sig acc nx (r + 1) p = sig acc nx (r + 1) q) : sig acc nx r p = sig acc nx r q := by
  have := congrArg (trunc r) h
  unfold sig at this ⊢
  rw [trunc_trunc, trunc_trunc] at this
  exact this
def states (n : Nat) : List Int := (List.range n).map fun (i : Nat) => (i : Int)
theorem mem_states {n : Nat} {q : Int} : q ∈ states n ↔ 0 ≤ q ∧ q < (n : Int) := by
  unfold states
  rw [List.mem_map]
  constructor
  · rintro ⟨i, hi, rfl⟩
    rw [List.mem_range] at hi
    omega
  · intro h
    exact ⟨q.toNat, List.mem_range.mpr (by omega), by omega⟩
theorem rd_mem {r : List Int} (h : r.length = 3) (k : Fin 3) : rd r (k.val : Int) ∈ r := by
  rw [rd_get r k.val (by omega)]
  exact List.getElem_mem _
theorem sig_stable (hf : Fits acc nx) {r : Nat} (h : ∀ p ∈ states acc.length, ∀ q ∈ states acc.length, sig acc nx r p = sig acc nx r q → sig acc nx (r + 1) p = sig acc nx (r + 1) q) :
    ∀ d : Nat, ∀ p ∈ states acc.length, ∀ q ∈ states acc.length, sig acc nx r p = sig acc nx r q → sig acc nx (r + d) p = sig acc nx (r + d) q := by
  have hstep : ∀ d : Nat, ∀ p ∈ states acc.length, ∀ q ∈ states acc.length, sig acc nx (r + d) p = sig acc nx (r + d) q → sig acc nx (r + d + 1) p = sig acc nx (r + d + 1) q := by
    intro d
    induction d with
    | zero => exact h
    | succ d ih =>
      intro p hp q hq hpq
      rw [sig_succ]
      have h1 := sig_succ.mp hpq
      refine ⟨h1.1, fun k => ?_⟩
      have hp3 := hf.row p (mem_states.mp hp)
      have hq3 := hf.row q (mem_states.mp hq)
      exact ih _ (mem_states.mpr (hp3.2 _ (rd_mem hp3.1 k))) _ (mem_states.mpr (hq3.2 _ (rd_mem hq3.1 k))) (h1.2 k)
  intro d
  induction d with
  | zero => exact fun p hp q hq h => h
  | succ d ih => exact fun p hp q hq h => hstep d p hp q hq (ih p hp q hq h)
theorem sig_all (hf : Fits acc nx) {m : Nat} (hm : acc.length ≤ m) {p q : Int} (hp : 0 ≤ p ∧ p < (acc.length : Int)) (hq : 0 ≤ q ∧ q < (acc.length : Int)) : sig acc nx m p = sig acc nx m q ↔ lang acc nx p = lang acc nx q := by
  constructor
  · intro h
    have hex : ∃ r, r ≤ m ∧ ∀ p ∈ states acc.length, ∀ q ∈ states acc.length, sig acc nx r p = sig acc nx r q → sig acc nx (r + 1) p = sig acc nx (r + 1) q := by
      refine Classical.byContradiction fun hno => ?_
      have hlt : ∀ r, r ≤ m → (dd ((states acc.length).map (sig acc nx r))).length < (dd ((states acc.length).map (sig acc nx (r + 1)))).length := by
        intro r hr
        have e : (states acc.length).map (sig acc nx r) = ((states acc.length).map (sig acc nx (r + 1))).map (trunc r) := by
          rw [List.map_map]
          exact List.map_congr_left fun x _ => (trunc_trunc r (lang acc nx x)).symm
        have hle := dd_map_le (trunc r) ((states acc.length).map (sig acc nx (r + 1)))
        rw [← e] at hle
        refine Nat.lt_of_le_of_ne hle fun heq => hno ⟨r, hr, fun p hp q hq hpq => ?_⟩
        refine inj_of_len (trunc r) _ (by rw [← e]; exact heq) _ (List.mem_map_of_mem hp) _ (List.mem_map_of_mem hq) ?_
        show trunc r (trunc (r + 1) _) = trunc r (trunc (r + 1) _)
        rw [trunc_trunc, trunc_trunc]
        exact hpq
      have hge : ∀ r, r ≤ m + 1 → r ≤ (dd ((states acc.length).map (sig acc nx r))).length := by
        intro r
        induction r with
        | zero => intro _; exact Nat.zero_le _
        | succ r ih =>
          intro hr
          have := hlt r (by omega)
          have := ih (by omega)
          omega
      have h1 := hge (m + 1) (Nat.le_refl _)
      have h2 := dd_len_le ((states acc.length).map (sig acc nx (m + 1)))
      have h3 : ((states acc.length).map (sig acc nx (m + 1))).length = acc.length := by simp [states]
      omega
    obtain ⟨r, hr, hst⟩ := hex
    have h0 : sig acc nx r p = sig acc nx r q := by
      obtain ⟨d, rfl⟩ : ∃ d, m = r + d := ⟨m - r, by omega⟩
      clear hst hr hm
      induction d with
      | zero => exact h
      | succ d ih => exact ih (sig_down h)
    refine lan_of_trunc fun s => ?_
    have h1 := sig_stable hf hst s p (mem_states.mpr hp) q (mem_states.mpr hq) h0
    have hdown : ∀ d t : Nat, sig acc nx (t + d) p = sig acc nx (t + d) q → sig acc nx t p = sig acc nx t q := by
      intro d
      induction d with
      | zero => exact fun t h => h
      | succ d ih => exact fun t h => ih t (sig_down h)
    exact hdown r s (by rw [Nat.add_comm]; exact h1)
  · intro h
    unfold sig
    rw [h]
end
end Go.Proofs.Ytoknogcefajfiaa.Can
end
section
namespace Go.Proofs.Ytoknogcefajfiaa.P
open Go.RowKit Go.Proofs.YtoknogcefajfiaaW.PrintWords Go.Proofs.YtoknogcefajfiaaW.PrintLast Go.Proofs.YtoknogcefajfiaaW.PrintMore
attribute [local go_sem] max2_int min2_int max_two min_two max_three min_three max_four min_four
set_option linter.unusedVariables false
set_option linter.unusedSimpArgs false
def spec_l5Find.l0 : Nat → List Int → Int → Int → Option (Int)
  | 0, _, _, _ => none
  | k + 1, x0, x1, x5 => if x5 < (x0.length : Int) then (if 0 ≤ x5 then (if (rd x0 x5) = x1 then (some x5) else (spec_l5Find.l0 k x0 x1 (wrap64 (x5 + 1)))) else (none)) else (some (-1))
def spec_l5Find.f (k : Nat) (l0 : List Int) (a1 : Int) : Option (Int) := spec_l5Find.l0 k l0 a1 0
theorem spec_l5Find.mono_l : ∀ k, (∀ y0 y1 y2, LeO (spec_l5Find.l0 k y0 y1 y2) (spec_l5Find.l0 (k + 1) y0 y1 y2))
  | 0 => fun _ _ _ r h => by simp [spec_l5Find.l0] at h
  | k + 1 => by
    have ih0 := spec_l5Find.mono_l k
    · intro y0 y1 y2
      unfold spec_l5Find.l0
      repeat' first
      | (with_reducible exact ih0 _ _ _)
      | (with_reducible exact LeO.refl _)
      | (with_reducible exact LeO.none _)
      | (with_reducible refine LeO.ite ?_ ?_)
      | (with_reducible refine LeO.bind ?_ (fun _ => ?_))
      | exact ih0 _ _ _
      | exact LeO.none _
      | refine LeO.ite ?_ ?_
      | refine LeO.bind ?_ (fun _ => ?_)
theorem spec_l5Find.mono : ∀ a0 a1 k, LeO (spec_l5Find.f k a0 a1) (spec_l5Find.f (k + 1) a0 a1) := by
  intro a0 a1 k
  have ih0 := spec_l5Find.mono_l k
  unfold spec_l5Find.f
  repeat' first
      | (with_reducible exact ih0 _ _ _)
      | (with_reducible exact LeO.refl _)
      | (with_reducible exact LeO.none _)
      | (with_reducible refine LeO.ite ?_ ?_)
      | (with_reducible refine LeO.bind ?_ (fun _ => ?_))
      | exact ih0 _ _ _
      | exact LeO.none _
      | refine LeO.ite ?_ ?_
      | refine LeO.bind ?_ (fun _ => ?_)
set_option maxHeartbeats 8000000 in
set_option maxRecDepth 100000 in
theorem spec_l5Find.calls (k : Nat) (A0 : Option Addr) (c0 : Nat) (l0 : List Int) (a1 : Int) (r : Int) (w : World) (hr0 : Kd.C (Kd.int .i64) w A0 l0.length l0) (hc0 : l0.length ≤ c0) (h : spec_l5Find.f k l0 a1 = some r) :
    Calls Try.prog 80 #[.slice A0 l0.length c0, .int .i64 a1] w fun e w' => e = .returned (.int .i64 r) ∧ Drawn0 w w' := by
  have HR0 := Aside0.mk hr0
  have HC0 := Aside0.mk hc0
  clear hr0 hc0
  have H : (spec_l5Find.l0 k l0 a1 0) = some r := h
  clear h
  have H' := Aside0.mk H
  clear H
  go_enter Try.func80, Try.ntmps80
  go_wp2
  go_loopg [5] k (fun kq v5 w' => ∃ (x5_1 : Int), v5 = .int .i64 x5_1 ∧ Aside0 (spec_l5Find.l0 kq l0 a1 x5_1 = some r) ∧ Aside0 (kq ≤ k) ∧ Drawn0 w w')
  case atStart => exact ⟨(0), (by first | rfl | (simp; done) | (simp [*]; done)), H', ⟨Nat.le_refl _⟩, by repeat (first | exact Drawn0.refl _ | apply Drawn0.step)⟩
  case round =>
    clear H'
    try clear p2
    obtain ⟨x5_1, rfl, HA, HK1, ⟨m1, rfl⟩⟩ := hrel
    cases gk with
    | zero => exact absurd HA.out (by simp [spec_l5Find.l0])
    | succ k1 =>
      have H := HA.out
      clear HA
      simp only [spec_l5Find.l0] at H
      by_cases c3 : x5_1 < (l0.length : Int)
      · rw [if_pos c3] at H
        have c3b0 : decide (x5_1 < (l0.length : Int)) = true := decide_eq_true c3
        clear c3
        by_cases c4 : 0 ≤ x5_1
        · rw [if_pos c4] at H
          have c4b0 : decide (0 ≤ x5_1) = true := decide_eq_true c4
          clear c4
          by_cases c5 : (rd l0 x5_1) = a1
          · rw [if_pos c5] at H
            have c5b0 : ((rd l0 x5_1) == a1) = true := beq_iff_eq.mpr c5
            have c5b1 : ((rd l0 x5_1) != a1) = false := bne_eq_false_iff_eq.mpr c5
            clear c5
            obtain rfl := Option.some.inj H
            simp only [Option.some.injEq, Prod.mk.injEq] at H
            obtain ⟨rfl⟩ := H
            have p370 : 0 ≤ (x5_1 : Int) := of_decide_eq_true (by first | (with_reducible assumption) | assumption)
            have q370 : x5_1 < (l0.length : Int) := of_decide_eq_true (by first | (with_reducible assumption) | assumption)
            obtain ⟨ad370, e370, hx370_0⟩ := Kd.at_int HR0.out x5_1 p370 q370
            cases e370
            replace p370 := eq_true p370
            replace q370 := eq_true q370
            go_wp2
            go_ret
            exact ⟨by first | rfl | (simp; done) | (simp [*]; done), by repeat (first | exact Drawn0.refl _ | apply Drawn0.step)⟩
          · rw [if_neg c5] at H
            have c5b0 : ((rd l0 x5_1) == a1) = false := beq_eq_false_iff_ne.mpr c5
            have c5b1 : ((rd l0 x5_1) != a1) = true := bne_iff_ne.mpr c5
            have H' := Aside0.mk H
            clear H
            have p370 : 0 ≤ (x5_1 : Int) := of_decide_eq_true (by first | (with_reducible assumption) | assumption)
            have q370 : x5_1 < (l0.length : Int) := of_decide_eq_true (by first | (with_reducible assumption) | assumption)
            obtain ⟨ad370, e370, hx370_0⟩ := Kd.at_int HR0.out x5_1 p370 q370
            cases e370
            replace p370 := eq_true p370
            replace q370 := eq_true q370
            go_wp2
            go_roundg k1
            case measure => have := HK1.out; omega
            case rel => exact ⟨(wrap64 (x5_1 + 1)), (by first | rfl | (simp; done) | (simp [*]; done)), H', ⟨by have := HK1.out; omega⟩, by repeat (first | exact Drawn0.refl _ | apply Drawn0.step)⟩
        · rw [if_neg c4] at H
          exact absurd H (by simp)
      · rw [if_neg c3] at H
        have c3b0 : decide (x5_1 < (l0.length : Int)) = false := decide_eq_false c3
        clear c3
        obtain rfl := Option.some.inj H
        simp only [Option.some.injEq, Prod.mk.injEq] at H
        obtain ⟨rfl⟩ := H
        go_wp2
        go_ret
        exact ⟨by first | rfl | (simp; done) | (simp [*]; done), by repeat (first | exact Drawn0.refl _ | apply Drawn0.step)⟩
end Go.Proofs.Ytoknogcefajfiaa.P
end
section
namespace Go.Proofs.Ytoknogcefajfiaa.P
open Go.RowKit Go.Proofs.YtoknogcefajfiaaW.PrintWords Go.Proofs.YtoknogcefajfiaaW.PrintLast Go.Proofs.YtoknogcefajfiaaW.PrintMore
attribute [local go_sem] max2_int min2_int max_two min_two max_three min_three max_four min_four
set_option linter.unusedVariables false
set_option linter.unusedSimpArgs false
def spec_l5Same.l0 : Nat → List Int → Int → Int → Bool → Int → List Bool → List (List Int) → Option (Bool)
  | 0, _, _, _, _, _, _, _ => none
  | k + 1, x1, x2, x3, x9, x10, x827000, x827001 => if x10 < 3 then (if x9 = true then (if 0 ≤ x2 then (if x2 < (x827001.length : Int) then (if 0 ≤ x10 then (if x10 < ((rd_L2 x827001 x2).length : Int) then (if 0 ≤ (rd (rd_L2 x827001 x2) x10) then (if (rd (rd_L2 x827001 x2) x10) < (x1.length : Int) then (if 0 ≤ x3 then (if x3 < (x827001.length : Int) then (if x10 < ((rd_L2 x827001 x3).length : Int) then (if 0 ≤ (rd (rd_L2 x827001 x3) x10) then (if (rd (rd_L2 x827001 x3) x10) < (x1.length : Int) then (spec_l5Same.l0 k x1 x2 x3 ((rd x1 (rd (rd_L2 x827001 x2) x10)) == (rd x1 (rd (rd_L2 x827001 x3) x10))) (wrap64 (x10 + 1)) x827000 x827001) else (none)) else (none)) else (none)) else (none)) else (none)) else (none)) else (none)) else (none)) else (none)) else (none)) else (none)) else (spec_l5Same.l0 k x1 x2 x3 false (wrap64 (x10 + 1)) x827000 x827001)) else (some x9)
def spec_l5Same.f (k : Nat) (l0_0 : List Bool) (l0_1 : List (List Int)) (l1 : List Int) (a2 : Int) (a3 : Int) : Option (Bool) := if 0 ≤ a2 then (if a2 < (l1.length : Int) then (if 0 ≤ a3 then (if a3 < (l1.length : Int) then (spec_l5Same.l0 k l1 a2 a3 ((rd l1 a2) == (rd l1 a3)) 0 l0_0 l0_1) else (none)) else (none)) else (none)) else (none)
theorem spec_l5Same.mono_l : ∀ k, (∀ y0 y1 y2 y3 y4 y5 y6, LeO (spec_l5Same.l0 k y0 y1 y2 y3 y4 y5 y6) (spec_l5Same.l0 (k + 1) y0 y1 y2 y3 y4 y5 y6))
 | 0 => fun _ _ _ _ _ _ _ r h => by simp [spec_l5Same.l0] at h
 | k + 1 => by
  have ih0 := spec_l5Same.mono_l k
  ·intro y0 y1 y2 y3 y4 y5 y6
   unfold spec_l5Same.l0
   repeat' first
   | (with_reducible exact ih0 _ _ _ _ _ _ _)
   | (with_reducible exact LeO.refl _)
   | (with_reducible exact LeO.none _)
   | (with_reducible refine LeO.ite ?_ ?_)
   | (with_reducible refine LeO.bind ?_ (fun _ => ?_))
   | exact ih0 _ _ _ _ _ _ _
   | exact LeO.none _
   | refine LeO.ite ?_ ?_
   | refine LeO.bind ?_ (fun _ => ?_)
theorem spec_l5Same.mono : ∀ a0 a1 a2 a3 a4 k, LeO (spec_l5Same.f k a0 a1 a2 a3 a4) (spec_l5Same.f (k + 1) a0 a1 a2 a3 a4) := by
 intro a0 a1 a2 a3 a4 k
 have ih0 := spec_l5Same.mono_l k
 unfold spec_l5Same.f
 repeat' first
   | (with_reducible exact ih0 _ _ _ _ _ _ _)
   | (with_reducible exact LeO.refl _)
   | (with_reducible exact LeO.none _)
   | (with_reducible refine LeO.ite ?_ ?_)
   | (with_reducible refine LeO.bind ?_ (fun _ => ?_))
   | exact ih0 _ _ _ _ _ _ _
   | exact LeO.none _
   | refine LeO.ite ?_ ?_
   | refine LeO.bind ?_ (fun _ => ?_)
set_option maxHeartbeats 8000000 in
set_option maxRecDepth 100000 in
theorem spec_l5Same.calls (k : Nat) (A0_0 : Option Addr) (c0_0 : Nat) (l0_0 : List Bool) (A0_1 : Option Addr) (c0_1 : Nat) (l0_1 : List (List Int)) (A1 : Option Addr) (c1 : Nat) (l1 : List Int) (a2 : Int) (a3 : Int) (r : Bool) (w : World) (hr0_0 : Kd.C Kd.bool w A0_0 l0_0.length l0_0) (hc0_0 : l0_0.length ≤ c0_0) (hr0_1 : Kd.C (Kd.slice 3 (Kd.int .i64)) w A0_1 l0_1.length l0_1) (hc0_1 : l0_1.length ≤ c0_1) (hr1 : Kd.C (Kd.int .i64) w A1 l1.length l1) (hc1 : l1.length ≤ c1) (h : spec_l5Same.f k l0_0 l0_1 l1 a2 a3 = some r) :
  Calls Try.prog 112 #[.agg #[.slice A0_0 l0_0.length c0_0, .slice A0_1 l0_1.length c0_1], .slice A1 l1.length c1, .int .i64 a2, .int .i64 a3] w fun e w' => e = .returned (.bool r) ∧ Below w.heap.size w w' := by
 have hu28 := Try.underlying28
 have HR0_0 := Aside0.mk hr0_0
 have HC0_0 := Aside0.mk hc0_0
 clear hr0_0 hc0_0
 have HR0_1 := Aside0.mk hr0_1
 have HC0_1 := Aside0.mk hc0_1
 clear hr0_1 hc0_1
 have HR1 := Aside0.mk hr1
 have HC1 := Aside0.mk hc1
 clear hr1 hc1
 have HB := Aside0.mk (Below.refl w.heap.size w)
 have H : (if 0 ≤ a2 then (if a2 < (l1.length : Int) then (if 0 ≤ a3 then (if a3 < (l1.length : Int) then (spec_l5Same.l0 k l1 a2 a3 ((rd l1 a2) == (rd l1 a3)) 0 l0_0 l0_1) else (none)) else (none)) else (none)) else (none)) = some r := h
 clear h
 by_cases c5 : 0 ≤ a2
 ·rw [if_pos c5] at H
  have c5b0 : decide (0 ≤ a2) = true := decide_eq_true c5
  clear c5
  by_cases c6 : a2 < (l1.length : Int)
  ·rw [if_pos c6] at H
   have c6b0 : decide (a2 < (l1.length : Int)) = true := decide_eq_true c6
   clear c6
   by_cases c7 : 0 ≤ a3
   ·rw [if_pos c7] at H
    have c7b0 : decide (0 ≤ a3) = true := decide_eq_true c7
    clear c7
    by_cases c8 : a3 < (l1.length : Int)
    ·rw [if_pos c8] at H
     have c8b0 : decide (a3 < (l1.length : Int)) = true := decide_eq_true c8
     clear c8
     have H' := Aside0.mk H
     clear H
     go_enter Try.func112, Try.ntmps112
     go_wp2_with (first | ((with_reducible refine gate_dst (N := 4) rfl ?_); refine box_event ?hg (N := 4) ?hd (cs := #[.slice A0_0 l0_0.length c0_0, .slice A0_1 l0_1.length c0_1]) (t := 28) ?hr ?_; (case hd => rfl); (case hg => rfl); (case hr => first | (go_simp; done) | (go_simp; rfl)); intro gb826 hg w9 hbox hb; have n0_ := Aside0.mk (below_step (by repeat (first | (with_reducible first | exact HB.out | apply below_alloc | apply pw_below_drewN | apply below_drew1) | exact HB.out)) hb); have n1_ := Aside0.mk (hbox); have n2_ := Aside0.mk ((by rw [hg]; exact (below_size (by repeat (first | (with_reducible first | exact HB.out | apply below_alloc | apply pw_below_drewN | apply below_drew1) | exact HB.out))) : w.heap.size ≤ gb826)); have n3_ := Aside0.mk ((by rw [hg]; exact (below_size (by repeat (first | (with_reducible first | exact HB.out | apply below_alloc | apply pw_below_drewN | apply below_drew1) | exact HB.out))) : w.heap.size ≤ gb826)); clear HB; have HB := n0_; have BK826 := n1_; have GW826 := n2_; have GE826 := n3_; clear n0_ n1_ n2_ n3_; clear hb hbox hg; have p827 : 0 ≤ (a2 : Int) := of_decide_eq_true (by first | (with_reducible assumption) | assumption); have q827 : a2 < (l1.length : Int) := of_decide_eq_true (by first | (with_reducible assumption) | assumption); obtain ⟨ad827, e827, hx827_0⟩ := Kd.at_int HR1.out a2 p827 q827; cases e827; replace hx827_0 := (HB.out.cell (World.block_lt_of_cell? w _ hx827_0)).trans hx827_0; replace p827 := eq_true p827; replace q827 := eq_true q827; have p828 : 0 ≤ (a3 : Int) := of_decide_eq_true (by first | (with_reducible assumption) | assumption); have q828 : a3 < (l1.length : Int) := of_decide_eq_true (by first | (with_reducible assumption) | assumption); obtain ⟨ad828, e828, hx828_0⟩ := Kd.at_int HR1.out a3 p828 q828; obtain rfl : ad827 = ad828 := (by injection e828); replace hx828_0 := (HB.out.cell (World.block_lt_of_cell? w _ hx828_0)).trans hx828_0; replace p828 := eq_true p828; replace q828 := eq_true q828))
     repeat (go_quiet (first | ((with_reducible refine gate_dst (N := 4) rfl ?_); refine box_event ?hg (N := 4) ?hd (cs := #[.slice A0_0 l0_0.length c0_0, .slice A0_1 l0_1.length c0_1]) (t := 28) ?hr ?_; (case hd => rfl); (case hg => rfl); (case hr => first | (go_simp; done) | (go_simp; rfl)); intro gb826 hg w9 hbox hb; have n0_ := Aside0.mk (below_step (by repeat (first | (with_reducible first | exact HB.out | apply below_alloc | apply pw_below_drewN | apply below_drew1) | exact HB.out)) hb); have n1_ := Aside0.mk (hbox); have n2_ := Aside0.mk ((by rw [hg]; exact (below_size (by repeat (first | (with_reducible first | exact HB.out | apply below_alloc | apply pw_below_drewN | apply below_drew1) | exact HB.out))) : w.heap.size ≤ gb826)); have n3_ := Aside0.mk ((by rw [hg]; exact (below_size (by repeat (first | (with_reducible first | exact HB.out | apply below_alloc | apply pw_below_drewN | apply below_drew1) | exact HB.out))) : w.heap.size ≤ gb826)); clear HB; have HB := n0_; have BK826 := n1_; have GW826 := n2_; have GE826 := n3_; clear n0_ n1_ n2_ n3_; clear hb hbox hg; have p827 : 0 ≤ (a2 : Int) := of_decide_eq_true (by first | (with_reducible assumption) | assumption); have q827 : a2 < (l1.length : Int) := of_decide_eq_true (by first | (with_reducible assumption) | assumption); obtain ⟨ad827, e827, hx827_0⟩ := Kd.at_int HR1.out a2 p827 q827; cases e827; replace hx827_0 := (HB.out.cell (World.block_lt_of_cell? w _ hx827_0)).trans hx827_0; replace p827 := eq_true p827; replace q827 := eq_true q827; have p828 : 0 ≤ (a3 : Int) := of_decide_eq_true (by first | (with_reducible assumption) | assumption); have q828 : a3 < (l1.length : Int) := of_decide_eq_true (by first | (with_reducible assumption) | assumption); obtain ⟨ad828, e828, hx828_0⟩ := Kd.at_int HR1.out a3 p828 q828; obtain rfl : ad827 = ad828 := (by injection e828); replace hx828_0 := (HB.out.cell (World.block_lt_of_cell? w _ hx828_0)).trans hx828_0; replace p828 := eq_true p828; replace q828 := eq_true q828)); try go_wp2_with (first | ((with_reducible refine gate_dst (N := 4) rfl ?_); refine box_event ?hg (N := 4) ?hd (cs := #[.slice A0_0 l0_0.length c0_0, .slice A0_1 l0_1.length c0_1]) (t := 28) ?hr ?_; (case hd => rfl); (case hg => rfl); (case hr => first | (go_simp; done) | (go_simp; rfl)); intro gb826 hg w9 hbox hb; have n0_ := Aside0.mk (below_step (by repeat (first | (with_reducible first | exact HB.out | apply below_alloc | apply pw_below_drewN | apply below_drew1) | exact HB.out)) hb); have n1_ := Aside0.mk (hbox); have n2_ := Aside0.mk ((by rw [hg]; exact (below_size (by repeat (first | (with_reducible first | exact HB.out | apply below_alloc | apply pw_below_drewN | apply below_drew1) | exact HB.out))) : w.heap.size ≤ gb826)); have n3_ := Aside0.mk ((by rw [hg]; exact (below_size (by repeat (first | (with_reducible first | exact HB.out | apply below_alloc | apply pw_below_drewN | apply below_drew1) | exact HB.out))) : w.heap.size ≤ gb826)); clear HB; have HB := n0_; have BK826 := n1_; have GW826 := n2_; have GE826 := n3_; clear n0_ n1_ n2_ n3_; clear hb hbox hg; have p827 : 0 ≤ (a2 : Int) := of_decide_eq_true (by first | (with_reducible assumption) | assumption); have q827 : a2 < (l1.length : Int) := of_decide_eq_true (by first | (with_reducible assumption) | assumption); obtain ⟨ad827, e827, hx827_0⟩ := Kd.at_int HR1.out a2 p827 q827; cases e827; replace hx827_0 := (HB.out.cell (World.block_lt_of_cell? w _ hx827_0)).trans hx827_0; replace p827 := eq_true p827; replace q827 := eq_true q827; have p828 : 0 ≤ (a3 : Int) := of_decide_eq_true (by first | (with_reducible assumption) | assumption); have q828 : a3 < (l1.length : Int) := of_decide_eq_true (by first | (with_reducible assumption) | assumption); obtain ⟨ad828, e828, hx828_0⟩ := Kd.at_int HR1.out a3 p828 q828; obtain rfl : ad827 = ad828 := (by injection e828); replace hx828_0 := (HB.out.cell (World.block_lt_of_cell? w _ hx828_0)).trans hx828_0; replace p828 := eq_true p828; replace q828 := eq_true q828)))
     go_loopg [9, 10] k (fun kq v9 v10 w' => ∃ (x9_1 : Bool) (x10_1 : Int), v9 = .bool x9_1 ∧ v10 = .int .i64 x10_1 ∧ Aside0 (spec_l5Same.l0 kq l1 a2 a3 x9_1 x10_1 l0_0 l0_1 = some r) ∧ Aside0 (kq ≤ k) ∧ Aside0 (w'.heap[gb826]? = some (.cells #[(.slice A0_0 l0_0.length c0_0), (.slice A0_1 l0_1.length c0_1)] 28 (0, 0))) ∧ Aside0 (Below w.heap.size w w'))
     case atStart => exact ⟨(((rd l1 a2) == (rd l1 a3))), (0), (by first | rfl | (simp; done) | (simp [*]; done)), (by first | rfl | (simp; done) | (simp [*]; done)), H', ⟨Nat.le_refl _⟩, ⟨by (with_reducible repeat (first | refine blk_drewN ?_ _ | refine blk_drew ?_ | refine blk_alloc ?_ _)); exact BK826.out⟩, ⟨by repeat (first | (with_reducible first | exact HB.out | apply below_alloc | apply pw_below_drewN | apply below_drew1 | refine below_set ?_ GE826.out) | exact HB.out)⟩⟩
     case round =>
      clear H'
      try clear c1
      try clear p2
      try clear c5
      try clear c5b0
      try clear c6
      try clear c6b0
      try clear c7
      try clear c7b0
      try clear c8
      try clear c8b0
      try clear p8
      try clear q8
      try clear hx8
      try clear hx827_0
      try clear hx828_0
      try clear p827
      try clear p828
      try clear q827
      try clear q828
      obtain ⟨x9_1, x10_1, rfl, rfl, HA, HK1, BK826, HB⟩ := hrel
      cases gk with
      | zero => exact absurd HA.out (by simp [spec_l5Same.l0])
      | succ k1 =>
       have H := HA.out
       clear HA
       simp only [spec_l5Same.l0] at H
       by_cases c10 : x10_1 < 3
       ·rw [if_pos c10] at H
        have c10b0 : decide (x10_1 < 3) = true := decide_eq_true c10
        clear c10
        by_cases c11 : x9_1 = true
        ·subst c11
         have H1 : (if 0 ≤ a2 then (if a2 < (l0_1.length : Int) then (if 0 ≤ x10_1 then (if x10_1 < ((rd_L2 l0_1 a2).length : Int) then (if 0 ≤ (rd (rd_L2 l0_1 a2) x10_1) then (if (rd (rd_L2 l0_1 a2) x10_1) < (l1.length : Int) then (if 0 ≤ a3 then (if a3 < (l0_1.length : Int) then (if x10_1 < ((rd_L2 l0_1 a3).length : Int) then (if 0 ≤ (rd (rd_L2 l0_1 a3) x10_1) then (if (rd (rd_L2 l0_1 a3) x10_1) < (l1.length : Int) then (spec_l5Same.l0 k1 l1 a2 a3 ((rd l1 (rd (rd_L2 l0_1 a2) x10_1)) == (rd l1 (rd (rd_L2 l0_1 a3) x10_1))) (wrap64 (x10_1 + 1)) l0_0 l0_1) else (none)) else (none)) else (none)) else (none)) else (none)) else (none)) else (none)) else (none)) else (none)) else (none)) else (none)) = some r := by rw [if_pos rfl] at H; exact H
         clear H
         have H := H1
         clear H1
         by_cases c12 : 0 ≤ a2
         ·rw [if_pos c12] at H
          have c12b0 : decide (0 ≤ a2) = true := decide_eq_true c12
          clear c12
          by_cases c13 : a2 < (l0_1.length : Int)
          ·rw [if_pos c13] at H
           have c13b0 : decide (a2 < (l0_1.length : Int)) = true := decide_eq_true c13
           clear c13
           by_cases c14 : 0 ≤ x10_1
           ·rw [if_pos c14] at H
            have c14b0 : decide (0 ≤ x10_1) = true := decide_eq_true c14
            clear c14
            by_cases c15 : x10_1 < ((rd_L2 l0_1 a2).length : Int)
            ·rw [if_pos c15] at H
             have c15b0 : decide (x10_1 < ((rd_L2 l0_1 a2).length : Int)) = true := decide_eq_true c15
             clear c15
             by_cases c16 : 0 ≤ (rd (rd_L2 l0_1 a2) x10_1)
             ·rw [if_pos c16] at H
              have c16b0 : decide (0 ≤ (rd (rd_L2 l0_1 a2) x10_1)) = true := decide_eq_true c16
              clear c16
              by_cases c17 : (rd (rd_L2 l0_1 a2) x10_1) < (l1.length : Int)
              ·rw [if_pos c17] at H
               have c17b0 : decide ((rd (rd_L2 l0_1 a2) x10_1) < (l1.length : Int)) = true := decide_eq_true c17
               clear c17
               by_cases c18 : 0 ≤ a3
               ·rw [if_pos c18] at H
                have c18b0 : decide (0 ≤ a3) = true := decide_eq_true c18
                clear c18
                by_cases c19 : a3 < (l0_1.length : Int)
                ·rw [if_pos c19] at H
                 have c19b0 : decide (a3 < (l0_1.length : Int)) = true := decide_eq_true c19
                 clear c19
                 by_cases c20 : x10_1 < ((rd_L2 l0_1 a3).length : Int)
                 ·rw [if_pos c20] at H
                  have c20b0 : decide (x10_1 < ((rd_L2 l0_1 a3).length : Int)) = true := decide_eq_true c20
                  clear c20
                  by_cases c21 : 0 ≤ (rd (rd_L2 l0_1 a3) x10_1)
                  ·rw [if_pos c21] at H
                   have c21b0 : decide (0 ≤ (rd (rd_L2 l0_1 a3) x10_1)) = true := decide_eq_true c21
                   clear c21
                   by_cases c22 : (rd (rd_L2 l0_1 a3) x10_1) < (l1.length : Int)
                   ·rw [if_pos c22] at H
                    have c22b0 : decide ((rd (rd_L2 l0_1 a3) x10_1) < (l1.length : Int)) = true := decide_eq_true c22
                    clear c22
                    have H' := Aside0.mk H
                    clear H
                    have hcz23_0 : wr.cell? ⟨gb826, 0, none⟩ = some (.slice A0_0 l0_0.length c0_0) := (blk_cell BK826.out 0).trans rfl
                    have hcz23_1 : wr.cell? ⟨gb826, 1, none⟩ = some (.slice A0_1 l0_1.length c0_1) := (blk_cell BK826.out 1).trans rfl
                    have hfz23_0 := blk_frozen BK826.out 0
                    have hfz23_1 := blk_frozen BK826.out 1
                    have p829 : 0 ≤ (a2 : Int) := of_decide_eq_true (by first | (with_reducible assumption) | assumption)
                    have q829 : a2 < (l0_1.length : Int) := of_decide_eq_true (by first | (with_reducible assumption) | assumption)
                    obtain ⟨ad829, A829_0, c829_0, e829, hx829_0, hl829_0, hi829_0⟩ := at_L2 HR0_1.out a2 p829 q829
                    cases e829
                    replace hx829_0 := (HB.out.cell (World.block_lt_of_cell? w _ hx829_0)).trans hx829_0
                    have HR829_0 := Aside0.mk hi829_0
                    have HC829_0 := Aside0.mk hl829_0
                    clear hi829_0 hl829_0
                    replace p829 := eq_true p829
                    replace q829 := eq_true q829
                    have p830 : 0 ≤ (x10_1 : Int) := of_decide_eq_true (by first | (with_reducible assumption) | assumption)
                    have q830 : x10_1 < ((rd_L2 l0_1 a2).length : Int) := of_decide_eq_true (by first | (with_reducible assumption) | assumption)
                    obtain ⟨ad830, e830, hx830_0⟩ := Kd.at_int HR829_0.out x10_1 p830 q830
                    cases e830
                    replace hx830_0 := (HB.out.cell (World.block_lt_of_cell? w _ hx830_0)).trans hx830_0
                    replace p830 := eq_true p830
                    replace q830 := eq_true q830
                    have p831 : 0 ≤ ((rd (rd_L2 l0_1 a2) x10_1) : Int) := of_decide_eq_true (by first | (with_reducible assumption) | assumption)
                    have q831 : (rd (rd_L2 l0_1 a2) x10_1) < (l1.length : Int) := of_decide_eq_true (by first | (with_reducible assumption) | assumption)
                    obtain ⟨ad831, e831, hx831_0⟩ := Kd.at_int HR1.out (rd (rd_L2 l0_1 a2) x10_1) p831 q831
                    obtain rfl : ad827 = ad831 := (by injection e831)
                    replace hx831_0 := (HB.out.cell (World.block_lt_of_cell? w _ hx831_0)).trans hx831_0
                    replace p831 := eq_true p831
                    replace q831 := eq_true q831
                    have p832 : 0 ≤ (a3 : Int) := of_decide_eq_true (by first | (with_reducible assumption) | assumption)
                    have q832 : a3 < (l0_1.length : Int) := of_decide_eq_true (by first | (with_reducible assumption) | assumption)
                    obtain ⟨ad832, A832_0, c832_0, e832, hx832_0, hl832_0, hi832_0⟩ := at_L2 HR0_1.out a3 p832 q832
                    obtain rfl : ad829 = ad832 := (by injection e832)
                    replace hx832_0 := (HB.out.cell (World.block_lt_of_cell? w _ hx832_0)).trans hx832_0
                    have HR832_0 := Aside0.mk hi832_0
                    have HC832_0 := Aside0.mk hl832_0
                    clear hi832_0 hl832_0
                    replace p832 := eq_true p832
                    replace q832 := eq_true q832
                    have p833 : 0 ≤ (x10_1 : Int) := of_decide_eq_true (by first | (with_reducible assumption) | assumption)
                    have q833 : x10_1 < ((rd_L2 l0_1 a3).length : Int) := of_decide_eq_true (by first | (with_reducible assumption) | assumption)
                    obtain ⟨ad833, e833, hx833_0⟩ := Kd.at_int HR832_0.out x10_1 p833 q833
                    cases e833
                    replace hx833_0 := (HB.out.cell (World.block_lt_of_cell? w _ hx833_0)).trans hx833_0
                    replace p833 := eq_true p833
                    replace q833 := eq_true q833
                    have p834 : 0 ≤ ((rd (rd_L2 l0_1 a3) x10_1) : Int) := of_decide_eq_true (by first | (with_reducible assumption) | assumption)
                    have q834 : (rd (rd_L2 l0_1 a3) x10_1) < (l1.length : Int) := of_decide_eq_true (by first | (with_reducible assumption) | assumption)
                    obtain ⟨ad834, e834, hx834_0⟩ := Kd.at_int HR1.out (rd (rd_L2 l0_1 a3) x10_1) p834 q834
                    obtain rfl : ad827 = ad834 := (by injection e834)
                    replace hx834_0 := (HB.out.cell (World.block_lt_of_cell? w _ hx834_0)).trans hx834_0
                    replace p834 := eq_true p834
                    replace q834 := eq_true q834
                    go_wp2
                    repeat (go_quiet (fail); try go_wp2)
                    go_roundg k1
                    case measure => have := HK1.out; omega
                    case rel => exact ⟨(((rd l1 (rd (rd_L2 l0_1 a2) x10_1)) == (rd l1 (rd (rd_L2 l0_1 a3) x10_1)))), (wrap64 (x10_1 + 1)), (by first | rfl | (simp; done) | (simp [*]; done)), (by first | rfl | (simp; done) | (simp [*]; done)), H', ⟨by have := HK1.out; omega⟩, ⟨by (with_reducible repeat (first | refine blk_drewN ?_ _ | refine blk_drew ?_ | refine blk_alloc ?_ _)); exact BK826.out⟩, ⟨by repeat (first | (with_reducible first | exact HB.out | apply below_alloc | apply pw_below_drewN | apply below_drew1 | refine below_set ?_ GE826.out) | exact HB.out)⟩⟩
                   ·rw [if_neg c22] at H
                    exact absurd H (by simp)
                  ·rw [if_neg c21] at H
                   exact absurd H (by simp)
                 ·rw [if_neg c20] at H
                  exact absurd H (by simp)
                ·rw [if_neg c19] at H
                 exact absurd H (by simp)
               ·rw [if_neg c18] at H
                exact absurd H (by simp)
              ·rw [if_neg c17] at H
               exact absurd H (by simp)
             ·rw [if_neg c16] at H
              exact absurd H (by simp)
            ·rw [if_neg c15] at H
             exact absurd H (by simp)
           ·rw [if_neg c14] at H
            exact absurd H (by simp)
          ·rw [if_neg c13] at H
           exact absurd H (by simp)
         ·rw [if_neg c12] at H
          exact absurd H (by simp)
        ·replace c11 := Bool.eq_false_iff.mpr c11
         subst c11
         have H1 : (spec_l5Same.l0 k1 l1 a2 a3 false (wrap64 (x10_1 + 1)) l0_0 l0_1) = some r := by rw [if_neg (show ¬ (false = true) by decide)] at H; exact H
         clear H
         have H := H1
         clear H1
         have H' := Aside0.mk H
         clear H
         go_wp2
         repeat (go_quiet (fail); try go_wp2)
         go_roundg k1
         case measure => have := HK1.out; omega
         case rel => exact ⟨(false), (wrap64 (x10_1 + 1)), (by first | rfl | (simp; done) | (simp [*]; done)), (by first | rfl | (simp; done) | (simp [*]; done)), H', ⟨by have := HK1.out; omega⟩, ⟨by (with_reducible repeat (first | refine blk_drewN ?_ _ | refine blk_drew ?_ | refine blk_alloc ?_ _)); exact BK826.out⟩, ⟨by repeat (first | (with_reducible first | exact HB.out | apply below_alloc | apply pw_below_drewN | apply below_drew1 | refine below_set ?_ GE826.out) | exact HB.out)⟩⟩
       ·rw [if_neg c10] at H
        have c10b0 : decide (x10_1 < 3) = false := decide_eq_false c10
        clear c10
        obtain rfl := Option.some.inj H
        simp only [Option.some.injEq, Prod.mk.injEq] at H
        obtain ⟨rfl⟩ := H
        go_wp2
        repeat (go_quiet (fail); try go_wp2)
        go_ret
        exact ⟨by first | rfl | (simp [errW_none, errW_some] <;> rfl) | (simp [*, errW_none, errW_some] <;> rfl), by repeat (first | (with_reducible first | exact HB.out | apply below_alloc | apply pw_below_drewN | apply below_drew1 | refine below_set ?_ GE826.out) | exact HB.out)⟩
    ·rw [if_neg c8] at H
     exact absurd H (by simp)
   ·rw [if_neg c7] at H
    exact absurd H (by simp)
  ·rw [if_neg c6] at H
   exact absurd H (by simp)
 ·rw [if_neg c5] at H
  exact absurd H (by simp)
end Go.Proofs.Ytoknogcefajfiaa.P
end
section
namespace Go.Proofs.Ytoknogcefajfiaa.P
open Go.RowKit Go.Proofs.YtoknogcefajfiaaW.PrintWords Go.Proofs.YtoknogcefajfiaaW.PrintLast Go.Proofs.YtoknogcefajfiaaW.PrintMore
attribute [local go_sem] max2_int min2_int max_two min_two max_three min_three max_four min_four
set_option linter.unusedVariables false
set_option linter.unusedSimpArgs false
mutual
def spec_l5Classes.l0 : Nat → Int → List Int → Int → List Bool → List (List Int) → Option (List Int)
  | 0, _, _, _, _, _ => none
  | k + 1, x3, x4, x5, x836000, x836001 => if x5 < x3 then (if 0 ≤ x5 then (if x5 < (x836000.length : Int) then (if rdOf false x836000 x5 = true then (if x5 < (x4.length : Int) then (spec_l5Classes.l0 k x3 (x4.set (x5 : Int).toNat 1) (wrap64 (x5 + 1)) x836000 x836001) else (none)) else (spec_l5Classes.l0 k x3 x4 (wrap64 (x5 + 1)) x836000 x836001)) else (none)) else (none)) else (spec_l5Classes.l1 k x3 x4 0 x836000 x836001)
def spec_l5Classes.l1 : Nat → Int → List Int → Int → List Bool → List (List Int) → Option (List Int)
  | 0, _, _, _, _, _ => none
  | k + 1, x3, x4, x6, x836000, x836001 => if x6 ≤ x3 then (if 0 ≤ x3 then (if (x3 : Int).toNat ≤ 35184372088832 then (spec_l5Classes.l2 k x3 x4 x6 (List.replicate (x3 : Int).toNat 0) 0 x836000 x836001) else (none)) else (none)) else (some x4)
def spec_l5Classes.l2 : Nat → Int → List Int → Int → List Int → Int → List Bool → List (List Int) → Option (List Int)
  | 0, _, _, _, _, _, _, _ => none
  | k + 1, x3, x4, x6, x7, x8, x836000, x836001 => if x8 < x3 then (if 0 ≤ x8 then (if x8 < (x7.length : Int) then (spec_l5Classes.l3 k x3 x4 x6 (x7.set (x8 : Int).toNat x8) x8 0 x836000 x836001) else (none)) else (none)) else (spec_l5Classes.l1 k x3 x7 (wrap64 (x6 + 1)) x836000 x836001)
def spec_l5Classes.l3 : Nat → Int → List Int → Int → List Int → Int → Int → List Bool → List (List Int) → Option (List Int)
  | 0, _, _, _, _, _, _, _, _ => none
  | k + 1, x3, x4, x6, x7, x8, x9, x836000, x836001 => if x9 < x8 then ((spec_l5Same.f k x836000 x836001 x4 x9 x8).bind fun t845 => (if t845 = true then (if 0 ≤ x8 then (if x8 < (x7.length : Int) then (spec_l5Classes.l2 k x3 x4 x6 (x7.set (x8 : Int).toNat x9) (wrap64 (x8 + 1)) x836000 x836001) else (none)) else (none)) else (spec_l5Classes.l3 k x3 x4 x6 x7 x8 (wrap64 (x9 + 1)) x836000 x836001))) else (spec_l5Classes.l2 k x3 x4 x6 x7 (wrap64 (x8 + 1)) x836000 x836001)
end
def spec_l5Classes.f (k : Nat) (l0_0 : List Bool) (l0_1 : List (List Int)) : Option (List Int) := if 0 ≤ (l0_0.length : Int) then (if ((l0_0.length : Int) : Int).toNat ≤ 35184372088832 then (spec_l5Classes.l0 k (l0_0.length : Int) (List.replicate ((l0_0.length : Int) : Int).toNat 0) 0 l0_0 l0_1) else (none)) else (none)
theorem spec_l5Classes.mono_l : ∀ k, (∀ y0 y1 y2 y3 y4, LeO (spec_l5Classes.l0 k y0 y1 y2 y3 y4) (spec_l5Classes.l0 (k + 1) y0 y1 y2 y3 y4)) ∧ (∀ y0 y1 y2 y3 y4, LeO (spec_l5Classes.l1 k y0 y1 y2 y3 y4) (spec_l5Classes.l1 (k + 1) y0 y1 y2 y3 y4)) ∧ (∀ y0 y1 y2 y3 y4 y5 y6, LeO (spec_l5Classes.l2 k y0 y1 y2 y3 y4 y5 y6) (spec_l5Classes.l2 (k + 1) y0 y1 y2 y3 y4 y5 y6)) ∧ (∀ y0 y1 y2 y3 y4 y5 y6 y7, LeO (spec_l5Classes.l3 k y0 y1 y2 y3 y4 y5 y6 y7) (spec_l5Classes.l3 (k + 1) y0 y1 y2 y3 y4 y5 y6 y7))
 | 0 => ⟨fun _ _ _ _ _ r h => by simp [spec_l5Classes.l0] at h, fun _ _ _ _ _ r h => by simp [spec_l5Classes.l1] at h, fun _ _ _ _ _ _ _ r h => by simp [spec_l5Classes.l2] at h, fun _ _ _ _ _ _ _ _ r h => by simp [spec_l5Classes.l3] at h⟩
 | k + 1 => by
  obtain ⟨ih0, ih1, ih2, ih3⟩ := spec_l5Classes.mono_l k
  refine ⟨?_, ?_, ?_, ?_⟩
  ·intro y0 y1 y2 y3 y4
   unfold spec_l5Classes.l0
   repeat' first
   | (with_reducible exact ih0 _ _ _ _ _)
   | (with_reducible exact ih1 _ _ _ _ _)
   | (with_reducible exact ih2 _ _ _ _ _ _ _)
   | (with_reducible exact ih3 _ _ _ _ _ _ _ _)
   | (with_reducible exact spec_l5Same.mono _ _ _ _ _ _)
   | (with_reducible exact LeO.refl _)
   | (with_reducible exact LeO.none _)
   | (with_reducible refine LeO.ite ?_ ?_)
   | (with_reducible refine LeO.bind ?_ (fun _ => ?_))
   | exact ih0 _ _ _ _ _
   | exact ih1 _ _ _ _ _
   | exact ih2 _ _ _ _ _ _ _
   | exact ih3 _ _ _ _ _ _ _ _
   | exact spec_l5Same.mono _ _ _ _ _ _
   | exact LeO.none _
   | refine LeO.ite ?_ ?_
   | refine LeO.bind ?_ (fun _ => ?_)
  ·intro y0 y1 y2 y3 y4
   unfold spec_l5Classes.l1
   repeat' first
   | (with_reducible exact ih0 _ _ _ _ _)
   | (with_reducible exact ih1 _ _ _ _ _)
   | (with_reducible exact ih2 _ _ _ _ _ _ _)
   | (with_reducible exact ih3 _ _ _ _ _ _ _ _)
   | (with_reducible exact spec_l5Same.mono _ _ _ _ _ _)
   | (with_reducible exact LeO.refl _)
   | (with_reducible exact LeO.none _)
   | (with_reducible refine LeO.ite ?_ ?_)
   | (with_reducible refine LeO.bind ?_ (fun _ => ?_))
   | exact ih0 _ _ _ _ _
   | exact ih1 _ _ _ _ _
   | exact ih2 _ _ _ _ _ _ _
   | exact ih3 _ _ _ _ _ _ _ _
   | exact spec_l5Same.mono _ _ _ _ _ _
   | exact LeO.none _
   | refine LeO.ite ?_ ?_
   | refine LeO.bind ?_ (fun _ => ?_)
  ·intro y0 y1 y2 y3 y4 y5 y6
   unfold spec_l5Classes.l2
   repeat' first
   | (with_reducible exact ih0 _ _ _ _ _)
   | (with_reducible exact ih1 _ _ _ _ _)
   | (with_reducible exact ih2 _ _ _ _ _ _ _)
   | (with_reducible exact ih3 _ _ _ _ _ _ _ _)
   | (with_reducible exact spec_l5Same.mono _ _ _ _ _ _)
   | (with_reducible exact LeO.refl _)
   | (with_reducible exact LeO.none _)
   | (with_reducible refine LeO.ite ?_ ?_)
   | (with_reducible refine LeO.bind ?_ (fun _ => ?_))
   | exact ih0 _ _ _ _ _
   | exact ih1 _ _ _ _ _
   | exact ih2 _ _ _ _ _ _ _
   | exact ih3 _ _ _ _ _ _ _ _
   | exact spec_l5Same.mono _ _ _ _ _ _
   | exact LeO.none _
   | refine LeO.ite ?_ ?_
   | refine LeO.bind ?_ (fun _ => ?_)
  ·intro y0 y1 y2 y3 y4 y5 y6 y7
   unfold spec_l5Classes.l3
   repeat' first
   | (with_reducible exact ih0 _ _ _ _ _)
   | (with_reducible exact ih1 _ _ _ _ _)
   | (with_reducible exact ih2 _ _ _ _ _ _ _)
   | (with_reducible exact ih3 _ _ _ _ _ _ _ _)
   | (with_reducible exact spec_l5Same.mono _ _ _ _ _ _)
   | (with_reducible exact LeO.refl _)
   | (with_reducible exact LeO.none _)
   | (with_reducible refine LeO.ite ?_ ?_)
   | (with_reducible refine LeO.bind ?_ (fun _ => ?_))
   | exact ih0 _ _ _ _ _
   | exact ih1 _ _ _ _ _
   | exact ih2 _ _ _ _ _ _ _
   | exact ih3 _ _ _ _ _ _ _ _
   | exact spec_l5Same.mono _ _ _ _ _ _
   | exact LeO.none _
   | refine LeO.ite ?_ ?_
   | refine LeO.bind ?_ (fun _ => ?_)
theorem spec_l5Classes.mono : ∀ a0 a1 k, LeO (spec_l5Classes.f k a0 a1) (spec_l5Classes.f (k + 1) a0 a1) := by
 intro a0 a1 k
 obtain ⟨ih0, ih1, ih2, ih3⟩ := spec_l5Classes.mono_l k
 unfold spec_l5Classes.f
 repeat' first
   | (with_reducible exact ih0 _ _ _ _ _)
   | (with_reducible exact ih1 _ _ _ _ _)
   | (with_reducible exact ih2 _ _ _ _ _ _ _)
   | (with_reducible exact ih3 _ _ _ _ _ _ _ _)
   | (with_reducible exact spec_l5Same.mono _ _ _ _ _ _)
   | (with_reducible exact LeO.refl _)
   | (with_reducible exact LeO.none _)
   | (with_reducible refine LeO.ite ?_ ?_)
   | (with_reducible refine LeO.bind ?_ (fun _ => ?_))
   | exact ih0 _ _ _ _ _
   | exact ih1 _ _ _ _ _
   | exact ih2 _ _ _ _ _ _ _
   | exact ih3 _ _ _ _ _ _ _ _
   | exact spec_l5Same.mono _ _ _ _ _ _
   | exact LeO.none _
   | refine LeO.ite ?_ ?_
   | refine LeO.bind ?_ (fun _ => ?_)
set_option maxHeartbeats 8000000 in
set_option maxRecDepth 100000 in
theorem spec_l5Classes.calls (k : Nat) (A0_0 : Option Addr) (c0_0 : Nat) (l0_0 : List Bool) (A0_1 : Option Addr) (c0_1 : Nat) (l0_1 : List (List Int)) (r : List Int) (w : World) (hr0_0 : Kd.C Kd.bool w A0_0 l0_0.length l0_0) (hc0_0 : l0_0.length ≤ c0_0) (hr0_1 : Kd.C (Kd.slice 3 (Kd.int .i64)) w A0_1 l0_1.length l0_1) (hc0_1 : l0_1.length ≤ c0_1) (h : spec_l5Classes.f k l0_0 l0_1 = some r) :
  Calls Try.prog 109 #[.agg #[.slice A0_0 l0_0.length c0_0, .slice A0_1 l0_1.length c0_1]] w fun e w' => ∃ v0_ : Value, e = .returned (v0_) ∧ Kd.R (Kd.int .i64) 3 w' w.heap.size (fun _ => True) v0_ r ∧ Below w.heap.size w w' := by
 have hu28 := Try.underlying28
 have HR0_0 := Aside0.mk hr0_0
 have HC0_0 := Aside0.mk hc0_0
 clear hr0_0 hc0_0
 have HR0_1 := Aside0.mk hr0_1
 have HC0_1 := Aside0.mk hc0_1
 clear hr0_1 hc0_1
 have HB := Aside0.mk (Below.refl w.heap.size w)
 have H : (if 0 ≤ (l0_0.length : Int) then (if ((l0_0.length : Int) : Int).toNat ≤ 35184372088832 then (spec_l5Classes.l0 k (l0_0.length : Int) (List.replicate ((l0_0.length : Int) : Int).toNat 0) 0 l0_0 l0_1) else (none)) else (none)) = some r := h
 clear h
 by_cases c2 : 0 ≤ (l0_0.length : Int)
 ·rw [if_pos c2] at H
  have c2b0 := eq_true c2
  have c2b1 : decide (0 ≤ (l0_0.length : Int)) = true := decide_eq_true c2
  clear c2
  by_cases c3 : ((l0_0.length : Int) : Int).toNat ≤ 35184372088832
  ·rw [if_pos c3] at H
   have c3b0 := eq_true c3
   have c3b1 : decide (((l0_0.length : Int) : Int).toNat ≤ 35184372088832) = true := decide_eq_true c3
   clear c3
   obtain ⟨y836, hy836⟩ : ∃ y_ : List Int, y_ = (List.replicate ((l0_0.length : Int) : Int).toNat 0) := ⟨_, rfl⟩
   replace H : (spec_l5Classes.l0 k (l0_0.length : Int) y836 0 l0_0 l0_1) = some r := by first | (rw [hy836]; with_reducible exact H) | (have H2_ := (Option.bind_some _ _).symm.trans H; rw [hy836]; with_reducible exact H2_) | (have H2_ := (Option.bind_some _ _).symm.trans H; with_reducible exact H2_) | with_reducible exact H | (rw [hy836]; exact H) | exact H
   have Ny836 := Aside0.mk hy836
   clear hy836
   have H' := Aside0.mk H
   clear H
   go_enter Try.func109, Try.ntmps109
   go_wp2_with (first | ((with_reducible refine gate_dst (N := 1) rfl ?_); refine box_event ?hg (N := 1) ?hd (cs := #[.slice A0_0 l0_0.length c0_0, .slice A0_1 l0_1.length c0_1]) (t := 28) ?hr ?_; (case hd => rfl); (case hg => rfl); (case hr => first | (go_simp; done) | (go_simp; rfl)); intro gb835 hg w4 hbox hb; have n0_ := Aside0.mk (below_step (by repeat (first | (with_reducible first | exact HB.out | apply below_alloc | apply pw_below_drewN | apply below_drew1) | exact HB.out)) hb); have n1_ := Aside0.mk (hbox); have n2_ := Aside0.mk ((by rw [hg]; exact (below_size (by repeat (first | (with_reducible first | exact HB.out | apply below_alloc | apply pw_below_drewN | apply below_drew1) | exact HB.out))) : w.heap.size ≤ gb835)); have n3_ := Aside0.mk ((by rw [hg]; exact (below_size (by repeat (first | (with_reducible first | exact HB.out | apply below_alloc | apply pw_below_drewN | apply below_drew1) | exact HB.out))) : w.heap.size ≤ gb835)); clear HB; have HB := n0_; have BK835 := n1_; have GW835 := n2_; have GE835 := n3_; clear n0_ n1_ n2_ n3_; clear hb hbox hg; have hcz5_0 : w4.cell? ⟨gb835, 0, none⟩ = some (.slice A0_0 l0_0.length c0_0) := (blk_cell BK835.out 0).trans rfl; have hcz5_1 : w4.cell? ⟨gb835, 1, none⟩ = some (.slice A0_1 l0_1.length c0_1) := (blk_cell BK835.out 1).trans rfl; have hfz5_0 := blk_frozen BK835.out 0; have hfz5_1 := blk_frozen BK835.out 1) | ((with_reducible refine gate_dst (N := 14) rfl ?_); refine Kd.R_make (Kd.int .i64) _ 3 rfl (N := 14) rfl 54 _ _ rfl (l0_0.length : Int) rfl rfl Try.underlying54 (.int .i64 0) 8 info3 rfl (by decide) (by omega) 0 (ok := fun _ => True) (okp := fun _ => True) rfl (fun _ hk => hk) trivial (of_decide_eq_true (by first | (with_reducible assumption) | assumption)) (Nat.le_trans (Nat.mul_le_mul_right _ (of_decide_eq_true (by first | (with_reducible assumption) | assumption) : (l0_0.length : Int).toNat ≤ 35184372088832)) (by omega)) (Below.refl _ _) (Nat.le_refl _) ?_; intro v837 w6 ho7 hb hg_ hnew_; clear hg_ hnew_; (first | rw [← Ny836.out] at ho7 | (simp only [Int.reduceToNat] at ho7; rw [← Ny836.out] at ho7)); have n0_ := Aside0.mk (Kd.R_lower ho7 (below_size (by repeat (first | (with_reducible first | exact HB.out | apply below_alloc | apply pw_below_drewN | apply below_drew1 | refine below_set ?_ GE835.out) | exact HB.out)))); have n1_ := Aside0.mk (blk_below (g := gb835) (o := .cells #[.slice A0_0 l0_0.length c0_0, .slice A0_1 l0_1.length c0_1] 28 (0, 0)) (by (with_reducible repeat (first | refine blk_drewN ?_ _ | refine blk_drew ?_ | refine blk_alloc ?_ _)); exact BK835.out) hb); have n2_ := Aside0.mk (below_step (by repeat (first | (with_reducible first | exact HB.out | apply below_alloc | apply pw_below_drewN | apply below_drew1 | refine below_set ?_ GE835.out) | exact HB.out)) hb); clear BK835; clear HB; have HO838 := n0_; have BK835 := n1_; have HB := n2_; clear n0_ n1_ n2_; clear hb ho7))
   go_loopg [5] k (fun kq v5 w' => ∃ (x4_1 : List Int) (x5_1 : Int), v5 = .int .i64 x5_1 ∧ Aside0 (spec_l5Classes.l0 kq (l0_0.length : Int) x4_1 x5_1 l0_0 l0_1 = some r) ∧ Aside0 (kq ≤ k) ∧ Aside0 (Kd.R (Kd.int .i64) 3 w' w.heap.size (fun _ => True) v837 x4_1) ∧ Aside0 (w'.heap[gb835]? = some (.cells #[(.slice A0_0 l0_0.length c0_0), (.slice A0_1 l0_1.length c0_1)] 28 (0, 0))) ∧ Aside0 (Below w.heap.size w w'))
   case atStart => exact ⟨(y836), (0), (by first | rfl | (simp; done) | (simp [*]; done)), H', ⟨Nat.le_refl _⟩, ⟨by (with_reducible repeat (first | apply Kd.R_alloc | apply Kd.R_drewN | apply Kd.R_drew)); exact HO838.out⟩, ⟨by (with_reducible repeat (first | refine blk_drewN ?_ _ | refine blk_drew ?_ | refine blk_alloc ?_ _)); exact BK835.out⟩, ⟨by repeat (first | (with_reducible first | exact HB.out | apply below_alloc | apply pw_below_drewN | apply below_drew1 | refine below_set ?_ GE835.out) | exact HB.out)⟩⟩
   case round =>
    clear H'
    try clear c1
    try clear c2
    try clear c2b0
    try clear c2b1
    try clear p2
    try clear c3
    try clear c3b0
    try clear c3b1
    try clear hcz5_0
    try clear hcz5_1
    try clear hfz5_0
    try clear hfz5_1
    obtain ⟨x4_1, x5_1, rfl, HA, HK1, HO_4, BK835, HB⟩ := hrel
    cases gk with
    | zero => exact absurd HA.out (by simp [spec_l5Classes.l0])
    | succ k1 =>
     have H := HA.out
     clear HA
     simp only [spec_l5Classes.l0] at H
     by_cases c8 : x5_1 < (l0_0.length : Int)
     ·rw [if_pos c8] at H
      have c8b0 : decide (x5_1 < (l0_0.length : Int)) = true := decide_eq_true c8
      clear c8
      by_cases c9 : 0 ≤ x5_1
      ·rw [if_pos c9] at H
       have c9b0 : decide (0 ≤ x5_1) = true := decide_eq_true c9
       clear c9
       by_cases c10 : x5_1 < (l0_0.length : Int)
       ·rw [if_pos c10] at H
        have c10b0 : decide (x5_1 < (l0_0.length : Int)) = true := decide_eq_true c10
        clear c10
        obtain ⟨bq11, hbq11⟩ : ∃ b_ : Bool, b_ = (rdOf false l0_0 x5_1) := ⟨_, rfl⟩
        replace H : (if bq11 = true then (if x5_1 < (x4_1.length : Int) then (spec_l5Classes.l0 k1 (l0_0.length : Int) (x4_1.set (x5_1 : Int).toNat 1) (wrap64 (x5_1 + 1)) l0_0 l0_1) else (none)) else (spec_l5Classes.l0 k1 (l0_0.length : Int) x4_1 (wrap64 (x5_1 + 1)) l0_0 l0_1)) = some r := by rw [← hbq11] at H; exact H
        have Nbq11 := Aside0.mk hbq11
        clear hbq11
        by_cases c12 : bq11 = true
        ·subst c12
         have H1 : (if x5_1 < (x4_1.length : Int) then (spec_l5Classes.l0 k1 (l0_0.length : Int) (x4_1.set (x5_1 : Int).toNat 1) (wrap64 (x5_1 + 1)) l0_0 l0_1) else (none)) = some r := by rw [if_pos rfl] at H; exact H
         clear H
         have H := H1
         clear H1
         by_cases c13 : x5_1 < (x4_1.length : Int)
         ·rw [if_pos c13] at H
          have c13b0 : decide (x5_1 < (x4_1.length : Int)) = true := decide_eq_true c13
          clear c13
          obtain ⟨y840, hy840⟩ : ∃ y_ : List Int, y_ = (x4_1.set (x5_1 : Int).toNat 1) := ⟨_, rfl⟩
          replace H : (spec_l5Classes.l0 k1 (l0_0.length : Int) y840 (wrap64 (x5_1 + 1)) l0_0 l0_1) = some r := by first | (rw [hy840]; with_reducible exact H) | (have H2_ := (Option.bind_some _ _).symm.trans H; rw [hy840]; with_reducible exact H2_) | (have H2_ := (Option.bind_some _ _).symm.trans H; with_reducible exact H2_) | with_reducible exact H | (rw [hy840]; exact H) | exact H
          have Ny840 := Aside0.mk hy840
          clear hy840
          have H' := Aside0.mk H
          clear H
          have hcz15_0 : wr.cell? ⟨gb835, 0, none⟩ = some (.slice A0_0 l0_0.length c0_0) := (blk_cell BK835.out 0).trans rfl
          have hcz15_1 : wr.cell? ⟨gb835, 1, none⟩ = some (.slice A0_1 l0_1.length c0_1) := (blk_cell BK835.out 1).trans rfl
          have hfz15_0 := blk_frozen BK835.out 0
          have hfz15_1 := blk_frozen BK835.out 1
          have p839 : 0 ≤ (x5_1 : Int) := of_decide_eq_true (by first | (with_reducible assumption) | assumption)
          have q839 : x5_1 < (l0_0.length : Int) := of_decide_eq_true (by first | (with_reducible assumption) | assumption)
          obtain ⟨ad839, e839, hx839_0⟩ := Kd.at_bool HR0_0.out x5_1 p839 q839
          (try rw [← Nbq11.out] at hx839_0)
          cases e839
          replace hx839_0 := (HB.out.cell (World.block_lt_of_cell? w _ hx839_0)).trans hx839_0
          replace p839 := eq_true p839
          replace q839 := eq_true q839
          have p14 : 0 ≤ (x5_1 : Int) := of_decide_eq_true (by first | (with_reducible assumption) | assumption)
          have q14 : (x5_1 : Int) < ((x4_1.length : Int) : Int) := of_decide_eq_true (by first | (with_reducible assumption) | assumption)
          obtain ⟨go14, co14, eo14, gb14, gl14, cl14, HG14⟩ := Kd.R_form HO_4.out (by omega)
          (first | cases eo14 | (injection eo14 with ea_ en_ ec_; (first | subst ea_ | (injection ea_ with ea_; subst ea_)); subst ec_; clear en_))
          have GB14 := Aside0.mk gb14
          have GG14 := Aside0.mk HG14
          clear gb14 gl14 HG14
          obtain ⟨hx14_0, hf14_0⟩ := Kd.R_celln 0 HO_4.out (x5_1 : Int) p14 q14
          replace p14 := eq_true p14
          replace q14 := eq_true q14
          have HP16 := Kd.R_putg HO_4.out (x5_1 : Int) 1
          go_wp2_with (first | ((with_reducible refine gate_store (t := 3) (p := 27) rfl ?_); refine store_event (t := 3) (p := 27) (v := ?vo_w17) (w1 := (wr.setCell ⟨go14, (x5_1 : Int).toNat, none⟩ (.int .i64 1))) ?hg ?ho ?hn ?hr ?_; (case ho => rfl); (case hg => rfl); (case hn => rfl); (case hr => first | (go_simp; done) | (go_simp; rfl)); intro w17 hw; have hg : wr.grownBy w17 (some go14) := (by rw [hw]; exact HP16.2); have hp_ : Kd.R (Kd.int .i64) 3 w17 w.heap.size (fun _ => True) (.slice (some ⟨go14, 0, none⟩) x4_1.length co14) y840 := (by rw [hw, Ny840.out]; exact HP16.1); clear HP16; have n0_ := Aside0.mk (hp_); have n1_ := Aside0.mk (blk_grown (g := gb835) (o := .cells #[.slice (some ad839) l0_0.length c0_0, .slice A0_1 l0_1.length c0_1] 28 (0, 0)) (by (with_reducible repeat (first | refine blk_drewN ?_ _ | refine blk_drew ?_ | refine blk_alloc ?_ _)); exact BK835.out) hg (Kd.R_ne HO_4.out BK835.out (by decide))); have n2_ := Aside0.mk ((by rw [hw]; exact below_set (HB.out) GB14.out : Below w.heap.size w w17)); clear HO_4; clear BK835; clear HB; have HO_4 := n0_; have BK835 := n1_; have HB := n2_; clear n0_ n1_ n2_; clear hg hw hp_))
          go_roundg k1
          case measure => have := HK1.out; omega
          case rel => exact ⟨(y840), (wrap64 (x5_1 + 1)), (by first | rfl | (simp; done) | (simp [*]; done)), H', ⟨by have := HK1.out; omega⟩, ⟨by (with_reducible repeat (first | apply Kd.R_alloc | apply Kd.R_drewN | apply Kd.R_drew)); exact HO_4.out⟩, ⟨by (with_reducible repeat (first | refine blk_drewN ?_ _ | refine blk_drew ?_ | refine blk_alloc ?_ _)); exact BK835.out⟩, ⟨by repeat (first | (with_reducible first | exact HB.out | apply below_alloc | apply pw_below_drewN | apply below_drew1 | refine below_set ?_ GE835.out) | exact HB.out)⟩⟩
         ·rw [if_neg c13] at H
          exact absurd H (by simp)
        ·replace c12 := Bool.eq_false_iff.mpr c12
         subst c12
         have H1 : (spec_l5Classes.l0 k1 (l0_0.length : Int) x4_1 (wrap64 (x5_1 + 1)) l0_0 l0_1) = some r := by rw [if_neg (show ¬ (false = true) by decide)] at H; exact H
         clear H
         have H := H1
         clear H1
         have H' := Aside0.mk H
         clear H
         have hcz18_0 : wr.cell? ⟨gb835, 0, none⟩ = some (.slice A0_0 l0_0.length c0_0) := (blk_cell BK835.out 0).trans rfl
         have hcz18_1 : wr.cell? ⟨gb835, 1, none⟩ = some (.slice A0_1 l0_1.length c0_1) := (blk_cell BK835.out 1).trans rfl
         have hfz18_0 := blk_frozen BK835.out 0
         have hfz18_1 := blk_frozen BK835.out 1
         have p839 : 0 ≤ (x5_1 : Int) := of_decide_eq_true (by first | (with_reducible assumption) | assumption)
         have q839 : x5_1 < (l0_0.length : Int) := of_decide_eq_true (by first | (with_reducible assumption) | assumption)
         obtain ⟨ad839, e839, hx839_0⟩ := Kd.at_bool HR0_0.out x5_1 p839 q839
         (try rw [← Nbq11.out] at hx839_0)
         cases e839
         replace hx839_0 := (HB.out.cell (World.block_lt_of_cell? w _ hx839_0)).trans hx839_0
         replace p839 := eq_true p839
         replace q839 := eq_true q839
         go_wp2
         go_roundg k1
         case measure => have := HK1.out; omega
         case rel => exact ⟨(x4_1), (wrap64 (x5_1 + 1)), (by first | rfl | (simp; done) | (simp [*]; done)), H', ⟨by have := HK1.out; omega⟩, ⟨by (with_reducible repeat (first | apply Kd.R_alloc | apply Kd.R_drewN | apply Kd.R_drew)); exact HO_4.out⟩, ⟨by (with_reducible repeat (first | refine blk_drewN ?_ _ | refine blk_drew ?_ | refine blk_alloc ?_ _)); exact BK835.out⟩, ⟨by repeat (first | (with_reducible first | exact HB.out | apply below_alloc | apply pw_below_drewN | apply below_drew1 | refine below_set ?_ GE835.out) | exact HB.out)⟩⟩
       ·rw [if_neg c10] at H
        exact absurd H (by simp)
      ·rw [if_neg c9] at H
       exact absurd H (by simp)
     ·rw [if_neg c8] at H
      have c8b0 : decide (x5_1 < (l0_0.length : Int)) = false := decide_eq_false c8
      clear c8
      have H' := Aside0.mk H
      clear H
      go_wp2
      go_loopg [4, 6] k1 (fun kq v4 v6 w' => ∃ (x4_2 : List Int) (x6_2 : Int), v6 = .int .i64 x6_2 ∧ Aside0 (spec_l5Classes.l1 kq (l0_0.length : Int) x4_2 x6_2 l0_0 l0_1 = some r) ∧ Aside0 (kq ≤ k1) ∧ Aside0 (Kd.R (Kd.int .i64) 3 w' w.heap.size (fun _ => True) v4 x4_2) ∧ Aside0 (w'.heap[gb835]? = some (.cells #[(.slice A0_0 l0_0.length c0_0), (.slice A0_1 l0_1.length c0_1)] 28 (0, 0))) ∧ Aside0 (Below w.heap.size w w'))
      case atStart => exact ⟨(x4_1), (0), (by first | rfl | (simp; done) | (simp [*]; done)), H', ⟨Nat.le_refl _⟩, ⟨by (with_reducible repeat (first | apply Kd.R_alloc | apply Kd.R_drewN | apply Kd.R_drew)); exact HO_4.out⟩, ⟨by (with_reducible repeat (first | refine blk_drewN ?_ _ | refine blk_drew ?_ | refine blk_alloc ?_ _)); exact BK835.out⟩, ⟨by repeat (first | (with_reducible first | exact HB.out | apply below_alloc | apply pw_below_drewN | apply below_drew1 | refine below_set ?_ GE835.out) | exact HB.out)⟩⟩
      case round =>
       clear H'
       try clear c1
       try clear p1
       try clear q1
       try clear hx1
       try clear hf1
       try clear c2
       try clear c2b0
       try clear c2b1
       try clear p2
       try clear c3
       try clear c3b0
       try clear c3b1
       try clear p6
       try clear c8
       try clear c8b0
       try clear p8
       try clear q8
       try clear hx8
       try clear c9
       try clear c9b0
       try clear c10
       try clear c10b0
       try clear q11
       try clear c12
       try clear c13
       try clear c13b0
       try clear p14
       try clear q14
       try clear hx14
       try clear hf14
       try clear hcz15_0
       try clear hcz15_1
       try clear hcz18_0
       try clear hcz18_1
       try clear hcz5_0
       try clear hcz5_1
       try clear hfz15_0
       try clear hfz15_1
       try clear hfz18_0
       try clear hfz18_1
       try clear hfz5_0
       try clear hfz5_1
       try clear hx14_0
       try clear hx839_0
       try clear p14
       try clear p2
       try clear p839
       try clear q14
       try clear q839
       obtain ⟨x4_2, x6_2, rfl, HA, HK2, HO_4, BK835, HB⟩ := hrel
       cases gk with
       | zero => exact absurd HA.out (by simp [spec_l5Classes.l1])
       | succ k2 =>
        have H := HA.out
        clear HA
        simp only [spec_l5Classes.l1] at H
        by_cases c19 : x6_2 ≤ (l0_0.length : Int)
        ·rw [if_pos c19] at H
         have c19b0 : decide (x6_2 ≤ (l0_0.length : Int)) = true := decide_eq_true c19
         clear c19
         by_cases c20 : 0 ≤ (l0_0.length : Int)
         ·rw [if_pos c20] at H
          have c20b0 := eq_true c20
          have c20b1 : decide (0 ≤ (l0_0.length : Int)) = true := decide_eq_true c20
          clear c20
          by_cases c21 : ((l0_0.length : Int) : Int).toNat ≤ 35184372088832
          ·rw [if_pos c21] at H
           have c21b0 := eq_true c21
           have c21b1 : decide (((l0_0.length : Int) : Int).toNat ≤ 35184372088832) = true := decide_eq_true c21
           clear c21
           obtain ⟨y841, hy841⟩ : ∃ y_ : List Int, y_ = (List.replicate ((l0_0.length : Int) : Int).toNat 0) := ⟨_, rfl⟩
           replace H : (spec_l5Classes.l2 k2 (l0_0.length : Int) x4_2 x6_2 y841 0 l0_0 l0_1) = some r := by first | (rw [hy841]; with_reducible exact H) | (have H2_ := (Option.bind_some _ _).symm.trans H; rw [hy841]; with_reducible exact H2_) | (have H2_ := (Option.bind_some _ _).symm.trans H; with_reducible exact H2_) | with_reducible exact H | (rw [hy841]; exact H) | exact H
           have Ny841 := Aside0.mk hy841
           clear hy841
           have H' := Aside0.mk H
           clear H
           go_wp2_with (first | ((with_reducible refine gate_dst (N := 34) rfl ?_); refine Kd.R_make (Kd.int .i64) _ 3 rfl (N := 34) rfl 54 _ _ rfl (l0_0.length : Int) rfl rfl Try.underlying54 (.int .i64 0) 8 info3 rfl (by decide) (by omega) 0 (ok := fun _ => True) (okp := fun _ => True) rfl (fun _ hk => hk) trivial (of_decide_eq_true (by first | (with_reducible assumption) | assumption)) (Nat.le_trans (Nat.mul_le_mul_right _ (of_decide_eq_true (by first | (with_reducible assumption) | assumption) : (l0_0.length : Int).toNat ≤ 35184372088832)) (by omega)) (Below.refl _ _) (Nat.le_refl _) ?_; intro v842 w22 ho23 hb hg_ hnew_; clear hg_ hnew_; (first | rw [← Ny841.out] at ho23 | (simp only [Int.reduceToNat] at ho23; rw [← Ny841.out] at ho23)); have n0_ := Aside0.mk (Kd.R_elder' (by (with_reducible repeat (first | apply Kd.R_alloc | apply Kd.R_drewN | apply Kd.R_drew)); exact HO_4.out) (Kd.R_base ho23) hb); have n1_ := Aside0.mk (Kd.R_lower (Kd.R_new' ho23 (Kd.R_lt (by (with_reducible repeat (first | apply Kd.R_alloc | apply Kd.R_drewN | apply Kd.R_drew)); exact HO_4.out))) (below_size (by repeat (first | (with_reducible first | exact HB.out | apply below_alloc | apply pw_below_drewN | apply below_drew1 | refine below_set ?_ GE835.out) | exact HB.out)))); have n2_ := Aside0.mk (blk_below (g := gb835) (o := .cells #[.slice A0_0 l0_0.length c0_0, .slice A0_1 l0_1.length c0_1] 28 (0, 0)) (by (with_reducible repeat (first | refine blk_drewN ?_ _ | refine blk_drew ?_ | refine blk_alloc ?_ _)); exact BK835.out) hb); have n3_ := Aside0.mk (below_step (by repeat (first | (with_reducible first | exact HB.out | apply below_alloc | apply pw_below_drewN | apply below_drew1 | refine below_set ?_ GE835.out) | exact HB.out)) hb); clear HO_4; clear BK835; clear HB; have HO_4 := n0_; have HO843 := n1_; have BK835 := n2_; have HB := n3_; clear n0_ n1_ n2_ n3_; clear hb ho23))
           go_loopg [8] k2 (fun kq v8 w' => ∃ (x7_3 : List Int) (x8_3 : Int), v8 = .int .i64 x8_3 ∧ Aside0 (spec_l5Classes.l2 kq (l0_0.length : Int) x4_2 x6_2 x7_3 x8_3 l0_0 l0_1 = some r) ∧ Aside0 (kq ≤ k2) ∧ Aside0 (Kd.R (Kd.int .i64) 3 w' w.heap.size (fun k_ => some k_ ≠ (v842 : Value).ownBlock) u4 x4_2) ∧ Aside0 (Kd.R (Kd.int .i64) 3 w' w.heap.size (fun k_ => some k_ ≠ (u4 : Value).ownBlock) v842 x7_3) ∧ Aside0 (w'.heap[gb835]? = some (.cells #[(.slice A0_0 l0_0.length c0_0), (.slice A0_1 l0_1.length c0_1)] 28 (0, 0))) ∧ Aside0 (Below w.heap.size w w'))
           case atStart => exact ⟨(y841), (0), (by first | rfl | (simp; done) | (simp [*]; done)), H', ⟨Nat.le_refl _⟩, ⟨by (with_reducible repeat (first | apply Kd.R_alloc | apply Kd.R_drewN | apply Kd.R_drew)); exact Kd.R_mono HO_4.out (fun _ hk => hk.2)⟩, ⟨by (with_reducible repeat (first | apply Kd.R_alloc | apply Kd.R_drewN | apply Kd.R_drew)); exact Kd.R_mono HO843.out (fun _ hk => hk.2)⟩, ⟨by (with_reducible repeat (first | refine blk_drewN ?_ _ | refine blk_drew ?_ | refine blk_alloc ?_ _)); exact BK835.out⟩, ⟨by repeat (first | (with_reducible first | exact HB.out | apply below_alloc | apply pw_below_drewN | apply below_drew1 | refine below_set ?_ GE835.out) | exact HB.out)⟩⟩
           case round =>
            clear H'
            try clear c1
            try clear p1
            try clear q1
            try clear hx1
            try clear hf1
            try clear c2
            try clear c2b0
            try clear c2b1
            try clear p2
            try clear c3
            try clear c3b0
            try clear c3b1
            try clear p6
            try clear c8
            try clear c8b0
            try clear p8
            try clear q8
            try clear hx8
            try clear c9
            try clear c9b0
            try clear c10
            try clear c10b0
            try clear q11
            try clear c12
            try clear c13
            try clear c13b0
            try clear p14
            try clear q14
            try clear hx14
            try clear hf14
            try clear c19
            try clear c19b0
            try clear c20
            try clear c20b0
            try clear c20b1
            try clear c21
            try clear c21b0
            try clear c21b1
            try clear hcz15_0
            try clear hcz15_1
            try clear hcz18_0
            try clear hcz18_1
            try clear hcz5_0
            try clear hcz5_1
            try clear hfz15_0
            try clear hfz15_1
            try clear hfz18_0
            try clear hfz18_1
            try clear hfz5_0
            try clear hfz5_1
            try clear hx14_0
            try clear hx839_0
            try clear p1
            try clear p14
            try clear p2
            try clear p6
            try clear p8
            try clear p839
            try clear q1
            try clear q11
            try clear q14
            try clear q8
            try clear q839
            obtain ⟨x7_3, x8_3, rfl, HA, HK3, HO_4, HO_7, BK835, HB⟩ := hrel
            cases gk with
            | zero => exact absurd HA.out (by simp [spec_l5Classes.l2])
            | succ k3 =>
             have H := HA.out
             clear HA
             simp only [spec_l5Classes.l2] at H
             by_cases c24 : x8_3 < (l0_0.length : Int)
             ·rw [if_pos c24] at H
              have c24b0 : decide (x8_3 < (l0_0.length : Int)) = true := decide_eq_true c24
              clear c24
              by_cases c25 : 0 ≤ x8_3
              ·rw [if_pos c25] at H
               have c25b0 : decide (0 ≤ x8_3) = true := decide_eq_true c25
               clear c25
               by_cases c26 : x8_3 < (x7_3.length : Int)
               ·rw [if_pos c26] at H
                have c26b0 : decide (x8_3 < (x7_3.length : Int)) = true := decide_eq_true c26
                clear c26
                obtain ⟨y844, hy844⟩ : ∃ y_ : List Int, y_ = (x7_3.set (x8_3 : Int).toNat x8_3) := ⟨_, rfl⟩
                replace H : (spec_l5Classes.l3 k3 (l0_0.length : Int) x4_2 x6_2 y844 x8_3 0 l0_0 l0_1) = some r := by first | (rw [hy844]; with_reducible exact H) | (have H2_ := (Option.bind_some _ _).symm.trans H; rw [hy844]; with_reducible exact H2_) | (have H2_ := (Option.bind_some _ _).symm.trans H; with_reducible exact H2_) | with_reducible exact H | (rw [hy844]; exact H) | exact H
                have Ny844 := Aside0.mk hy844
                clear hy844
                have H' := Aside0.mk H
                clear H
                have p27 : 0 ≤ (x8_3 : Int) := of_decide_eq_true (by first | (with_reducible assumption) | assumption)
                have q27 : (x8_3 : Int) < ((x7_3.length : Int) : Int) := of_decide_eq_true (by first | (with_reducible assumption) | assumption)
                obtain ⟨go27, co27, eo27, gb27, gl27, cl27, HG27⟩ := Kd.R_form HO_7.out (by omega)
                (first | cases eo27 | (injection eo27 with ea_ en_ ec_; (first | subst ea_ | (injection ea_ with ea_; subst ea_)); subst ec_; clear en_))
                have GB27 := Aside0.mk gb27
                have GG27 := Aside0.mk HG27
                clear gb27 gl27 HG27
                obtain ⟨hx27_0, hf27_0⟩ := Kd.R_celln 0 HO_7.out (x8_3 : Int) p27 q27
                replace p27 := eq_true p27
                replace q27 := eq_true q27
                have HP28 := Kd.R_putg HO_7.out (x8_3 : Int) x8_3
                go_wp2_with (first | ((with_reducible refine gate_store (t := 3) (p := 43) rfl ?_); refine store_event (t := 3) (p := 43) (v := ?vo_w29) (w1 := (wr.setCell ⟨go27, (x8_3 : Int).toNat, none⟩ (.int .i64 x8_3))) ?hg ?ho ?hn ?hr ?_; (case ho => rfl); (case hg => rfl); (case hn => rfl); (case hr => first | (go_simp; done) | (go_simp; rfl)); intro w29 hw; have hg : wr.grownBy w29 (some go27) := (by rw [hw]; exact HP28.2); have hp_ : Kd.R (Kd.int .i64) 3 w29 w.heap.size (fun k_ => some k_ ≠ (u4 : Value).ownBlock) (.slice (some ⟨go27, 0, none⟩) x7_3.length co27) y844 := (by rw [hw, Ny844.out]; exact HP28.1); clear HP28; have n0_ := Aside0.mk (Kd.R_after (v := (.slice (some ⟨go27, 0, none⟩) x7_3.length co27)) (v1 := (.slice (some ⟨go27, 0, none⟩) x7_3.length co27)) (ok := (fun _ => True)) (by (with_reducible repeat (first | apply Kd.R_alloc | apply Kd.R_drewN | apply Kd.R_drew)); exact Kd.R_mono HO_4.out (fun _ hk => ⟨trivial, hk⟩)) hg (.inl rfl)); have n1_ := Aside0.mk (hp_); have n2_ := Aside0.mk (blk_grown (g := gb835) (o := .cells #[.slice A0_0 l0_0.length c0_0, .slice A0_1 l0_1.length c0_1] 28 (0, 0)) (by (with_reducible repeat (first | refine blk_drewN ?_ _ | refine blk_drew ?_ | refine blk_alloc ?_ _)); exact BK835.out) hg (Kd.R_ne HO_7.out BK835.out (by decide))); have n3_ := Aside0.mk ((by rw [hw]; exact below_set (HB.out) GB27.out : Below w.heap.size w w29)); clear HO_4; clear HO_7; clear BK835; clear HB; have HO_4 := n0_; have HO_7 := n1_; have BK835 := n2_; have HB := n3_; clear n0_ n1_ n2_ n3_; clear hg hw hp_))
                go_loopg [9] k3 (fun kq v9 w' => ∃ (x7_4 : List Int) (x9_4 : Int), v9 = .int .i64 x9_4 ∧ Aside0 (spec_l5Classes.l3 kq (l0_0.length : Int) x4_2 x6_2 x7_4 x8_3 x9_4 l0_0 l0_1 = some r) ∧ Aside0 (kq ≤ k3) ∧ Aside0 (Kd.R (Kd.int .i64) 3 w' w.heap.size (fun k_ => some k_ ≠ ((.slice (some ⟨go27, 0, none⟩) x7_3.length co27) : Value).ownBlock) u4 x4_2) ∧ Aside0 (Kd.R (Kd.int .i64) 3 w' w.heap.size (fun k_ => some k_ ≠ (u4 : Value).ownBlock) (.slice (some ⟨go27, 0, none⟩) x7_3.length co27) x7_4) ∧ Aside0 (w'.heap[gb835]? = some (.cells #[(.slice A0_0 l0_0.length c0_0), (.slice A0_1 l0_1.length c0_1)] 28 (0, 0))) ∧ Aside0 (Below w.heap.size w w'))
                case atStart => exact ⟨(y844), (0), (by first | rfl | (simp; done) | (simp [*]; done)), H', ⟨Nat.le_refl _⟩, ⟨by (with_reducible repeat (first | apply Kd.R_alloc | apply Kd.R_drewN | apply Kd.R_drew)); exact Kd.R_mono HO_4.out (fun _ hk => hk.2)⟩, ⟨by (with_reducible repeat (first | apply Kd.R_alloc | apply Kd.R_drewN | apply Kd.R_drew)); exact HO_7.out⟩, ⟨by (with_reducible repeat (first | refine blk_drewN ?_ _ | refine blk_drew ?_ | refine blk_alloc ?_ _)); exact BK835.out⟩, ⟨by repeat (first | (with_reducible first | exact HB.out | apply below_alloc | apply pw_below_drewN | apply below_drew1 | refine below_set ?_ GE835.out) | exact HB.out)⟩⟩
                case round =>
                 clear H'
                 try clear c1
                 try clear p1
                 try clear q1
                 try clear hx1
                 try clear hf1
                 try clear c2
                 try clear c2b0
                 try clear c2b1
                 try clear p2
                 try clear q2
                 try clear hx2
                 try clear hf2
                 try clear c3
                 try clear c3b0
                 try clear c3b1
                 try clear p6
                 try clear c8
                 try clear c8b0
                 try clear p8
                 try clear q8
                 try clear hx8
                 try clear c9
                 try clear c9b0
                 try clear c10
                 try clear c10b0
                 try clear q11
                 try clear c12
                 try clear c13
                 try clear c13b0
                 try clear p14
                 try clear q14
                 try clear hx14
                 try clear hf14
                 try clear c19
                 try clear c19b0
                 try clear c20
                 try clear c20b0
                 try clear c20b1
                 try clear c21
                 try clear c21b0
                 try clear c21b1
                 try clear c24
                 try clear c24b0
                 try clear c25
                 try clear c25b0
                 try clear c26
                 try clear c26b0
                 try clear p27
                 try clear q27
                 try clear hx27
                 try clear hf27
                 try clear hcz15_0
                 try clear hcz15_1
                 try clear hcz18_0
                 try clear hcz18_1
                 try clear hcz5_0
                 try clear hcz5_1
                 try clear hfz15_0
                 try clear hfz15_1
                 try clear hfz18_0
                 try clear hfz18_1
                 try clear hfz5_0
                 try clear hfz5_1
                 try clear hx14_0
                 try clear hx27_0
                 try clear hx839_0
                 try clear p1
                 try clear p14
                 try clear p2
                 try clear p27
                 try clear p6
                 try clear p8
                 try clear p839
                 try clear q1
                 try clear q11
                 try clear q14
                 try clear q27
                 try clear q8
                 try clear q839
                 obtain ⟨x7_4, x9_4, rfl, HA, HK4, HO_4, HO_7, BK835, HB⟩ := hrel
                 have hl7_4 := (Kd.R_reads' HO_7.out).1
                 rw [hl7_4] at HO_7
                 (try simp only [hl7_4])
                 (try simp only [hl7_4] at BK835)
                 (try simp only [hl7_4] at HO_4)
                 cases gk with
                 | zero => exact absurd HA.out (by simp [spec_l5Classes.l3])
                 | succ k4 =>
                  have H := HA.out
                  clear HA
                  simp only [spec_l5Classes.l3] at H
                  by_cases c30 : x9_4 < x8_3
                  ·rw [if_pos c30] at H
                   have c30b0 : decide (x9_4 < x8_3) = true := decide_eq_true c30
                   clear c30
                   replace H := Option.bind_eq_some_iff.mp H
                   obtain ⟨t845, A310, H⟩ := H
                   replace H : (if t845 = true then (if 0 ≤ x8_3 then (if x8_3 < (x7_4.length : Int) then (spec_l5Classes.l2 k4 (l0_0.length : Int) x4_2 x6_2 (x7_4.set (x8_3 : Int).toNat x9_4) (wrap64 (x8_3 + 1)) l0_0 l0_1) else (none)) else (none)) else (spec_l5Classes.l3 k4 (l0_0.length : Int) x4_2 x6_2 x7_4 x8_3 (wrap64 (x9_4 + 1)) l0_0 l0_1)) = some r := H
                   have A31 := Aside0.mk A310
                   clear A310
                   by_cases c32 : t845 = true
                   ·subst c32
                    have H1 : (if 0 ≤ x8_3 then (if x8_3 < (x7_4.length : Int) then (spec_l5Classes.l2 k4 (l0_0.length : Int) x4_2 x6_2 (x7_4.set (x8_3 : Int).toNat x9_4) (wrap64 (x8_3 + 1)) l0_0 l0_1) else (none)) else (none)) = some r := by rw [if_pos rfl] at H; exact H
                    clear H
                    have H := H1
                    clear H1
                    by_cases c33 : 0 ≤ x8_3
                    ·rw [if_pos c33] at H
                     have c33b0 : decide (0 ≤ x8_3) = true := decide_eq_true c33
                     clear c33
                     by_cases c34 : x8_3 < (x7_4.length : Int)
                     ·rw [if_pos c34] at H
                      have c34b0 : decide (x8_3 < (x7_4.length : Int)) = true := decide_eq_true c34
                      clear c34
                      obtain ⟨y846, hy846⟩ : ∃ y_ : List Int, y_ = (x7_4.set (x8_3 : Int).toNat x9_4) := ⟨_, rfl⟩
                      replace H : (spec_l5Classes.l2 k4 (l0_0.length : Int) x4_2 x6_2 y846 (wrap64 (x8_3 + 1)) l0_0 l0_1) = some r := by first | (rw [hy846]; with_reducible exact H) | (have H2_ := (Option.bind_some _ _).symm.trans H; rw [hy846]; with_reducible exact H2_) | (have H2_ := (Option.bind_some _ _).symm.trans H; with_reducible exact H2_) | with_reducible exact H | (rw [hy846]; exact H) | exact H
                      have Ny846 := Aside0.mk hy846
                      clear hy846
                      have H' := Aside0.mk H
                      clear H
                      have hcz36_0 : wr.cell? ⟨gb835, 0, none⟩ = some (.slice A0_0 l0_0.length c0_0) := (blk_cell BK835.out 0).trans rfl
                      have hcz36_1 : wr.cell? ⟨gb835, 1, none⟩ = some (.slice A0_1 l0_1.length c0_1) := (blk_cell BK835.out 1).trans rfl
                      have hfz36_0 := blk_frozen BK835.out 0
                      have hfz36_1 := blk_frozen BK835.out 1
                      obtain ⟨Ao37, co37, eo37⟩ := Kd.R_slice HO_4.out
                      subst eo37
                      go_wp2_with (first | ((with_reducible refine gate_callee (f := 112) rfl ?_); refine goesL_ (some 53) rfl rfl Try.func112 (by kernel_rfl) rfl #[.agg #[.slice A0_0 l0_0.length c0_0, .slice A0_1 l0_1.length c0_1], .slice Ao37 x4_2.length co37, .int .i64 x9_4, .int .i64 x8_3] rfl (by (try simp only [List.map_toArray, List.map_cons, List.map_nil]); first | done | rfl | (simp only [List.length_drop, List.length_take]; rfl)) ?_; (with_reducible refine (spec_l5Same.calls k4 _ _ l0_0 _ _ l0_1 _ _ x4_2 x9_4 x8_3 true _ ?side1 ?side2 ?side3 ?side4 ?side5 ?side6 A31.out).mono ?_); (case side1 => repeat (first | exact (Kd.C_below HR0_0.out HB.out) | (with_reducible refine Kd.C_alloc ?_ _) | (with_reducible refine Kd.C_drewN ?_ _) | (with_reducible refine Kd.C_drew ?_))); (case side2 => exact HC0_0.out); (case side3 => repeat (first | exact (Kd.C_below HR0_1.out HB.out) | (with_reducible refine Kd.C_alloc ?_ _) | (with_reducible refine Kd.C_drewN ?_ _) | (with_reducible refine Kd.C_drew ?_))); (case side4 => exact HC0_1.out); (case side5 => repeat (first | exact (Kd.R_reads' HO_4.out).2.2 | (with_reducible refine Kd.C_alloc ?_ _) | (with_reducible refine Kd.C_drewN ?_ _) | (with_reducible refine Kd.C_drew ?_))); (case side6 => exact (Kd.R_reads' HO_4.out).2.1); rintro e w38 ⟨rfl, hb⟩; refine ⟨_, rfl, ?_⟩; have n0_ := Aside0.mk (Kd.R_below (by (with_reducible repeat (first | apply Kd.R_alloc | apply Kd.R_drewN | apply Kd.R_drew)); exact HO_4.out) hb); have n1_ := Aside0.mk (Kd.R_below (by (with_reducible repeat (first | apply Kd.R_alloc | apply Kd.R_drewN | apply Kd.R_drew)); exact HO_7.out) hb); have n2_ := Aside0.mk (blk_below (g := gb835) (o := .cells #[.slice A0_0 l0_0.length c0_0, .slice A0_1 l0_1.length c0_1] 28 (0, 0)) (by (with_reducible repeat (first | refine blk_drewN ?_ _ | refine blk_drew ?_ | refine blk_alloc ?_ _)); exact BK835.out) hb); have n3_ := Aside0.mk (below_step (by repeat (first | (with_reducible first | exact HB.out | apply below_alloc | apply pw_below_drewN | apply below_drew1 | refine below_set ?_ GE835.out) | exact HB.out)) hb); clear HO_4; clear HO_7; clear BK835; clear HB; have HO_4 := n0_; have HO_7 := n1_; have BK835 := n2_; have HB := n3_; clear n0_ n1_ n2_ n3_; (try clear hb); (try clear hb2); (try clear hk); (try clear hi); have p35 : 0 ≤ (x8_3 : Int) := of_decide_eq_true (by first | (with_reducible assumption) | assumption); have q35 : (x8_3 : Int) < ((x7_4.length : Int) : Int) := of_decide_eq_true (by first | (with_reducible assumption) | assumption); obtain ⟨hx35_0, hf35_0⟩ := Kd.R_celln 0 HO_7.out (x8_3 : Int) p35 q35; replace p35 := eq_true p35; replace q35 := eq_true q35; obtain ⟨hy39_, hz39_⟩ := Kd.R_celln 0 HO_7.out (x8_3 : Int) (of_decide_eq_true (by first | (with_reducible assumption) | assumption)) (of_decide_eq_true (by first | (with_reducible assumption) | assumption)); have HP39 := Kd.R_putg HO_7.out (x8_3 : Int) x9_4) | ((with_reducible refine gate_store (t := 3) (p := 57) rfl ?_); refine store_event (t := 3) (p := 57) (v := ?vo_w40) (w1 := (w38.setCell ⟨go27, (x8_3 : Int).toNat, none⟩ (.int .i64 x9_4))) ?hg ?ho ?hn ?hr ?_; (case ho => rfl); (case hg => rfl); (case hn => rfl); (case hr => first | (go_simp; done) | (go_simp; rfl)); intro w40 hw; have hg : w38.grownBy w40 (some go27) := (by rw [hw]; exact HP39.2); have hp_ : Kd.R (Kd.int .i64) 3 w40 w.heap.size (fun k_ => some k_ ≠ (.slice Ao37 x4_2.length co37 : Value).ownBlock) (.slice (some ⟨go27, 0, none⟩) x7_4.length co27) y846 := (by rw [hw, Ny846.out]; exact HP39.1); clear HP39; have n0_ := Aside0.mk (Kd.R_after (v := (.slice (some ⟨go27, 0, none⟩) x7_4.length co27)) (v1 := (.slice (some ⟨go27, 0, none⟩) x7_4.length co27)) (ok := (fun _ => True)) (by (with_reducible repeat (first | apply Kd.R_alloc | apply Kd.R_drewN | apply Kd.R_drew)); exact Kd.R_mono HO_4.out (fun _ hk => ⟨trivial, hk⟩)) hg (.inl rfl)); have n1_ := Aside0.mk (hp_); have n2_ := Aside0.mk (blk_grown (g := gb835) (o := .cells #[.slice A0_0 l0_0.length c0_0, .slice A0_1 l0_1.length c0_1] 28 (0, 0)) (by (with_reducible repeat (first | refine blk_drewN ?_ _ | refine blk_drew ?_ | refine blk_alloc ?_ _)); exact BK835.out) hg (Kd.R_ne HO_7.out BK835.out (by decide))); have n3_ := Aside0.mk ((by rw [hw]; exact below_set (HB.out) GB27.out : Below w.heap.size w w40)); clear HO_4; clear HO_7; clear BK835; clear HB; have HO_4 := n0_; have HO_7 := n1_; have BK835 := n2_; have HB := n3_; clear n0_ n1_ n2_ n3_; clear hg hw hp_))
                      (try simp only [← hl7_4])
                      go_roundg k4
                      case measure => have := HK1.out; have := HK2.out; have := HK3.out; have := HK4.out; omega
                      case rel => exact ⟨(y846), (wrap64 (x8_3 + 1)), (by first | rfl | (simp; done) | (simp [*]; done)), H', ⟨by have := HK1.out; have := HK2.out; have := HK3.out; have := HK4.out; omega⟩, ⟨by (try simp only [hl7_4]); (with_reducible repeat (first | apply Kd.R_alloc | apply Kd.R_drewN | apply Kd.R_drew)); exact Kd.R_mono HO_4.out (fun _ hk => hk.2)⟩, ⟨by (try simp only [hl7_4]); (with_reducible repeat (first | apply Kd.R_alloc | apply Kd.R_drewN | apply Kd.R_drew)); exact HO_7.out⟩, ⟨by (try simp only [hl7_4]); (with_reducible repeat (first | refine blk_drewN ?_ _ | refine blk_drew ?_ | refine blk_alloc ?_ _)); exact BK835.out⟩, ⟨by repeat (first | (with_reducible first | exact HB.out | apply below_alloc | apply pw_below_drewN | apply below_drew1 | refine below_set ?_ GE835.out) | exact HB.out)⟩⟩
                     ·rw [if_neg c34] at H
                      exact absurd H (by simp)
                    ·rw [if_neg c33] at H
                     exact absurd H (by simp)
                   ·replace c32 := Bool.eq_false_iff.mpr c32
                    subst c32
                    have H1 : (spec_l5Classes.l3 k4 (l0_0.length : Int) x4_2 x6_2 x7_4 x8_3 (wrap64 (x9_4 + 1)) l0_0 l0_1) = some r := by rw [if_neg (show ¬ (false = true) by decide)] at H; exact H
                    clear H
                    have H := H1
                    clear H1
                    have H' := Aside0.mk H
                    clear H
                    have hcz41_0 : wr.cell? ⟨gb835, 0, none⟩ = some (.slice A0_0 l0_0.length c0_0) := (blk_cell BK835.out 0).trans rfl
                    have hcz41_1 : wr.cell? ⟨gb835, 1, none⟩ = some (.slice A0_1 l0_1.length c0_1) := (blk_cell BK835.out 1).trans rfl
                    have hfz41_0 := blk_frozen BK835.out 0
                    have hfz41_1 := blk_frozen BK835.out 1
                    obtain ⟨Ao42, co42, eo42⟩ := Kd.R_slice HO_4.out
                    subst eo42
                    go_wp2_with (first | ((with_reducible refine gate_callee (f := 112) rfl ?_); refine goesL_ (some 53) rfl rfl Try.func112 (by kernel_rfl) rfl #[.agg #[.slice A0_0 l0_0.length c0_0, .slice A0_1 l0_1.length c0_1], .slice Ao42 x4_2.length co42, .int .i64 x9_4, .int .i64 x8_3] rfl (by (try simp only [List.map_toArray, List.map_cons, List.map_nil]); first | done | rfl | (simp only [List.length_drop, List.length_take]; rfl)) ?_; (with_reducible refine (spec_l5Same.calls k4 _ _ l0_0 _ _ l0_1 _ _ x4_2 x9_4 x8_3 false _ ?side1 ?side2 ?side3 ?side4 ?side5 ?side6 A31.out).mono ?_); (case side1 => repeat (first | exact (Kd.C_below HR0_0.out HB.out) | (with_reducible refine Kd.C_alloc ?_ _) | (with_reducible refine Kd.C_drewN ?_ _) | (with_reducible refine Kd.C_drew ?_))); (case side2 => exact HC0_0.out); (case side3 => repeat (first | exact (Kd.C_below HR0_1.out HB.out) | (with_reducible refine Kd.C_alloc ?_ _) | (with_reducible refine Kd.C_drewN ?_ _) | (with_reducible refine Kd.C_drew ?_))); (case side4 => exact HC0_1.out); (case side5 => repeat (first | exact (Kd.R_reads' HO_4.out).2.2 | (with_reducible refine Kd.C_alloc ?_ _) | (with_reducible refine Kd.C_drewN ?_ _) | (with_reducible refine Kd.C_drew ?_))); (case side6 => exact (Kd.R_reads' HO_4.out).2.1); rintro e w43 ⟨rfl, hb⟩; refine ⟨_, rfl, ?_⟩; have n0_ := Aside0.mk (Kd.R_below (by (with_reducible repeat (first | apply Kd.R_alloc | apply Kd.R_drewN | apply Kd.R_drew)); exact HO_4.out) hb); have n1_ := Aside0.mk (Kd.R_below (by (with_reducible repeat (first | apply Kd.R_alloc | apply Kd.R_drewN | apply Kd.R_drew)); exact HO_7.out) hb); have n2_ := Aside0.mk (blk_below (g := gb835) (o := .cells #[.slice A0_0 l0_0.length c0_0, .slice A0_1 l0_1.length c0_1] 28 (0, 0)) (by (with_reducible repeat (first | refine blk_drewN ?_ _ | refine blk_drew ?_ | refine blk_alloc ?_ _)); exact BK835.out) hb); have n3_ := Aside0.mk (below_step (by repeat (first | (with_reducible first | exact HB.out | apply below_alloc | apply pw_below_drewN | apply below_drew1 | refine below_set ?_ GE835.out) | exact HB.out)) hb); clear HO_4; clear HO_7; clear BK835; clear HB; have HO_4 := n0_; have HO_7 := n1_; have BK835 := n2_; have HB := n3_; clear n0_ n1_ n2_ n3_; (try clear hb); (try clear hb2); (try clear hk); (try clear hi)))
                    (try simp only [← hl7_4])
                    go_roundg k4
                    case measure => have := HK1.out; have := HK2.out; have := HK3.out; have := HK4.out; omega
                    case rel => exact ⟨(x7_4), (wrap64 (x9_4 + 1)), (by first | rfl | (simp; done) | (simp [*]; done)), H', ⟨by have := HK1.out; have := HK2.out; have := HK3.out; have := HK4.out; omega⟩, ⟨by (try simp only [hl7_4]); (with_reducible repeat (first | apply Kd.R_alloc | apply Kd.R_drewN | apply Kd.R_drew)); exact HO_4.out⟩, ⟨by (try simp only [hl7_4]); (with_reducible repeat (first | apply Kd.R_alloc | apply Kd.R_drewN | apply Kd.R_drew)); exact HO_7.out⟩, ⟨by (try simp only [hl7_4]); (with_reducible repeat (first | refine blk_drewN ?_ _ | refine blk_drew ?_ | refine blk_alloc ?_ _)); exact BK835.out⟩, ⟨by repeat (first | (with_reducible first | exact HB.out | apply below_alloc | apply pw_below_drewN | apply below_drew1 | refine below_set ?_ GE835.out) | exact HB.out)⟩⟩
                  ·rw [if_neg c30] at H
                   have c30b0 : decide (x9_4 < x8_3) = false := decide_eq_false c30
                   clear c30
                   have H' := Aside0.mk H
                   clear H
                   go_wp2
                   (try simp only [← hl7_4])
                   go_roundg k4
                   case measure => have := HK1.out; have := HK2.out; have := HK3.out; have := HK4.out; omega
                   case rel => exact ⟨(x7_4), (wrap64 (x8_3 + 1)), (by first | rfl | (simp; done) | (simp [*]; done)), H', ⟨by have := HK1.out; have := HK2.out; have := HK3.out; have := HK4.out; omega⟩, ⟨by (try simp only [hl7_4]); (with_reducible repeat (first | apply Kd.R_alloc | apply Kd.R_drewN | apply Kd.R_drew)); exact HO_4.out⟩, ⟨by (try simp only [hl7_4]); (with_reducible repeat (first | apply Kd.R_alloc | apply Kd.R_drewN | apply Kd.R_drew)); exact HO_7.out⟩, ⟨by (try simp only [hl7_4]); (with_reducible repeat (first | refine blk_drewN ?_ _ | refine blk_drew ?_ | refine blk_alloc ?_ _)); exact BK835.out⟩, ⟨by repeat (first | (with_reducible first | exact HB.out | apply below_alloc | apply pw_below_drewN | apply below_drew1 | refine below_set ?_ GE835.out) | exact HB.out)⟩⟩
               ·rw [if_neg c26] at H
                exact absurd H (by simp)
              ·rw [if_neg c25] at H
               exact absurd H (by simp)
             ·rw [if_neg c24] at H
              have c24b0 : decide (x8_3 < (l0_0.length : Int)) = false := decide_eq_false c24
              clear c24
              have H' := Aside0.mk H
              clear H
              go_wp2
              go_roundg k3
              case measure => have := HK1.out; have := HK2.out; have := HK3.out; omega
              case rel => exact ⟨(x7_3), (wrap64 (x6_2 + 1)), (by first | rfl | (simp; done) | (simp [*]; done)), H', ⟨by have := HK1.out; have := HK2.out; have := HK3.out; omega⟩, ⟨by (with_reducible repeat (first | apply Kd.R_alloc | apply Kd.R_drewN | apply Kd.R_drew)); exact Kd.R_mono HO_7.out (fun _ hk => trivial)⟩, ⟨by (with_reducible repeat (first | refine blk_drewN ?_ _ | refine blk_drew ?_ | refine blk_alloc ?_ _)); exact BK835.out⟩, ⟨by repeat (first | (with_reducible first | exact HB.out | apply below_alloc | apply pw_below_drewN | apply below_drew1 | refine below_set ?_ GE835.out) | exact HB.out)⟩⟩
          ·rw [if_neg c21] at H
           exact absurd H (by simp)
         ·rw [if_neg c20] at H
          exact absurd H (by simp)
        ·rw [if_neg c19] at H
         have c19b0 : decide (x6_2 ≤ (l0_0.length : Int)) = false := decide_eq_false c19
         clear c19
         obtain rfl := Option.some.inj H
         simp only [Option.some.injEq, Prod.mk.injEq] at H
         obtain ⟨rfl⟩ := H
         go_wp2
         go_ret
         exact ⟨_, by first | rfl | (simp [errW_none, errW_some] <;> rfl) | (simp [*, errW_none, errW_some] <;> rfl), by (with_reducible repeat (first | apply Kd.R_alloc | apply Kd.R_drewN | apply Kd.R_drew)); exact HO_4.out, by repeat (first | (with_reducible first | exact HB.out | apply below_alloc | apply pw_below_drewN | apply below_drew1 | refine below_set ?_ GE835.out) | exact HB.out)⟩
  ·rw [if_neg c3] at H
   exact absurd H (by simp)
 ·rw [if_neg c2] at H
  exact absurd H (by simp)
end Go.Proofs.Ytoknogcefajfiaa.P
end
section
namespace Go.Proofs.Ytoknogcefajfiaa.Can
open Go.RowKit Go.Proofs.Ytoknogcefajfiaa Go.Proofs.Ytoknogcefajfiaa.P Go.Proofs.Ytoknogcefajfiaa.Lg Go.Proofs.Ytoknogcefajfiaa.Pl Go.Proofs.Ytoknogcefajfiaa.Mp Go.Proofs.Ytoknogcefajfiaa.Bf Go.Proofs.Ytoknogcefajfiaa.Mn Go.Proofs.YtoknogcefajfiaaW.PrintWords Go.Proofs.YtoknogcefajfiaaW.PrintLast Go.Proofs.YtoknogcefajfiaaW.PrintMore
set_option linter.unusedVariables false
set_option linter.unusedSimpArgs false
set_option linter.unusedSectionVars false
def findOf (l : List Int) (x : Int) : Int := if x ∈ l then (l.idxOf x : Int) else -1
theorem find_l0 (l : List Int) (x : Int) (hl : l.length ≤ 2000000) : ∀ d i : Nat, i + d = l.length → x ∉ l.take i → Ev (fun k => spec_l5Find.l0 k l x i) (findOf l x) := by
  intro d
  induction d with
  | zero =>
    intro i h hx
    refine next ?_
    simp only [spec_l5Find.l0, if_neg (show ¬ (i : Int) < (l.length : Int) by omega)]
    rw [List.take_of_length_le (by omega)] at hx
    exact ev_some (by unfold findOf; rw [if_neg hx])
  | succ d ih =>
    intro i h hx
    have hi : i < l.length := by omega
    refine next ?_
    simp only [spec_l5Find.l0, if_pos (show (i : Int) < (l.length : Int) by omega), if_pos (show (0 : Int) ≤ (i : Int) by omega), rd_get l i hi]
    by_cases e : l[i] = x
    · simp only [if_pos e]
      refine ev_some ?_
      have hm : x ∈ l := e ▸ List.getElem_mem hi
      unfold findOf
      rw [if_pos hm]
      have : l.idxOf x = i := by
        conv => lhs; rw [← List.take_append_drop i l, List.drop_eq_getElem_cons hi]
        rw [List.idxOf_append, if_neg hx, e, List.idxOf_cons_self]
        simp
        omega
      rw [this]
    · simp only [if_neg e]
      rw [up1 (by omega)]
      refine ih (i + 1) (by omega) ?_
      rw [List.take_succ_eq_append_getElem hi]
      intro hm
      rcases List.mem_append.mp hm with q | q
      · exact hx q
      · rw [List.mem_singleton] at q
        exact e q.symm
theorem find_ev (l : List Int) (x : Int) (hl : l.length ≤ 2000000) : Ev (fun k => spec_l5Find.f k l x) (findOf l x) := find_l0 l x hl l.length 0 (by omega) (by simp)
def eqAt (nx : List (List Int)) (cl : List Int) (p q : Int) (j : Int) : Bool := rd cl (rd (rowOf nx p) j) == rd cl (rd (rowOf nx q) j)
def sameB (nx : List (List Int)) (cl : List Int) (p q : Int) : Bool := (((rd cl p == rd cl q) && eqAt nx cl p q 0) && eqAt nx cl p q 1) && eqAt nx cl p q 2
theorem sameB_iff {nx : List (List Int)} {cl : List Int} {p q : Int} : sameB nx cl p q = true ↔ rd cl p = rd cl q ∧ ∀ k : Fin 3, rd cl (rd (rowOf nx p) (k.val : Int)) = rd cl (rd (rowOf nx q) (k.val : Int)) := by
  unfold sameB eqAt
  simp only [Bool.and_eq_true, beq_iff_eq]
  constructor
  · rintro ⟨⟨⟨h, h0⟩, h1⟩, h2⟩
    refine ⟨h, fun k => ?_⟩
    match k with
    | 0 => exact h0
    | 1 => exact h1
    | 2 => exact h2
  · rintro ⟨h, hk⟩
    exact ⟨⟨⟨h, hk 0⟩, hk 1⟩, hk 2⟩
section
variable {acc : List Bool} {nx : List (List Int)} {cl : List Int}
theorem same_step (hf : Fits acc nx) (hcl : cl.length = acc.length) {p q : Int} (hp : 0 ≤ p ∧ p < (acc.length : Int)) (hq : 0 ≤ q ∧ q < (acc.length : Int)) (b : Bool) (j : Nat) (hj : j < 3) {r : Bool}
    (h : Ev (fun k => spec_l5Same.l0 k cl p q (b && eqAt nx cl p q j) ((j + 1 : Nat) : Int) acc nx) r) : Ev (fun k => spec_l5Same.l0 k cl p q b (j : Int) acc nx) r := by
  refine next ?_
  have h1 : (rd_L2 nx p).length = 3 ∧ ∀ x ∈ rd_L2 nx p, 0 ≤ x ∧ x < (acc.length : Int) := hf.row p hp
  have h2 : (rd_L2 nx q).length = 3 ∧ ∀ x ∈ rd_L2 nx q, 0 ≤ x ∧ x < (acc.length : Int) := hf.row q hq
  have hl := hf.len
  have e1 := h1.2 _ (rd_mem h1.1 ⟨j, hj⟩)
  have e2 := h2.2 _ (rd_mem h2.1 ⟨j, hj⟩)
  dsimp only at e1 e2
  cases b with
  | true =>
    simp only [spec_l5Same.l0, if_pos (show (j : Int) < 3 by omega), if_pos hp.1, if_pos hq.1, if_pos (show p < (nx.length : Int) by omega), if_pos (show q < (nx.length : Int) by omega), if_pos (show (0 : Int) ≤ (j : Int) by omega), if_pos (show (j : Int) < ((rd_L2 nx p).length : Int) by omega), if_pos (show (j : Int) < ((rd_L2 nx q).length : Int) by omega), if_pos e1.1, if_pos e2.1, if_pos (show rd (rd_L2 nx p) (j : Int) < (cl.length : Int) by omega), if_pos (show rd (rd_L2 nx q) (j : Int) < (cl.length : Int) by omega), if_true]
    rw [up1 (by omega)]
    exact h
  | false =>
    simp only [spec_l5Same.l0, if_pos (show (j : Int) < 3 by omega), if_neg (show ¬ false = true by decide)]
    rw [up1 (by omega)]
    exact h
theorem same_ev (hf : Fits acc nx) (hcl : cl.length = acc.length) {p q : Int} (hp : 0 ≤ p ∧ p < (acc.length : Int)) (hq : 0 ≤ q ∧ q < (acc.length : Int)) : Ev (fun k => spec_l5Same.f k acc nx cl p q) (sameB nx cl p q) := by
  have hl := hf.len
  have h0 : Ev (fun k => spec_l5Same.l0 k cl p q (rd cl p == rd cl q) ((0 : Nat) : Int) acc nx) (sameB nx cl p q) := by
    refine same_step hf hcl hp hq _ 0 (by omega) (same_step hf hcl hp hq _ 1 (by omega) (same_step hf hcl hp hq _ 2 (by omega) ?_))
    refine next ?_
    simp only [spec_l5Same.l0, if_neg (show ¬ ((2 + 1 : Nat) : Int) < 3 by decide)]
    exact ev_some rfl
  refine h0.congr fun k => ?_
  simp only [spec_l5Same.f, if_pos hp.1, if_pos hq.1, if_pos (show p < (cl.length : Int) by omega), if_pos (show q < (cl.length : Int) by omega)]
  rfl
def cl0 (acc : List Bool) : List Int := acc.map fun b => if b = true then 1 else 0
def leastF (nx : List (List Int)) (cl : List Int) (q : Nat) : Int := (((List.range q).find? (fun p : Nat => sameB nx cl (p : Int) (q : Int))).getD q : Nat)
def refS (nx : List (List Int)) (cl : List Int) : List Int := (List.range cl.length).map (leastF nx cl)
def iterS (nx : List (List Int)) : Nat → List Int → List Int
  | 0, cl => cl
  | d + 1, cl => iterS nx d (refS nx cl)
theorem set_at {n i : Nat} (hi : i < n) (A : List Int) (hA : A.length = i) (y : Int) : (A ++ List.replicate (n - i) (0 : Int)).set i y = (A ++ [y]) ++ List.replicate (n - (i + 1)) 0 := by
  have := set_mid A (0 : Int) y (List.replicate (n - (i + 1)) 0)
  rw [hA] at this
  rw [show n - i = (n - (i + 1)) + 1 by omega, List.replicate_succ]
  exact this
theorem cls_l3 (hf : Fits acc nx) (hcl : cl.length = acc.length) (hb : acc.length ≤ 1000000) (t : Int) (X : List Int) (hX : X.length = acc.length) (i : Nat) (hi : i < acc.length) {r : List Int}
    (h : Ev (fun k => spec_l5Classes.l2 k (acc.length : Int) cl t (X.set i (leastF nx cl i)) ((i + 1 : Nat) : Int) acc nx) r) :
    ∀ d p : Nat, p + d = i → (∀ p' : Nat, p' < p → sameB nx cl p' i = false) → Ev (fun k => spec_l5Classes.l3 k (acc.length : Int) cl t (X.set i (i : Int)) (i : Int) (p : Int) acc nx) r := by
  intro d
  induction d with
  | zero =>
    intro p hp hno
    refine next ?_
    simp only [spec_l5Classes.l3, if_neg (show ¬ (p : Int) < (i : Int) by omega)]
    rw [up1 (by omega)]
    have e : leastF nx cl i = (i : Int) := by
      unfold leastF
      have : (List.range i).find? (fun p : Nat => sameB nx cl (p : Int) (i : Int)) = none := by
        rw [List.find?_eq_none]
        intro x hx
        rw [List.mem_range] at hx
        rw [hno x (by omega)]
        decide
      rw [this]
      rfl
    rw [← e]
    exact h
  | succ d ih =>
    intro p hp hno
    refine next ?_
    simp only [spec_l5Classes.l3, if_pos (show (p : Int) < (i : Int) by omega)]
    refine (same_ev hf hcl (p := (p : Int)) (q := (i : Int)) (by omega) (by omega)).bind ?_
    cases hs : sameB nx cl (p : Int) (i : Int) with
    | true =>
      simp only [if_true, if_pos (show (0 : Int) ≤ (i : Int) by omega), if_pos (show (i : Int) < ((X.set i (i : Int)).length : Int) by rw [List.length_set]; omega), Int.toNat_natCast, List.set_set]
      rw [up1 (by omega)]
      have e : leastF nx cl i = (p : Int) := by
        unfold leastF
        have : (List.range i).find? (fun p : Nat => sameB nx cl (p : Int) (i : Int)) = some p := by
          rw [List.find?_eq_some_iff_getElem]
          refine ⟨hs, p, by simp; omega, by simp, fun j hj => ?_⟩
          rw [List.getElem_range, hno j hj]
          rfl
        rw [this]
        rfl
      rw [← e]
      exact h
    | false =>
      simp only [if_neg (show ¬ false = true by decide)]
      rw [up1 (by omega)]
      refine ih (p + 1) (by omega) fun p' hp' => ?_
      by_cases e : p' = p
      · subst e; exact hs
      · exact hno p' (by omega)
theorem cls_l2 (hf : Fits acc nx) (hcl : cl.length = acc.length) (hb : acc.length ≤ 1000000) (t : Nat) (ht : t ≤ 1000000) {r : List Int}
    (h : Ev (fun k => spec_l5Classes.l1 k (acc.length : Int) (refS nx cl) ((t + 1 : Nat) : Int) acc nx) r) :
    ∀ d i : Nat, i + d = acc.length → Ev (fun k => spec_l5Classes.l2 k (acc.length : Int) cl (t : Int) ((List.range i).map (leastF nx cl) ++ List.replicate (acc.length - i) 0) (i : Int) acc nx) r := by
  intro d
  induction d with
  | zero =>
    intro i hi
    refine next ?_
    simp only [spec_l5Classes.l2, if_neg (show ¬ (i : Int) < (acc.length : Int) by omega)]
    rw [up1 (by omega)]
    have e : (List.range i).map (leastF nx cl) ++ List.replicate (acc.length - i) 0 = refS nx cl := by
      unfold refS
      rw [hcl, show i = acc.length by omega]
      simp
    rw [e]
    exact h
  | succ d ih =>
    intro i hi
    refine next ?_
    have hlen : ((List.range i).map (leastF nx cl) ++ List.replicate (acc.length - i) (0 : Int)).length = acc.length := by simp; omega
    simp only [spec_l5Classes.l2, if_pos (show (i : Int) < (acc.length : Int) by omega), if_pos (show (0 : Int) ≤ (i : Int) by omega), if_pos (show (i : Int) < (((List.range i).map (leastF nx cl) ++ List.replicate (acc.length - i) (0 : Int)).length : Int) by omega), Int.toNat_natCast]
    refine cls_l3 hf hcl hb (t : Int) _ hlen i (by omega) ?_ i 0 (by omega) (fun _ h => by omega)
    rw [set_at (by omega) _ (by simp), ← List.map_singleton, ← List.map_append, ← List.range_succ]
    exact ih (i + 1) (by omega)
theorem refS_len (nx : List (List Int)) (cl : List Int) : (refS nx cl).length = cl.length := by simp [refS]
theorem cls_l1 (hf : Fits acc nx) (hb : acc.length ≤ 1000000) : ∀ (d t : Nat) (cl : List Int), cl.length = acc.length → t + d = acc.length + 1 → Ev (fun k => spec_l5Classes.l1 k (acc.length : Int) cl (t : Int) acc nx) (iterS nx d cl) := by
  intro d
  induction d with
  | zero =>
    intro t cl hcl ht
    refine next ?_
    simp only [spec_l5Classes.l1, if_neg (show ¬ (t : Int) ≤ (acc.length : Int) by omega)]
    exact ev_some rfl
  | succ d ih =>
    intro t cl hcl ht
    refine next ?_
    simp only [spec_l5Classes.l1, if_pos (show (t : Int) ≤ (acc.length : Int) by omega), if_pos (show (0 : Int) ≤ (acc.length : Int) by omega), Int.toNat_natCast, if_pos (show acc.length ≤ 35184372088832 by omega)]
    show Ev _ (iterS nx d (refS nx cl))
    have := cls_l2 hf hcl hb t (by omega) (ih (t + 1) (refS nx cl) (by rw [refS_len]; exact hcl) (by omega)) acc.length 0 (by omega)
    simpa using this
theorem cls_l0 (hf : Fits acc nx) (hb : acc.length ≤ 1000000) {r : List Int} (h : Ev (fun k => spec_l5Classes.l1 k (acc.length : Int) (cl0 acc) 0 acc nx) r) :
    ∀ d i : Nat, i + d = acc.length → Ev (fun k => spec_l5Classes.l0 k (acc.length : Int) ((acc.take i).map (fun b => if b = true then (1 : Int) else 0) ++ List.replicate (acc.length - i) 0) (i : Int) acc nx) r := by
  intro d
  induction d with
  | zero =>
    intro i hi
    refine next ?_
    simp only [spec_l5Classes.l0, if_neg (show ¬ (i : Int) < (acc.length : Int) by omega)]
    rw [List.take_of_length_le (by omega), show acc.length - i = 0 by omega]
    simpa [cl0] using h
  | succ d ih =>
    intro i hi
    refine next ?_
    have hii : i < acc.length := by omega
    have hlen : (((acc.take i).map (fun b => if b = true then (1 : Int) else 0) ++ List.replicate (acc.length - i) (0 : Int)).length : Int) = (acc.length : Int) := by simp; omega
    have hs : ∀ y, ((acc.take i).map (fun b => if b = true then (1 : Int) else 0) ++ List.replicate (acc.length - i) (0 : Int)).set i y = ((acc.take i).map (fun b => if b = true then (1 : Int) else 0) ++ [y]) ++ List.replicate (acc.length - (i + 1)) 0 := fun y => set_at hii _ (by simp; omega) y
    have hz := hs 0
    have hsame : ((acc.take i).map (fun b => if b = true then (1 : Int) else 0) ++ List.replicate (acc.length - i) (0 : Int)).set i 0 = (acc.take i).map (fun b => if b = true then (1 : Int) else 0) ++ List.replicate (acc.length - i) (0 : Int) := by
      rw [hz, show acc.length - i = (acc.length - (i + 1)) + 1 by omega, List.replicate_succ]
      simp
    have IH := ih (i + 1) (by omega)
    rw [List.take_succ_eq_append_getElem hii, List.map_append, List.map_singleton] at IH
    simp only [spec_l5Classes.l0, if_pos (show (i : Int) < (acc.length : Int) by omega), if_pos (show (0 : Int) ≤ (i : Int) by omega), rdOf_get false acc i hii]
    rw [up1 (by omega)]
    cases hb2 : acc[i] with
    | true =>
      rw [hb2] at IH
      simp only [if_true] at IH ⊢
      simp only [hlen, if_pos (show (i : Int) < (acc.length : Int) by omega), Int.toNat_natCast, hs]
      exact IH
    | false =>
      rw [hb2] at IH
      simp only [if_neg (show ¬ false = true by decide)] at IH ⊢
      rw [← hsame, hz]
      exact IH
theorem cls_ev (hf : Fits acc nx) (hb : acc.length ≤ 1000000) : Ev (fun k => spec_l5Classes.f k acc nx) (iterS nx (acc.length + 1) (cl0 acc)) := by
  have h1 := cls_l1 hf hb (acc.length + 1) 0 (cl0 acc) (by simp [cl0]) (by omega)
  have h0 := cls_l0 hf hb h1 acc.length 0 (by omega)
  refine h0.congr fun k => ?_
  simp only [spec_l5Classes.f, if_pos (show (0 : Int) ≤ (acc.length : Int) by omega), Int.toNat_natCast, if_pos (show acc.length ≤ 35184372088832 by omega)]
  simp
end
end Go.Proofs.Ytoknogcefajfiaa.Can
end
