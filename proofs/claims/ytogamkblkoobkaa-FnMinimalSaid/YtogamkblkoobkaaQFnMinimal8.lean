/- Texts of the proof of FnMinimal, put together. No condition. -/
import Derived.Test.YtogamkblkoobkaaQFnMinimal2
import Derived.Test.YtogamkblkoobkaaQFnMinimal7
import Derived.Test.YtogamkblkoobkaaQFnMinimal6
import Derived.Shelf.Abstract
import Derived.Lib.Walk
import Derived.DeepKeys4
import Derived.WideKeyPair
section
namespace Go.Proofs.Ytogamkblkoobkaa.P
open Go.RowKit Go.Proofs.YtogamkblkoobkaaW.PrintWords Go.Proofs.YtogamkblkoobkaaW.PrintLast Go.Proofs.YtogamkblkoobkaaW.PrintMore
attribute [local go_sem] max2_int min2_int max_two min_two max_three min_three max_four min_four
set_option linter.unusedVariables false
set_option linter.unusedSimpArgs false
def impl_minimized.f (l0_0 : List Bool) (l0_1 : List (List Int)) (a1 : Int) : Option (List Bool × List (List Int)) := if l0_1.length = l0_0.length ∧ l0_0.length ≤ 1100000 ∧ (∀ r ∈ l0_1, r.length = 3 ∧ ∀ q ∈ r, 0 ≤ q ∧ q < (l0_0.length : Int)) ∧ 0 ≤ a1 ∧ a1 < (l0_0.length : Int) then some (Mn.minD l0_0 l0_1 a1) else none
theorem impl_minimized.calls (A0_0 : Option Addr) (c0_0 : Nat) (l0_0 : List Bool) (A0_1 : Option Addr) (c0_1 : Nat) (l0_1 : List (List Int)) (a1 : Int) (r1 : List Bool) (r2 : List (List Int)) (w : World) (hr0_0 : Kd.C Kd.bool w A0_0 l0_0.length l0_0) (hc0_0 : l0_0.length ≤ c0_0) (hr0_1 : Kd.C (Kd.slice 3 (Kd.int .i64)) w A0_1 l0_1.length l0_1) (hc0_1 : l0_1.length ≤ c0_1) (h : impl_minimized.f l0_0 l0_1 a1 = some (r1, r2)) :
    Calls Try.prog 56 #[.agg #[.slice A0_0 l0_0.length c0_0, .slice A0_1 l0_1.length c0_1], .int .i64 a1] w fun e w' => ∃ v0_ v1_ : Value, e = .returned (.agg #[v0_, v1_]) ∧ Kd.R Kd.bool 4 w' w.heap.size (fun _ => True) v0_ r1 ∧ Kd.S (Kd.slice 3 (Kd.int .i64)) 67 w' w.heap.size (fun _ => True) v1_ r2 ∧ Below w.heap.size w w' := by
  unfold impl_minimized.f at h
  split at h
  · rename_i hp
    obtain ⟨h1, h2, h3, h4, h5⟩ := hp
    have h := Option.some.inj h
    have e1 : (Mn.minD l0_0 l0_1 a1).1 = r1 := by rw [h]
    have e2 : (Mn.minD l0_0 l0_1 a1).2 = r2 := by rw [h]
    rw [← e1, ← e2]
    exact Wk.minCalls A0_0 c0_0 l0_0 A0_1 c0_1 l0_1 a1 w hr0_0 hr0_1 h1 h2 h3 ⟨h4, h5⟩
  · cases h
end Go.Proofs.Ytogamkblkoobkaa.P
end
section
namespace Go.Proofs.Ytogamkblkoobkaa.P
open Go.RowKit Go.Proofs.YtogamkblkoobkaaW.PrintWords Go.Proofs.YtogamkblkoobkaaW.PrintLast Go.Proofs.YtogamkblkoobkaaW.PrintMore
attribute [local go_sem] max2_int min2_int max_two min_two max_three min_three max_four min_four
set_option linter.unusedVariables false
set_option linter.unusedSimpArgs false
def impl_MinimizeDfa.f (l0_0 : List Bool) (l0_1 : List (List Int)) : Option (List Bool × (List (List Int))) := (impl_IsValidDfa.f l0_0 l0_1).bind fun t675 => (if t675 = true then ((impl_minimized.f l0_0 l0_1 0).bind fun bt676 => (some (bt676.1, bt676.2))) else (some (([] : List Bool), ([] : List (List Int)))))
set_option maxHeartbeats 8000000 in
set_option maxRecDepth 100000 in
theorem impl_MinimizeDfa.calls (A0_0 : Option Addr) (c0_0 : Nat) (l0_0 : List Bool) (A0_1 : Option Addr) (c0_1 : Nat) (l0_1 : List (List Int)) (r1 : List Bool) (r2 : List (List Int)) (w : World) (hr0_0 : Kd.C Kd.bool w A0_0 l0_0.length l0_0) (hc0_0 : l0_0.length ≤ c0_0) (hr0_1 : Kd.C (Kd.slice 3 (Kd.int .i64)) w A0_1 l0_1.length l0_1) (hc0_1 : l0_1.length ≤ c0_1) (h : impl_MinimizeDfa.f l0_0 l0_1 = some (r1, r2)) :
  Calls Try.prog 29 #[.agg #[.slice A0_0 l0_0.length c0_0, .slice A0_1 l0_1.length c0_1]] w fun e w' => ∃ v0_ v1_ : Value, e = .returned (.agg #[v0_, v1_]) ∧ Kd.R Kd.bool 4 w' w.heap.size (fun _ => True) v0_ r1 ∧ Kd.S (Kd.slice 3 (Kd.int .i64)) 67 w' w.heap.size (fun _ => True) v1_ r2 ∧ Below w.heap.size w w' := by
 have hu27 := Try.underlying27
 have HR0_0 := am_ hr0_0
 have HC0_0 := am_ hc0_0
 clear hr0_0 hc0_0
 have HR0_1 := am_ hr0_1
 have HC0_1 := am_ hc0_1
 clear hr0_1 hc0_1
 have HB := am_ (Below.refl w.heap.size w)
 have H : ((impl_IsValidDfa.f l0_0 l0_1).bind fun t675 => (if t675 = true then ((impl_minimized.f l0_0 l0_1 0).bind fun bt676 => (some (bt676.1, bt676.2))) else (some (([] : List Bool), ([] : List (List Int)))))) = some (r1, r2) := h
 clear h
 replace H := Option.bind_eq_some_iff.mp H
 obtain ⟨t675, A20, H⟩ := H
 have A2 := am_ A20
 clear A20
 by_cases c3 : t675 = true
 ·subst c3
  have H1 : ((impl_minimized.f l0_0 l0_1 0).bind fun bt676 => (some (bt676.1, bt676.2))) = some (r1, r2) := by rw [if_pos rfl] at H; exact H
  clear H
  have H := H1
  clear H1
  replace H := Option.bind_eq_some_iff.mp H
  obtain ⟨⟨t676, t679⟩, A40, H⟩ := H
  replace H : (some (t676, t679)) = some (r1, r2) := H
  have A4 := am_ A40
  clear A40
  simp only [Option.some.injEq, Prod.mk.injEq] at H
  obtain ⟨rfl, rfl⟩ := H
  go_enter Try.func29, Try.ntmps29
  go_wp2_with (first | ((with_reducible refine gate_dst (N := 1) rfl ?_); refine box_event ?hg (N := 1) ?hd (cs := #[.slice A0_0 l0_0.length c0_0, .slice A0_1 l0_1.length c0_1]) (t := 27) ?hr ?_; (case hd => rfl); (case hg => rfl); (case hr => first | (go_simp; done) | (go_simp; rfl)); intro gb673 hg w5 hbox hb; replace BK673 := am_ (hbox); replace GW673 := am_ ((by rw [hg]; exact (below_size (b0_ HB.out)) : w.heap.size ≤ gb673)); replace GE673 := am_ ((by rw [hg]; exact (below_size (b0_ HB.out)) : w.heap.size ≤ gb673)); replace HB := am_ (below_step (b0_ HB.out) hb); clear hb hbox hg) | ((with_reducible refine gate_dst (N := 2) rfl ?_); refine box_event ?hg (N := 2) ?hd (cs := #[.slice none 0 0, .slice none 0 0]) (t := 27) ?hr ?_; (case hd => rfl); (case hg => rfl); (case hr => first | (go_simp; done) | (go_simp; rfl)); intro gb674 hg w6 hbox hb; have n0_ := am_ (blk_below (rb_ BK673.out) hb); have n1_ := am_ (below_step (b1_ HB.out GE673.out) hb); have n2_ := am_ (hbox); have n3_ := am_ ((by rw [hg]; exact (below_size (b1_ HB.out GE673.out)) : w.heap.size ≤ gb674)); have n4_ := am_ ((by rw [hg]; exact (below_size (b1_ HB.out GE673.out)) : w.heap.size ≤ gb674)); have n5_ := am_ ((by rw [hg]; exact Nat.ne_of_lt (blk_lt (rb_ BK673.out)) : gb673 ≠ gb674)); have n6_ := am_ ((by rw [hg]; exact Nat.ne_of_gt (blk_lt (rb_ BK673.out)) : gb674 ≠ gb673)); clear BK673; clear HB; have BK673 := n0_; have HB := n1_; have BK674 := n2_; have GW674 := n3_; have GE674 := n4_; have NB673_674 := n5_; have NB674_673 := n6_; clear n0_ n1_ n2_ n3_ n4_ n5_ n6_; clear hb hbox hg; have hnb7 := NB673_674.out; have hnc7 := NB674_673.out; have hcz8_0 : w6.cell? ⟨gb673, 0, none⟩ = some (.slice A0_0 l0_0.length c0_0) := (blk_cell BK673.out 0).trans rfl; have hcz8_1 : w6.cell? ⟨gb673, 1, none⟩ = some (.slice A0_1 l0_1.length c0_1) := (blk_cell BK673.out 1).trans rfl; have hfz8_0 := blk_frozen BK673.out 0; have hfz8_1 := blk_frozen BK673.out 1) | ((with_reducible refine gate_callee (f := 39) rfl ?_); refine gL_ (some 4) Try.func39 #[.agg #[.slice A0_0 l0_0.length c0_0, .slice A0_1 l0_1.length c0_1]] ?_; (with_reducible refine (impl_IsValidDfa.calls _ _ l0_0 _ _ l0_1 true _ ?side1 ?side2 ?side3 ?side4 A2.out).mono ?_); (case side1 => exact rc_ (Kd.C_below HR0_0.out HB.out)); (case side2 => exact HC0_0.out); (case side3 => exact rc_ (Kd.C_below HR0_1.out HB.out)); (case side4 => exact HC0_1.out); rintro e w9 ⟨rfl, hb⟩; refine ⟨_, rfl, ?_⟩; have n0_ := am_ (blk_below (rb_ BK673.out) hb); have n1_ := am_ (blk_below (rb_ BK674.out) hb); have n2_ := am_ (below_step (b2_ HB.out GE673.out GE674.out) hb); clear BK673; clear BK674; clear HB; have BK673 := n0_; have BK674 := n1_; have HB := n2_; clear n0_ n1_ n2_; (try clear hb); (try clear hb2); (try clear hk); (try clear hi); have hcz10_0 : w9.cell? ⟨gb673, 0, none⟩ = some (.slice A0_0 l0_0.length c0_0) := (blk_cell BK673.out 0).trans rfl; have hcz10_1 : w9.cell? ⟨gb673, 1, none⟩ = some (.slice A0_1 l0_1.length c0_1) := (blk_cell BK673.out 1).trans rfl; have hfz10_0 := blk_frozen BK673.out 0; have hfz10_1 := blk_frozen BK673.out 1) | ((with_reducible refine gate_callee (f := 56) rfl ?_); refine gL_ (some 8) Try.func56 #[.agg #[.slice A0_0 l0_0.length c0_0, .slice A0_1 l0_1.length c0_1], .int .i64 0] ?_; (with_reducible refine (impl_minimized.calls _ _ l0_0 _ _ l0_1 0 t676 t679 _ ?side1 ?side2 ?side3 ?side4 A4.out).mono ?_); (case side1 => exact rc_ (Kd.C_below HR0_0.out HB.out)); (case side2 => exact HC0_0.out); (case side3 => exact rc_ (Kd.C_below HR0_1.out HB.out)); (case side4 => exact HC0_1.out); rintro e w11 ⟨v677, v680, rfl, ho0, ho1, hb⟩; refine ⟨_, rfl, ?_⟩; have n0_ := am_ (Kd.R_lower ho0 (below_size (b2_ HB.out GE673.out GE674.out))); have n1_ := am_ (Kd.S_lower ho1 (below_size (b2_ HB.out GE673.out GE674.out))); have n2_ := am_ (blk_below (rb_ BK673.out) hb); have n3_ := am_ (blk_below (rb_ BK674.out) hb); have n4_ := am_ (below_step (b2_ HB.out GE673.out GE674.out) hb); clear BK673; clear BK674; clear HB; have HO678 := n0_; have HO681 := n1_; have BK673 := n2_; have BK674 := n3_; have HB := n4_; clear n0_ n1_ n2_ n3_ n4_; (try clear hb); (try clear hb2); (try clear hk); (try clear hi); (try clear ho0); (try clear ho1); obtain ⟨Ao12, co12, eo12⟩ := Kd.R_slice HO678.out; subst eo12; have hcz13_0 : w11.cell? ⟨gb674, 0, none⟩ = some (.slice none 0 0) := (blk_cell BK674.out 0).trans rfl; have hcz13_1 : w11.cell? ⟨gb674, 1, none⟩ = some (.slice none 0 0) := (blk_cell BK674.out 1).trans rfl; have hfz13_0 := blk_frozen BK674.out 0; have hfz13_1 := blk_frozen BK674.out 1; obtain ⟨Ao14, co14, eo14⟩ := Kd.S_slice HO681.out; subst eo14))
  refine bodyPost_ret (results_cell_row rfl _ _ gb674 27 #[.slice Ao12 t676.length co12, .slice Ao14 t679.length co14] (0, 0) _ rfl (by refine rb_ ?_; refine blk_put (cs := #[.slice Ao12 t676.length co12, .slice none 0 0]) ?_ 1 _ rfl; refine rb_ ?_; refine blk_put (cs := #[.slice none 0 0, .slice none 0 0]) ?_ 0 _ rfl; refine rb_ ?_; exact BK674.out) Try.underlying27 rfl (by kernel_rfl)) rfl ?_
  exact ⟨_, _, by first | rfl | (simp [errW_none, errW_some] <;> rfl) | (simp [*, errW_none, errW_some] <;> rfl), by refine rr_ ?_; exact Kd.R_mono (Kd.R_far (p := ⟨gb674, 1, none⟩) (Kd.R_far (p := ⟨gb674, 0, none⟩) (Kd.R_types HO678.out BK674.out (by decide)) (fun _ hk => hk.2) (.slice Ao12 t676.length co12)) (fun _ hk => hk.2) (.slice Ao14 t679.length co14)) (fun _ hk => trivial), by refine rs_ ?_; exact Kd.S_mono (Kd.S_far (p := ⟨gb674, 1, none⟩) (Kd.S_far (p := ⟨gb674, 0, none⟩) (Kd.S_types HO681.out BK674.out (by decide)) (fun _ hk => hk.2) (.slice Ao12 t676.length co12)) (fun _ hk => hk.2) (.slice Ao14 t679.length co14)) (fun _ hk => trivial), by repeat (first | (with_reducible first | exact HB.out | apply below_alloc | apply pw_below_drewN | apply below_drew1 | refine below_set ?_ GE673.out | refine below_set ?_ GE674.out) | exact HB.out)⟩
 ·replace c3 := Bool.eq_false_iff.mpr c3
  subst c3
  have H1 : (some (([] : List Bool), ([] : List (List Int)))) = some (r1, r2) := by rw [if_neg (show ¬ (false = true) by decide)] at H; exact H
  clear H
  have H := H1
  clear H1
  simp only [Option.some.injEq, Prod.mk.injEq] at H
  obtain ⟨rfl, rfl⟩ := H
  go_enter Try.func29, Try.ntmps29
  go_wp2_with (first | ((with_reducible refine gate_dst (N := 1) rfl ?_); refine box_event ?hg (N := 1) ?hd (cs := #[.slice A0_0 l0_0.length c0_0, .slice A0_1 l0_1.length c0_1]) (t := 27) ?hr ?_; (case hd => rfl); (case hg => rfl); (case hr => first | (go_simp; done) | (go_simp; rfl)); intro gb673 hg w15 hbox hb; replace BK673 := am_ (hbox); replace GW673 := am_ ((by rw [hg]; exact (below_size (b0_ HB.out)) : w.heap.size ≤ gb673)); replace GE673 := am_ ((by rw [hg]; exact (below_size (b0_ HB.out)) : w.heap.size ≤ gb673)); replace HB := am_ (below_step (b0_ HB.out) hb); clear hb hbox hg) | ((with_reducible refine gate_dst (N := 2) rfl ?_); refine box_event ?hg (N := 2) ?hd (cs := #[.slice none 0 0, .slice none 0 0]) (t := 27) ?hr ?_; (case hd => rfl); (case hg => rfl); (case hr => first | (go_simp; done) | (go_simp; rfl)); intro gb674 hg w16 hbox hb; have n0_ := am_ (blk_below (rb_ BK673.out) hb); have n1_ := am_ (below_step (b1_ HB.out GE673.out) hb); have n2_ := am_ (hbox); have n3_ := am_ ((by rw [hg]; exact (below_size (b1_ HB.out GE673.out)) : w.heap.size ≤ gb674)); have n4_ := am_ ((by rw [hg]; exact (below_size (b1_ HB.out GE673.out)) : w.heap.size ≤ gb674)); have n5_ := am_ ((by rw [hg]; exact Nat.ne_of_lt (blk_lt (rb_ BK673.out)) : gb673 ≠ gb674)); have n6_ := am_ ((by rw [hg]; exact Nat.ne_of_gt (blk_lt (rb_ BK673.out)) : gb674 ≠ gb673)); clear BK673; clear HB; have BK673 := n0_; have HB := n1_; have BK674 := n2_; have GW674 := n3_; have GE674 := n4_; have NB673_674 := n5_; have NB674_673 := n6_; clear n0_ n1_ n2_ n3_ n4_ n5_ n6_; clear hb hbox hg; have hnb17 := NB673_674.out; have hnc17 := NB674_673.out; have hcz18_0 : w16.cell? ⟨gb673, 0, none⟩ = some (.slice A0_0 l0_0.length c0_0) := (blk_cell BK673.out 0).trans rfl; have hcz18_1 : w16.cell? ⟨gb673, 1, none⟩ = some (.slice A0_1 l0_1.length c0_1) := (blk_cell BK673.out 1).trans rfl; have hfz18_0 := blk_frozen BK673.out 0; have hfz18_1 := blk_frozen BK673.out 1) | ((with_reducible refine gate_callee (f := 39) rfl ?_); refine gL_ (some 4) Try.func39 #[.agg #[.slice A0_0 l0_0.length c0_0, .slice A0_1 l0_1.length c0_1]] ?_; (with_reducible refine (impl_IsValidDfa.calls _ _ l0_0 _ _ l0_1 false _ ?side1 ?side2 ?side3 ?side4 A2.out).mono ?_); (case side1 => exact rc_ (Kd.C_below HR0_0.out HB.out)); (case side2 => exact HC0_0.out); (case side3 => exact rc_ (Kd.C_below HR0_1.out HB.out)); (case side4 => exact HC0_1.out); rintro e w19 ⟨rfl, hb⟩; refine ⟨_, rfl, ?_⟩; have n0_ := am_ (blk_below (rb_ BK673.out) hb); have n1_ := am_ (blk_below (rb_ BK674.out) hb); have n2_ := am_ (below_step (b2_ HB.out GE673.out GE674.out) hb); clear BK673; clear BK674; clear HB; have BK673 := n0_; have BK674 := n1_; have HB := n2_; clear n0_ n1_ n2_; (try clear hb); (try clear hb2); (try clear hk); (try clear hi); have hcz20_0 : w19.cell? ⟨gb674, 0, none⟩ = some (.slice none 0 0) := (blk_cell BK674.out 0).trans rfl; have hcz20_1 : w19.cell? ⟨gb674, 1, none⟩ = some (.slice none 0 0) := (blk_cell BK674.out 1).trans rfl; have hfz20_0 := blk_frozen BK674.out 0; have hfz20_1 := blk_frozen BK674.out 1))
  refine bodyPost_ret (results_cell_row rfl _ _ gb674 27 #[.slice none 0 0, .slice none 0 0] (0, 0) _ rfl (by refine rb_ ?_; refine blk_put (cs := #[.slice none 0 0, .slice none 0 0]) ?_ 1 _ rfl; refine rb_ ?_; refine blk_put (cs := #[.slice none 0 0, .slice none 0 0]) ?_ 0 _ rfl; refine rb_ ?_; exact BK674.out) Try.underlying27 rfl (by kernel_rfl)) rfl ?_
  exact ⟨_, _, by first | rfl | (simp [errW_none, errW_some] <;> rfl) | (simp [*, errW_none, errW_some] <;> rfl), by first | exact Kd.R_nil _ _ _ _ _ | exact Kd.N_nil _ _ _ _ _ | exact Kd.V_nil _ _ _ _ _ | exact Kd.Q_nil _ _ _ _ _ | exact Kd.S_nil _ _ _ _ _, by first | exact Kd.S_nil _ _ _ _ _ | exact Kd.N_nil _ _ _ _ _ | exact Kd.V_nil _ _ _ _ _ | exact Kd.Q_nil _ _ _ _ _ | exact Kd.R_nil _ _ _ _ _, by repeat (first | (with_reducible first | exact HB.out | apply below_alloc | apply pw_below_drewN | apply below_drew1 | refine below_set ?_ GE673.out | refine below_set ?_ GE674.out) | exact HB.out)⟩
end Go.Proofs.Ytogamkblkoobkaa.P
end
section
namespace Go.Proofs.Ytogamkblkoobkaa.Wk
open Go.RowKit Go.Shelf Go.Proofs.Ytogamkblkoobkaa.P Go.Proofs.Ytogamkblkoobkaa.Pl Go.Proofs.Ytogamkblkoobkaa.Mp Go.Proofs.Ytogamkblkoobkaa.Bf Go.Proofs.YtogamkblkoobkaaW.PrintWords Go.Proofs.YtogamkblkoobkaaW.PrintLast Go.Proofs.YtogamkblkoobkaaW.PrintMore
set_option linter.unusedVariables false
set_option linter.unusedSimpArgs false
abbrev Pr := Int × Int
def encP (x : Pr) : Value := .agg #[.int .i64 x.1, .int .i64 x.2]
abbrev wfP (x : Pr) : Prop := wfI x.1 ∧ wfI x.2
abbrev kdP : Kd Pr := Kd.pair (Kd.int .i64) (Kd.int .i64)
theorem laidOutP : laidOutB Try.prog = true := by kernel_rfl
theorem arrP : Go.WideMaps.ArrKey Try.prog 72 3 2 := ⟨Try.underlying72, by kernel_rfl, by kernel_rfl, by kernel_rfl⟩
theorem keyP (x : Pr) (h : wfP x) : ∃ l, keyOf Try.prog 72 (encP x) = some l := ⟨_, Go.WideMaps.keyOf_pair arrP Try.underlying3 ⟨Try.prog.types.size - 1, by have : 0 < Try.prog.types.size := of_decide_eq_true (by kernel_rfl); omega⟩ h.1 h.2⟩
theorem mapP : MapTy Try.prog 121 72 3 .i64 encP wfP where
  K := Go.Maps.Keyed.of_law (deep_law_laid laidOutP (m := 2) (by omega) (of_decide_eq_true (by kernel_rfl)) (by kernel_rfl) (by rw [Try.underlying72]))
  ht := Try.underlying121
  he := Try.underlying3
  hz := fun w => by kernel_rfl
  key := keyP
  inj := fun x y h => by
    unfold encP at h
    injection h with h
    have h1 := congrArg (fun z : Array Value => z[0]?) h
    have h2 := congrArg (fun z : Array Value => z[1]?) h
    simp at h1 h2
    exact Prod.ext h1 h2
theorem infoP : (Try.prog.info? 72).map (fun i => (i.zero, i.size, i.bytes)) = some (some (.agg #[.int .i64 0, .int .i64 0]), 2, 16) := by kernel_rfl
theorem cell_grown {w w' : World} {row : Option Nat} (hg : w.grownBy w' row) {a : Addr} (hlt : a.block < w.heap.size) (hne : some a.block ≠ row) {v : Value} (h : w.cell? a = some v) : w'.cell? a = some v := (World.cell?_of_block (hg.block _ hlt hne)).trans h
theorem at_pair {w : World} {A : Option Addr} {n : Nat} {xs : List Pr} (h : kdP.C w A n xs) (i : Nat) (hi : i < xs.length) (hn : n = xs.length) : ∃ ad, A = some ad ∧ w.cell? (ad.add (i * 2)) = some (.int .i64 xs[i].1) ∧ w.cell? ⟨(ad.add (i * 2)).block, (ad.add (i * 2)).off + 1, none⟩ = some (.int .i64 xs[i].2) := by
  obtain ⟨ad, c, hA, hl, hk, hc⟩ := Kd.C_get h (0, 0) (i : Int) (by omega) (by omega)
  rw [Int.toNat_natCast] at hk hc
  have e : xs.getD i (0, 0) = xs[i] := by rw [List.getD_eq_getElem?_getD, List.getElem?_eq_getElem hi]; rfl
  rw [e] at hk
  obtain ⟨c0, c1, rfl, h0, h1⟩ := hk
  have h0' : c0 = [.int .i64 xs[i].1] := h0
  have h1' : c1 = [.int .i64 xs[i].2] := h1
  subst h0'
  subst h1'
  have q0 := hc 0 _ rfl
  have q1 := hc 1 _ rfl
  refine ⟨ad, hA, q0, ?_⟩
  obtain ⟨b, o, sp⟩ := ad
  have hs : kdP.sz = 2 := rfl
  rw [hs] at q0 q1
  by_cases hi0 : i = 0
  · subst hi0
    have hsp : sp = none := by
      have := World.cell?_spot q0
      simpa [Addr.add] using this
    subst hsp
    simpa [Addr.add] using q1
  · have e1 : (⟨b, o, sp⟩ : Addr).add (i * 2) = ⟨b, o + i * 2, none⟩ := by simp [Addr.add] <;> omega
    have e2 : (⟨b, o, sp⟩ : Addr).add (i * 2 + 1) = ⟨b, o + i * 2 + 1, none⟩ := by simp [Addr.add] <;> omega
    rw [e1]
    rw [e2] at q1
    exact q1
abbrev IsMP (w : World) (b : Nat) (m : Pr → Option Int) (c : Nat) : Prop := MapIs Try.prog 72 3 .i64 encP wfP w b m c
structure MemP (w w' : World) (v6 v7 : Value) (gm : Nat) (p : St Pr) : Prop where
  list : Kd.R kdP 72 w' w.heap.size (fun _ => True) v6 p.1
  words : Kd.R Kd.string 9 w' w.heap.size (fun _ => True) v7 p.2
  map : IsMP w' gm (idx p.1) p.1.length
  bel : Below w.heap.size w w'
theorem MemP.below {w w' w2 : World} {v6 v7 : Value} {gm : Nat} {p : St Pr} (h : MemP w w' v6 v7 gm p) (hb : Below w'.heap.size w' w2) : MemP w w2 v6 v7 gm p :=
  ⟨Kd.R_below h.list hb, Kd.R_below h.words hb, h.map.below hb, below_then h.bel h.bel.size hb⟩
def T17p : Bool × List (List Nat × List Nat) := (true, [([], []), ([], []), ([], []), ([1, 2], [1, 2]), ([3], [3]), ([], []), ([], []), ([6], [6]), ([5, 7], [5, 7]), ([4, 8], [4, 8]), ([9], [9]), ([0, 10], [0, 10]), ([11, 11, 0, 1, 2, 3, 4, 5, 6, 7, 8, 9, 10, 11], [0, 1, 11])])
def B17p : List Nat := [0, 0, 0, 6, 14, 0, 0, 64, 224, 510, 1022, 2047, 4095]
theorem tab17p : rtab .any (opsOf Try.f123 17) = T17p := by kernel_rfl
theorem bits17p : waitsOk T17p.2 B17p = true := by kernel_rfl
set_option maxHeartbeats 4000000 in
set_option maxRecDepth 100000 in
theorem firstWord_pair {dom : Pr → Prop} (N : Nat) (hN : N ≤ 1000000) (good : Pr → Bool) (nx : Pr → Nat → Pr) (x0 : Pr) (g1 g2 : Nat) (lb1 lb2 : Array Value)
    (eg1 : ∀ args w, (callFunc g1 args).run Try.prog w = .ok (.enter g1 args) w) (eg2 : ∀ args w, (callFunc g2 args).run Try.prog w = .ok (.enter g2 args) w) (w : World)
    (hd0 : dom x0) (hdn : ∀ x j, dom x → j < 3 → dom (nx x j)) (hwf : ∀ x, dom x → wfP x) (hcard : ∀ s : List Pr, s.Nodup → (∀ x ∈ s, dom x) → s.length ≤ N)
    (h1 : ∀ x, dom x → ∀ W, Below w.heap.size w W → Calls Try.prog g1 (#[.agg #[.int .i64 (x).1, .int .i64 (x).2]] ++ lb1) W fun e W' => e = .returned (.bool (good x)) ∧ Below W.heap.size W W')
    (h2 : ∀ (x : Pr) (j : Nat), dom x → j < 3 → ∀ W, Below w.heap.size w W → Calls Try.prog g2 (#[.agg #[.int .i64 (x).1, .int .i64 (x).2], .int .i64 j] ++ lb2) W fun e W' => e = .returned (.agg #[.int .i64 (nx x j).1, .int .i64 (nx x j).2]) ∧ Below W.heap.size W W') :
    Calls Try.prog 123 #[.agg #[.int .i64 (x0).1, .int .i64 (x0).2], .func (.func g1) #[] lb1, .func (.func g2) #[] lb2] w fun e w' => e = .returned (.tuple #[.string (bfs good nx (N + 2) ([x0], [(⟨#[]⟩ : ByteArray)]) 0).1, .bool (bfs good nx (N + 2) ([x0], [(⟨#[]⟩ : ByteArray)]) 0).2]) ∧ Below w.heap.size w w' := by
  generalize hR : bfs good nx (N + 2) ([x0], [(⟨#[]⟩ : ByteArray)]) 0 = r
  have HR := am_ hR
  clear hR
  have H1 := am_ h1
  have H2 := am_ h2
  have HF := am_ (fit0 hd0 hcard)
  have HD := am_ hdn
  have HW := am_ hwf
  have HB := am_ (Below.refl w.heap.size w)
  have HX := am_ (hwf x0 hd0)
  clear h1 h2 hdn hcard hwf hd0
  have hu_ := am_ hN
  clear hN
  have HC0 : Aside0 (World.cell? (((w.alloc (Obj.cells #[Value.int IntKind.i64 x0.1, Value.int IntKind.i64 x0.2] 72)).alloc (Obj.cells #[Value.int IntKind.i64 x0.1, Value.int IntKind.i64 x0.2] 72)).alloc (Obj.cells #[Value.string ⟨#[]⟩] 9)) ⟨w.heap.size, 0, none⟩ = some (.int .i64 x0.1)) := ⟨pw_cell_below (below_alloc (below_alloc (Below.refl _ _) _) _) (by simp)⟩
  have HC1 : Aside0 (World.cell? (((w.alloc (Obj.cells #[Value.int IntKind.i64 x0.1, Value.int IntKind.i64 x0.2] 72)).alloc (Obj.cells #[Value.int IntKind.i64 x0.1, Value.int IntKind.i64 x0.2] 72)).alloc (Obj.cells #[Value.string ⟨#[]⟩] 9)) ⟨w.heap.size, 1, none⟩ = some (.int .i64 x0.2)) := ⟨pw_cell_below (below_alloc (below_alloc (Below.refl _ _) _) _) (by simp)⟩
  have HLW : Aside0 (Kd.R kdP 72 (((w.alloc (Obj.cells #[Value.int IntKind.i64 x0.1, Value.int IntKind.i64 x0.2] 72)).alloc (Obj.cells #[Value.int IntKind.i64 x0.1, Value.int IntKind.i64 x0.2] 72)).alloc (Obj.cells #[Value.string ⟨#[]⟩] 9)) w.heap.size (fun _ => True) (.slice (some ⟨w.heap.size + 1, 0, none⟩) 1 1) [x0]) := ⟨by
    have := R_here (okp := fun _ => True) (inner := [.int .i64 x0.1, .int .i64 x0.2]) kdP (w.alloc (Obj.cells #[Value.int IntKind.i64 x0.1, Value.int IntKind.i64 x0.2] 72)) w.heap.size 72 (xs := [x0]) (Reps.snoc (Reps.none _ _) (show Kd.M kdP _ _ _ x0 [.int .i64 x0.1, .int .i64 x0.2] from ⟨[.int .i64 x0.1], [.int .i64 x0.2], rfl, rfl, rfl⟩) rfl) (by simp) (by simp)
    have h2 := Kd.R_alloc this (Obj.cells #[Value.string ⟨#[]⟩] 9)
    simpa using h2⟩
  have HSW : Aside0 (Kd.R Kd.string 9 (((w.alloc (Obj.cells #[Value.int IntKind.i64 x0.1, Value.int IntKind.i64 x0.2] 72)).alloc (Obj.cells #[Value.int IntKind.i64 x0.1, Value.int IntKind.i64 x0.2] 72)).alloc (Obj.cells #[Value.string ⟨#[]⟩] 9)) w.heap.size (fun _ => True) (.slice (some ⟨w.heap.size + 1 + 1, 0, none⟩) 1 1) [(⟨#[]⟩ : ByteArray)]) := ⟨by
    have := R_here (okp := fun _ => True) (inner := [.string ⟨#[]⟩]) Kd.string ((w.alloc (Obj.cells #[Value.int IntKind.i64 x0.1, Value.int IntKind.i64 x0.2] 72)).alloc (Obj.cells #[Value.int IntKind.i64 x0.1, Value.int IntKind.i64 x0.2] 72)) w.heap.size 9 (xs := [(⟨#[]⟩ : ByteArray)]) (Reps.one (show Kd.M Kd.string _ _ _ (⟨#[]⟩ : ByteArray) [.string (⟨#[]⟩ : ByteArray)] from rfl) (Reps.none _ _)) (by simp; omega) (by simp)
    simpa using this⟩
  have HBW : Aside0 (Below w.heap.size w (((w.alloc (Obj.cells #[Value.int IntKind.i64 x0.1, Value.int IntKind.i64 x0.2] 72)).alloc (Obj.cells #[Value.int IntKind.i64 x0.1, Value.int IntKind.i64 x0.2] 72)).alloc (Obj.cells #[Value.string ⟨#[]⟩] 9))) := ⟨below_alloc (below_alloc (below_alloc (Below.refl w.heap.size w) _) _) _⟩
  have HSZ : Aside0 ((((w.alloc (Obj.cells #[Value.int IntKind.i64 x0.1, Value.int IntKind.i64 x0.2] 72)).alloc (Obj.cells #[Value.int IntKind.i64 x0.1, Value.int IntKind.i64 x0.2] 72)).alloc (Obj.cells #[Value.string ⟨#[]⟩] 9)).heap.size = w.heap.size + 1 + 1 + 1) := ⟨by simp⟩
  go_enter Try.func123, Try.ntmps123
  go_wp2_with (first
    | ((with_reducible refine gate_dst (N := 19) rfl ?_); refine wp_make (t := 121) (k := 72) (e := 3) (q := .i64) (enc := encP) (ok := wfP) rfl rfl ?_; intro w3 hm hb; have hm : IsMP w3 (w.heap.size + 1 + 1 + 1) (fun _ => none) 0 := HSZ.out ▸ hm; have hc0 := pw_cell_below hb HC0.out; have hc1 := pw_cell_below hb HC1.out; have HL := am_ (Kd.R_below HLW.out hb); have HS := am_ (Kd.R_below HSW.out hb); have HM := am_ hm; have HB3 := am_ (below_then HBW.out HBW.out.size hb); clear hm hb)
    | (refine wp_insert mapP rfl _ _ _ rfl _ _ _ HM.out (by unfold maxLen; omega) rfl x0 rfl HX.out 0 rfl (by decide) ?_; intro w4 hm hgr; have HM2 := am_ hm; have HG4 := am_ hgr; clear hm hgr))
  have hM0 : MemP w w4 (.slice (some ⟨w.heap.size + 1, 0, none⟩) 1 1) (.slice (some ⟨w.heap.size + 1 + 1, 0, none⟩) 1 1) (w.heap.size + 1 + 1 + 1) ([x0], [(⟨#[]⟩ : ByteArray)]) :=
    ⟨R_over_map HL.out HM.out HG4.out, R_over_map HS.out HM.out HG4.out, by have := HM2.out; rw [idx_one] at this; exact this, below_map HB3.out HG4.out (by omega)⟩
  have HMEM := am_ hM0
  have HGM : Aside0 (w.heap.size ≤ w.heap.size + 1 + 1 + 1) := ⟨by omega⟩
  clear HL HS HM HM2 HB3 HG4 hM0 HB HC0 HC1 HLW HSW HBW HSZ hc0 hc1
  generalize w.heap.size + 1 + 1 + 1 = gm at HMEM HGM ⊢
  go_loopg [8, 9, 11] (N + 2) (fun gg v8 v9 v11 wr => ∃ (p : St Pr) (i : Nat), v11 = .int .i64 (i : Int) ∧ Aside0 (i ≤ p.1.length) ∧ Aside0 (N + 2 ≤ gg + i) ∧ Aside0 (bfs good nx gg p i = r) ∧ Aside0 (Bf.Fit dom N p) ∧ Aside0 (MemP w wr v8 v9 gm p))
  case atStart => exact ⟨([x0], [(⟨#[]⟩ : ByteArray)]), 0, rfl, ⟨Nat.zero_le _⟩, ⟨by omega⟩, HR, HF, HMEM⟩
  case round =>
    clear HMEM HF HR
    obtain ⟨p, i, rfl, HI, HG, HR, HF, HMEM⟩ := hrel
    cases gk with
    | zero => exact absurd HF.out.le (by have := HI.out; have := HG.out; omega)
    | succ g =>
      obtain ⟨A8, c8, e8⟩ := Kd.R_slice HMEM.out.list
      subst e8
      obtain ⟨A9, c9, e9⟩ := Kd.R_slice HMEM.out.words
      subst e9
      by_cases hi : i < p.1.length
      · obtain ⟨ad8, ea8, hx8, hx8b⟩ := at_pair (Kd.R_reads' HMEM.out.list).2.2 i (by omega) rfl
        subst ea8
        have hl2 := HF.out.len
        obtain ⟨ad9, ea9, hx9⟩ := Kd.at_string (Kd.R_reads' HMEM.out.words).2.2 (i : Int) (by omega) (by omega)
        subst ea9
        rw [rdOf_get _ p.2 i (by omega), Int.toNat_natCast] at hx9
        have hr := HR.out
        rw [bfs, dif_pos hi] at hr
        have hdx := HF.out.all _ (List.getElem_mem hi)
        have hP1 : p.1[i]? = some p.1[i] := List.getElem?_eq_getElem hi
        have hP2 : p.2[i]? = some p.2[i] := List.getElem?_eq_getElem (by omega)
        have hsz : p.2[i].size ≤ i := by
          have := HF.out.size i
          rw [List.getD_eq_getElem?_getD, hP2] at this
          exact this
        have egd : p.2.getD i ByteArray.empty = p.2[i] := by rw [List.getD_eq_getElem?_getD, hP2]; rfl
        rw [egd] at hr
        generalize p.1[i] = x at hx8 hx8b hr hdx hP1
        generalize p.2[i] = wd at hx9 hr hP2 hsz
        have HC := am_ (H1.out x hdx)
        have HDX := am_ hdx
        have HP1 := am_ hP1
        have HP2 := am_ hP2
        have HSZ := am_ hsz
        have HL2 := am_ hl2
        clear hdx hP1 hP2 hsz egd hl2 HR
        have d1 : decide ((i : Int) < (p.1.length : Int)) = true := decide_eq_true (by omega)
        have p1 : ((0 : Int) ≤ (i : Int)) = True := eq_true (by omega)
        have q1 : ((i : Int) < (p.1.length : Int)) = True := eq_true (by omega)
        have q2 : ((i : Int) < (p.2.length : Int)) = True := eq_true (by have := HL2.out; omega)
        have HI2 := am_ hi
        clear hi
        cases hgd : good x with
        | true =>
          rw [hgd, if_pos rfl] at hr
          rw [hgd] at HC
          have HRR := am_ hr
          clear hr hgd
          go_wp2_with (go_at_fn g1; refine (HC.out _ (by exact HMEM.out.bel)).mono ?_; rintro e W1 ⟨rfl, hb⟩; have hx9 := (hb.cell (World.block_lt_of_cell? _ _ hx9)).trans hx9; have HB1 := am_ hb; clear hb)
          go_ret2
          have e1 := HRR.out
          subst e1
          exact ⟨rfl, below_then HMEM.out.bel HMEM.out.bel.size HB1.out⟩
        | false =>
          rw [hgd, if_neg (by decide)] at hr
          rw [hgd] at HC
          generalize hpf : ex nx x wd 3 0 p = pf at hr
          have HRR := am_ hr
          have HPF := am_ hpf
          clear hr hgd hpf
          go_wp2_with (go_at_fn g1; refine (HC.out _ (by exact HMEM.out.bel)).mono ?_; rintro e W1 ⟨rfl, hb⟩; have HM1 := am_ (HMEM.out.below hb); clear hb)
          clear HMEM HC hx8 hx8b hx9 q1 q2 d1
          go_loopg [8, 9, 38] 3 (fun gg v8 v9 v38 w2 => ∃ (p2 : St Pr) (j : Nat) (jz : Int), v38 = .int .i64 jz ∧ Aside0 (jz = (j : Int)) ∧ Aside0 (j ≤ 3) ∧ Aside0 (3 ≤ gg + j) ∧ Aside0 (ex nx x wd (3 - j) j p2 = pf) ∧ Aside0 (Bf.Fit dom N p2) ∧ Aside0 (p2.1[i]? = some x) ∧ Aside0 (p2.2[i]? = some wd) ∧ Aside0 (MemP w w2 v8 v9 gm p2))
          case atStart => exact ⟨p, 0, 0, rfl, ⟨rfl⟩, ⟨by omega⟩, ⟨by omega⟩, HPF, HF, HP1, HP2, HM1⟩
          case round =>
            clear HM1 HF HP1 HP2 HPF
            obtain ⟨p2, j, jz, rfl, HJZ, HJ, HGJ, HPF, HF, HP1, HP2, HMEM⟩ := hrel
            obtain ⟨A8, c8, e8⟩ := Kd.R_slice HMEM.out.list
            subst e8
            obtain ⟨A9, c9, e9⟩ := Kd.R_slice HMEM.out.words
            subst e9
            by_cases hj : j < 3
            · cases gk with
              | zero => exact absurd HGJ.out (by omega)
              | succ g3 =>
              have hl2 := HF.out.len
              have hi2 : i < p2.1.length := (List.getElem?_eq_some_iff.mp HP1.out).1
              have hx1 : p2.1[i] = x := (List.getElem?_eq_some_iff.mp HP1.out).2
              have hw1 : rdOf ByteArray.empty p2.2 i = wd := by rw [rdOf_get _ p2.2 i (by omega)]; exact (List.getElem?_eq_some_iff.mp HP2.out).2
              obtain ⟨ad8, ea8, hx8, hx8b⟩ := at_pair (Kd.R_reads' HMEM.out.list).2.2 i (by omega) rfl
              subst ea8
              rw [hx1] at hx8 hx8b
              have hle := HF.out.le
              have hc := H2.out x j HDX.out hj
              rw [← HJZ.out] at hc
              have HC := am_ hc
              clear hc
              have hdy := HD.out x j HDX.out hj
              have HWY := am_ (HW.out _ hdy)
              have hpf : ex nx x wd (3 - (j + 1)) (j + 1) (put (nx x j) (wd ++ pc j) p2) = pf := by
                have h0 := HPF.out
                rw [show 3 - j = (3 - (j + 1)) + 1 by omega, ex] at h0
                exact h0
              have hfit : Bf.Fit dom N (put (nx x j) (wd ++ pc j) p2) := fit_put HF.out hdy (by rw [ByteArray.size_append, size_pc j hj]; have := HSZ.out; omega)
              have q1 : ((i : Int) < (p2.1.length : Int)) = True := eq_true (by omega)
              have q2 : ((i : Int) < (p2.2.length : Int)) = True := eq_true (by omega)
              have hjz := HJZ.out
              have d1 : decide (jz < 3) = true := decide_eq_true (by omega)
              have HPF2 := am_ hpf
              have HFIT := am_ hfit
              have HJ3 := am_ hj
              have HI2 := am_ hi2
              have HLE := am_ hle
              have HL2 := am_ hl2
              have HW1 := am_ hw1
              have hsome := idx_some (s := p2.1) (y := nx x j)
              generalize hy : nx x j = y at HC hdy HWY hpf hfit HPF2 HFIT hsome
              have HY := am_ hy
              clear hpf hfit hdy hj hi2 hle hl2 hw1 hx1 hy HPF hjz
              by_cases hm : y ∈ p2.1
              · have ep : put y (wd ++ pc j) p2 = p2 := by unfold put; rw [if_pos hm]
                have HEP := am_ ep
                have hsome := idx_in hm
                clear ep
                go_wp2_with (first
                  | (go_at_fn g2; refine (HC.out _ (by exact HMEM.out.bel)).mono ?_; rintro e W1 ⟨rfl, hb⟩; have HM1 := am_ (HMEM.out.below hb); clear hb)
                  | ((with_reducible refine gate_dst (N := 51) rfl ?_); have HM2 := am_ (HM1.out.below (below_alloc (Below.refl _ _) (Obj.cells #[Value.int IntKind.i64 y.1, Value.int IntKind.i64 y.2] 72))); refine wp_look_ok mapP rfl _ _ rfl _ _ _ HM2.out.map rfl y rfl HWY.out ?_; rw [hsome]))
                go_roundg g3
                case measure => omega
                case rel => exact ⟨p2, j + 1, wrap64 (jz + 1), rfl, ⟨by rw [HJZ.out, up1 (by have := HJ3.out; omega)]⟩, ⟨HJ3.out⟩, ⟨by have := HGJ.out; omega⟩, ⟨by have h0 := HPF2.out; rw [HEP.out] at h0; exact h0⟩, HF, HP1, HP2, HM2⟩
              · have ep : put y (wd ++ pc j) p2 = (p2.1 ++ [y], p2.2 ++ [wd ++ pc j]) := by unfold put; rw [if_neg hm]
                have HPF3 := am_ (ep ▸ HPF2.out)
                have HFIT3 := am_ (ep ▸ HFIT.out)
                have hu := idx_upd hm
                have HU := am_ hu
                have hsome := idx_out hm
                have hjz := HJZ.out
                have hj3 := HJ3.out
                have ew : wrap64 (jz + 1) = jz + 1 := w64 (by omega) (by omega)
                have c2 : ((0 : Int) ≤ jz) = True := eq_true (by omega)
                have c3 : decide (jz ≤ wrap64 (jz + 1)) = true := decide_eq_true (by omega)
                have c3b := eq_true (of_decide_eq_true c3)
                have c4 : decide (wrap64 (jz + 1) ≤ 3) = true := decide_eq_true (by omega)
                have c4b := eq_true (of_decide_eq_true c4)
                have epc : (⟨#[97, 98, 99]⟩ : ByteArray).extract jz.toNat (wrap64 (jz + 1)).toNat = pc j := by rw [ew, hjz, pc]; congr 1
                have c5 : wd.size + ((⟨#[97, 98, 99]⟩ : ByteArray).extract jz.toNat (wrap64 (jz + 1)).toNat).size ≤ 9223372036854775807 := by rw [epc, size_pc j hj3]; have := HSZ.out; have := HI2.out; have := HLE.out; have := hu_.out; omega
                have c5a := eq_true c5
                have c5b : decide (wd.size + ((⟨#[97, 98, 99]⟩ : ByteArray).extract jz.toNat (wrap64 (jz + 1)).toNat).size ≤ 9223372036854775807) = true := decide_eq_true c5
                have c5c : (9223372036854775807 < wd.size + ((⟨#[97, 98, 99]⟩ : ByteArray).extract jz.toNat (wrap64 (jz + 1)).toNat).size) = False := eq_false (Nat.not_lt.2 c5)
                have c5d : (9223372036854775807 < wd.size + ((wrap64 (jz + 1)).toNat - jz.toNat)) = False := eq_false (by rw [ew, hjz]; have := HSZ.out; have := HI2.out; have := HLE.out; have := hu_.out; omega)
                have EPC := am_ epc
                have HLEN : Aside0 ((p2.1.length : Int) ≤ 1000000) := ⟨by have := HLE.out; have := hu_.out; omega⟩
                obtain ⟨ad9, ea9, hx9⟩ := Kd.at_string (Kd.R_reads' HMEM.out.words).2.2 (i : Int) (by omega) (by have := HL2.out; have := HI2.out; omega)
                subst ea9
                clear hx9 hm ep hu hjz hj3 ew epc c5 c3 c4
                go_wp2_with (first
                  | (go_at_fn g2; refine (HC.out _ (by exact HMEM.out.bel)).mono ?_; rintro e W1 ⟨rfl, hb⟩; have HM1 := am_ (HMEM.out.below hb); clear hb)
                  | ((with_reducible refine gate_dst (N := 51) rfl ?_); have HGN : Aside0 (gm ≠ W1.heap.size) := ⟨by have := HM1.out.map.lt; omega⟩; have HM2 := am_ (HM1.out.below (below_alloc (Below.refl _ _) (Obj.cells #[Value.int IntKind.i64 y.1, Value.int IntKind.i64 y.2] 72))); refine wp_look_ok mapP rfl _ _ rfl _ _ _ HM2.out.map rfl y rfl HWY.out ?_; rw [hsome])
                  | (at_builtin; refine Kd.R_append kdP (w0 := w) w.heap.size rfl (.tmp 60) (.tmp 62) 69 72 (.agg #[.int .i64 0, .int .i64 0]) 16 rfl Try.underlying69 infoP rfl (by decide) (by omega) (.slice (some ad8) p2.1.length c8) p2.1 y [.int .i64 y.1, .int .i64 y.2] (fun _ => True) (fun _ => False) rfl rfl ?aP (fun _ hk => hk.elim) ?aF ?aO ?aB ?aS ?aL ?_; (case aP => exact ⟨[.int .i64 y.1], [.int .i64 y.2], rfl, rfl, rfl⟩); (case aF => exact (fun _ _ => trivial)); (case aO => exact HL3.out); (case aB => exact HB3.out); (case aS => exact HB3.out.size); (case aL => have := HLEN.out; omega); intro v8n w3 ho hb hg hat; have HS4 := am_ (Kd.R_over' HS3.out (Kd.R_typed HL3.out) (by decide) hg); have HL4 := am_ ho; have HB4 := am_ hb; have HM4 := am_ (HM3.out.kept hg (HM3.out.not_row (Kd.R_typed HL3.out))); clear ho hb hg hat)
                  | (refine wp_update mapP rfl _ _ _ rfl _ _ _ HM2.out.map (by have := HLEN.out; unfold maxLen; omega) rfl y rfl HWY.out (p2.1.length : Int) rfl (by have := HLEN.out; simp [Lit.wf, IntKind.min, IntKind.max, IntKind.signed, IntKind.bits]; omega) ?_; intro w2 hm hgr; rw [HU.out, if_neg (by rw [hsome]; decide)] at hm; have hcy0 := cell_grown hgr (a := ⟨W1.heap.size, 0, none⟩) (by simp) (fun h_ => HGN.out (Option.some.inj h_).symm) (v := .int .i64 y.1) (by simp); have hcy1 := cell_grown hgr (a := ⟨W1.heap.size, 1, none⟩) (by simp) (fun h_ => HGN.out (Option.some.inj h_).symm) (v := .int .i64 y.2) (by simp); have HL3 := am_ (R_over_map HM2.out.list HM2.out.map hgr); have HS3 := am_ (R_over_map HM2.out.words HM2.out.map hgr); have HB3 := am_ (below_map HM2.out.bel hgr HGM.out); have HM3 := am_ hm; clear hm hgr))
                have HS5 := am_ (Kd.R_drew HS4.out)
                have HL5 := am_ (Kd.R_drew HL4.out)
                have HB5 := am_ (below_drew1 HB4.out)
                have HM5 := am_ (HM4.out.below (below_drew1 (Below.refl _ _)))
                clear HS4 HL4 HB4 HM4 HL3 HS3 HB3 HM3 HM1 HM2
                obtain ⟨ad9', ea9, hx9⟩ := Kd.at_string (Kd.R_reads' HS5.out).2.2 (i : Int) (by omega) (by have := HL2.out; have := HI2.out; omega)
                cases ea9
                rw [HW1.out, Int.toNat_natCast] at hx9
                refine start_ (n := 13) (S := (fun w' => w'.cell? (ad9.add i) = some (.string wd))) (ds := [10, 11]) (bl 13 0) (by kernel_rfl) rfl rfl (hx9) (fun hHeld => ?_); refine with_tabW tab17p bits17p (fun HT_ HW_ => ?_)
                generalize w3.drew = w4 at HS5 HL5 HB5 HM5 hx9 hHeld ⊢
                refine ph_ 0 64 (bl 13 1) HT_ ?_
                refine ph_ 1 65 (bl 13 3) HT_ ?_
                refine ph_ 2 66 (bl 13 7) HT_ ?_
                refine ph_ 3 67 (bl 13 15) HT_ ?_
                refine ph_ 5 69 (bl 13 47) HT_ ?_
                refine ph_ 6 70 (bl 13 111) HT_ ?_
                refine ph_ 7 71 (bl 13 239) HT_ ?_
                refine ph_ 8 72 (bl 13 495) HT_ ?_
                refine th_ 4 68 (bl 13 511) HT_ HW_ hHeld ?_
                refine ph_ 9 73 (bl 13 1023) HT_ ?_
                refine last_ (i := 10) (N := some 74) (bl 13 2047) rfl rfl (one_of HT_.out (by kernel_rfl)) (by decide) (fun K hK => ?_)
                refine value_ (w1 := ?_) (v := ?_) (by rfl) rfl ?_ ?_
                rotate_left 2
                · go_simp
                  constructor
                  · rfl
                  · rfl
                refine hK.out _ _ ?_
                clear hK K
                refine norm_ (a' := ?_) ?_ ?_
                rotate_left
                · show Act.put _ (some 74) _ = _
                  simp only [Act.put, List.setIfInBounds_toArray, List.set_cons_zero, List.set_cons_succ, i64_w, i32_w]
                  rfl
                refine last_ (i := 11) (N := some 75) (bl 13 4095) rfl rfl (one_of HT_.out (by kernel_rfl)) (by decide) (fun K hK => ?_)
                refine Kd.R_append_step Kd.string (w0 := w) w.heap.size (by rfl) (.tmp 64) (.tmp 74) 52 9 (.string ⟨#[]⟩) 16 rfl Try.underlying52 info9 rfl (by decide) (by omega) (.slice (some ad9) p2.2.length c9) p2.2 (wd ++ ((⟨#[97, 98, 99]⟩ : ByteArray).extract jz.toNat (wrap64 (jz + 1)).toNat)) [.string (wd ++ ((⟨#[97, 98, 99]⟩ : ByteArray).extract jz.toNat (wrap64 (jz + 1)).toNat))] (fun _ => True) (fun _ => False) rfl rfl ?aP (fun _ hk => hk.elim) ?aF ?aO ?aB ?aS ?aL ?_
                (case aP => exact rfl)
                (case aF => exact (fun _ _ => trivial))
                (case aO => exact HS5.out)
                (case aB => exact HB5.out)
                (case aS => exact HB5.out.size)
                (case aL => have := HLEN.out; have := HL2.out; omega)
                intro v9n w5 ho hb hg hat
                rw [EPC.out] at ho
                have HMN : Aside0 (MemP w w5 v8n v9n gm (p2.1 ++ [y], p2.2 ++ [wd ++ pc j])) := ⟨⟨Kd.R_over' HL5.out (Kd.R_typed HS5.out) (by decide) hg, ho, by have h0 := HM5.out.kept hg (HM5.out.not_row (Kd.R_typed HS5.out)); rw [List.length_append]; exact h0, hb⟩⟩
                clear ho hb hg hat HS5 HL5 HB5 HM5
                refine hK.out _ _ ?_
                clear hK K
                refine norm_ (a' := ?_) ?_ ?_
                rotate_left
                · show Act.put _ (some 75) _ = _
                  simp only [Act.put, List.setIfInBounds_toArray, List.set_cons_zero, List.set_cons_succ, i64_w, i32_w]
                  rfl
                refine ph_ 12 9 (bl 13 8191) HT_ ?_
                refine done_ (done_of HT_.out (by kernel_rfl)) ?_
                go_wp2
                go_roundg g3
                case measure => omega
                case rel => exact ⟨(p2.1 ++ [y], p2.2 ++ [wd ++ pc j]), j + 1, wrap64 (jz + 1), rfl, ⟨by rw [HJZ.out, up1 (by have := HJ3.out; omega)]⟩, ⟨HJ3.out⟩, ⟨by have := HGJ.out; omega⟩, HPF3, HFIT3, ⟨by rw [List.getElem?_append_left HI2.out]; exact HP1.out⟩, ⟨by rw [List.getElem?_append_left (by have := HL2.out; have := HI2.out; omega)]; exact HP2.out⟩, HMN⟩
            · have ej : j = 3 := by have := HJ.out; omega
              subst ej
              have ejz := HJZ.out
              subst ejz
              have d3 : decide (((3 : Nat) : Int) < 3) = false := by decide
              go_wp2
              go_roundg g
              case measure => omega
              case rel => exact ⟨p2, i + 1, by rw [up1 (by have := (List.getElem?_eq_some_iff.mp HP1.out).1; have := HF.out.le; have := hu_.out; omega)], ⟨(List.getElem?_eq_some_iff.mp HP1.out).1⟩, ⟨by have := HG.out; omega⟩, ⟨by have h0 := HPF.out; rw [show 3 - 3 = 0 from rfl, ex] at h0; rw [h0]; exact HRR.out⟩, HF, HMEM⟩
      · have hr := HR.out
        rw [bfs, dif_neg hi] at hr
        subst hr
        have d1 : decide ((i : Int) < (p.1.length : Int)) = false := decide_eq_false (by omega)
        go_wp2
        go_ret2
        exact ⟨rfl, HMEM.out.bel⟩
end Go.Proofs.Ytogamkblkoobkaa.Wk
end
section
namespace Go.Proofs.Ytogamkblkoobkaa.Wk
open Go.RowKit Go.Shelf Go.Proofs.Ytogamkblkoobkaa.P Go.Proofs.Ytogamkblkoobkaa.Pl Go.Proofs.Ytogamkblkoobkaa.Mp Go.Proofs.Ytogamkblkoobkaa.Bf Go.Proofs.YtogamkblkoobkaaW.PrintWords Go.Proofs.YtogamkblkoobkaaW.PrintLast Go.Proofs.YtogamkblkoobkaaW.PrintMore
set_option linter.unusedVariables false
set_option linter.unusedSimpArgs false
section
variable {P : Program} {md : Region.Mode} {ops : Array Oper} {Q : Exit → Act → World → Prop}
theorem goesFn_ {oi : Oper} {N : Option Tmp} {a : Act} {w : World} {K : Act → World → Prop} (g : FuncId) (lb : Array Value) (t : Operand) {ar : Array Operand} {ts : Array TypeId} (args : Array Value) (eg : ∀ args w, (callFunc g args).run P w = .ok (.enter g args) w)
    (hw : Region.wanted oi (yielded ops a.tmps) = true) (hN : oi.dst = N) (hop : oi.op = .call { callee := .value t, args := ar, argTypes := ts }) (ht : a.eval t = .func (.func g) #[] lb) (hargs : ar.map a.eval = args)
    (h : Calls P g (args ++ lb) w fun e w' => ∃ v, e = .returned v ∧ K (a.put N v) w') : if Region.wanted oi (yielded ops a.tmps) = true then Oper.wp P oi a w K Q else K (a.put N undef) w := by
  refine call_ g (args ++ lb) hw hN ?_ h
  unfold execOp
  simp [hop, resolve, Deferred.ofValue, invoke, ht, hargs, eg]
end
def Tg1 : Bool × List (List Nat × List Nat) := (true, [([], []), ([], []), ([1], [1]), ([], []), ([3], [3]), ([2, 4], [2, 4]), ([5], [5]), ([], []), ([7], [7]), ([], []), ([9], [9]), ([8, 10], [8, 10]), ([11], [11]), ([0, 6, 12], [0, 6, 12]), ([13, 13, 0, 1, 2, 3, 4, 5, 6, 7, 8, 9, 10, 11, 12, 13], [13])])
def Bg1 : List Nat := [0, 0, 2, 0, 8, 30, 62, 0, 128, 0, 512, 1920, 3968, 8191, 16383]
theorem tabg1 : rtab .any (opsOf Try.f124 1) = Tg1 := by kernel_rfl
theorem bitsg1 : waitsOk Tg1.2 Bg1 = true := by kernel_rfl
def Tn1 : Bool × List (List Nat × List Nat) := (true, [([], []), ([0], [0]), ([], []), ([2], [2]), ([1, 3], [1, 3]), ([4], [4]), ([], []), ([5, 6], [5, 6]), ([7], [7]), ([], []), ([9], [9]), ([], []), ([11], [11]), ([10, 12], [10, 12]), ([13], [13]), ([], []), ([14, 15], [14, 15]), ([16], [16]), ([8, 17], [8, 17]), ([18, 0, 1, 2, 3, 4, 5, 6, 7, 8, 9, 10, 11, 12, 13, 14, 15, 16, 17, 18], [18])])
def Bn1 : List Nat := [0, 1, 0, 4, 15, 31, 0, 127, 255, 0, 512, 0, 2048, 7680, 15872, 0, 65024, 130560, 262143, 524287]
theorem tabn1 : rtab .any (opsOf Try.f125 1) = Tn1 := by kernel_rfl
theorem bitsn1 : waitsOk Tn1.2 Bn1 = true := by kernel_rfl
set_option maxHeartbeats 4000000 in
set_option maxRecDepth 100000 in
theorem fpGood (A0 : Option Addr) (c0 : Nat) (l0 : List Bool) (A1 : Option Addr) (c1 : Nat) (l1 : List Bool) (G Ga Gb gg : Nat) (good : Bool → Bool → Bool) (egg : ∀ args w, (callFunc gg args).run Try.prog w = .ok (.enter gg args) w)
    (hgood : ∀ (p q : Bool) (W : World), Calls Try.prog gg #[.bool p, .bool q] W fun e W' => e = .returned (.bool (good p q)) ∧ W = W') (x : Pr) (W : World)
    (hx0 : 0 ≤ x.1) (hx1 : x.1 < l0.length) (hy0 : 0 ≤ x.2) (hy1 : x.2 < l1.length) (hG : W.cell? ⟨G, 0, none⟩ = some (.func (.func gg) #[] #[])) (ha : W.cell? ⟨Ga, 0, none⟩ = some (.slice A0 l0.length c0)) (hb : W.cell? ⟨Gb, 0, none⟩ = some (.slice A1 l1.length c1))
    (hr0 : Kd.C Kd.bool W A0 l0.length l0) (hr1 : Kd.C Kd.bool W A1 l1.length l1) :
    Calls Try.prog 124 (#[.agg #[.int .i64 x.1, .int .i64 x.2]] ++ #[.pointer (some ⟨G, 0, none⟩), .pointer (some ⟨Ga, 0, none⟩), .pointer (some ⟨Gb, 0, none⟩)]) W fun e W' => e = .returned (.bool (good (rdOf false l0 x.1) (rdOf false l1 x.2))) ∧ Below W.heap.size W W' := by
  obtain ⟨a0, rfl, hu⟩ := Kd.at_bool hr0 x.1 hx0 hx1
  obtain ⟨a1, rfl, hv⟩ := Kd.at_bool hr1 x.2 hy0 hy1
  generalize rdOf false l0 x.1 = u at hu ⊢
  generalize rdOf false l1 x.2 = v at hv ⊢
  have HB := am_ (below_alloc (Below.refl W.heap.size W) (Obj.cells #[Value.int IntKind.i64 x.1, Value.int IntKind.i64 x.2] 72))
  have kG := pw_cell_below HB.out hG
  have ka := pw_cell_below HB.out ha
  have kb := pw_cell_below HB.out hb
  have ku := pw_cell_below HB.out hu
  have kv := pw_cell_below HB.out hv
  have p1 := eq_true hx0
  have q1 := eq_true hx1
  have p2 := eq_true hy0
  have q2 := eq_true hy1
  clear hx0 hx1 hy0 hy1 hr0 hr1 hG ha hb hu hv
  go_enter Try.func124, Try.ntmps124
  go_wp2
  have s0 : World.cell? (W.alloc (Obj.cells #[Value.int IntKind.i64 x.1, Value.int IntKind.i64 x.2] 72)) ⟨W.heap.size, 0, none⟩ = some (.int .i64 x.1) := by simp
  have s1 : World.cell? (W.alloc (Obj.cells #[Value.int IntKind.i64 x.1, Value.int IntKind.i64 x.2] 72)) ⟨W.heap.size, 1, none⟩ = some (.int .i64 x.2) := by simp
  have HBD := am_ (below_drew HB.out)
  refine start_ (n := 15) (S := (fun w' => w'.cell? ⟨G, 0, none⟩ = some (.func (.func gg) #[] #[]) ∧ w'.cell? ⟨Ga, 0, none⟩ = some (.slice (some a0) l0.length c0) ∧ w'.cell? ⟨Gb, 0, none⟩ = some (.slice (some a1) l1.length c1) ∧ w'.cell? ⟨W.heap.size, 0, none⟩ = some (.int .i64 x.1) ∧ w'.cell? ⟨W.heap.size, 1, none⟩ = some (.int .i64 x.2) ∧ w'.cell? (a0.add x.1.toNat) = some (.bool u) ∧ w'.cell? (a1.add x.2.toNat) = some (.bool v))) (ds := [13]) (bl 15 0) (by kernel_rfl) rfl rfl (⟨kG, ka, kb, s0, s1, ku, kv⟩) (fun hHeld => ?_); refine with_tabW tabg1 bitsg1 (fun HT_ HW_ => ?_)
  generalize World.drew (W.alloc (Obj.cells #[Value.int IntKind.i64 x.1, Value.int IntKind.i64 x.2] 72)) = W1 at HBD hHeld ⊢
  refine ph_ 1 7 (bl 15 2) HT_ ?_
  refine ph_ 3 9 (bl 15 10) HT_ ?_
  refine ph_ 7 13 (bl 15 138) HT_ ?_
  refine ph_ 9 15 (bl 15 650) HT_ ?_
  refine th_ 0 6 (bl 15 651) HT_ HW_ hHeld ?_
  refine th_ 2 8 (bl 15 655) HT_ HW_ hHeld ?_
  refine th_ 4 10 (bl 15 671) HT_ HW_ hHeld ?_
  refine ph_ 5 11 (bl 15 703) HT_ ?_
  refine th_ 6 12 (bl 15 767) HT_ HW_ hHeld ?_
  refine th_ 8 14 (bl 15 1023) HT_ HW_ hHeld ?_
  refine th_ 10 16 (bl 15 2047) HT_ HW_ hHeld ?_
  refine ph_ 11 17 (bl 15 4095) HT_ ?_
  refine th_ 12 18 (bl 15 8191) HT_ HW_ hHeld ?_
  refine last_ (i := 13) (N := some 19) (bl 15 16383) rfl rfl (one_of HT_.out (by kernel_rfl)) (by decide) (fun K hK => ?_)
  refine goesFn_ gg #[] (.tmp 6) #[.bool u, .bool v] egg (by rfl) rfl (by rfl) (by rfl) (by (try simp only [List.map_toArray, List.map_cons, List.map_nil]); first | done | rfl) ?_
  refine (hgood u v _).mono ?_
  rintro e W2 ⟨rfl, rfl⟩
  refine ⟨_, rfl, ?_⟩
  refine hK.out _ _ ?_
  clear hK K
  refine norm_ (a' := ?_) ?_ ?_
  rotate_left
  · show Act.put _ (some 19) _ = _
    simp only [Act.put, List.setIfInBounds_toArray, List.set_cons_zero, List.set_cons_succ, i64_w, i32_w]
    rfl
  refine ph_ 14 5 (bl 15 32767) HT_ ?_
  refine done_ (done_of HT_.out (by kernel_rfl)) ?_
  go_wp2
  go_ret
  exact ⟨rfl, HBD.out⟩
set_option maxRecDepth 100000 in
set_option maxHeartbeats 4000000 in
theorem fpNext (A0 : Option Addr) (c0 : Nat) (l0 : List (List Int)) (A1 : Option Addr) (c1 : Nat) (l1 : List (List Int)) (Ga Gb : Nat) (x : Pr) (j : Nat) (W : World)
    (hx0 : 0 ≤ x.1) (hx1 : x.1 < l0.length) (hy0 : 0 ≤ x.2) (hy1 : x.2 < l1.length) (hj0 : j < (l0.getD x.1.toNat []).length) (hj1 : j < (l1.getD x.2.toNat []).length) (ha : W.cell? ⟨Ga, 1, none⟩ = some (.slice A0 l0.length c0)) (hb : W.cell? ⟨Gb, 1, none⟩ = some (.slice A1 l1.length c1))
    (hr0 : Kd.C (Kd.slice 3 (Kd.int .i64)) W A0 l0.length l0) (hr1 : Kd.C (Kd.slice 3 (Kd.int .i64)) W A1 l1.length l1) :
    Calls Try.prog 125 (#[.agg #[.int .i64 x.1, .int .i64 x.2], .int .i64 j] ++ #[.pointer (some ⟨Ga, 0, none⟩), .pointer (some ⟨Gb, 0, none⟩)]) W fun e W' => e = .returned (.agg #[.int .i64 (nxD l0 x.1 j), .int .i64 (nxD l1 x.2 j)]) ∧ Below W.heap.size W W' := by
  obtain ⟨a0, rfl, hcell0⟩ := cellsRows hr0 (by omega)
  obtain ⟨Aj0, cj0, hu, hrow0⟩ := hcell0 x.1.toNat (by omega)
  obtain ⟨a1, rfl, hcell1⟩ := cellsRows hr1 (by omega)
  obtain ⟨Aj1, cj1, hv, hrow1⟩ := hcell1 x.2.toNat (by omega)
  unfold nxD
  generalize l0.getD x.1.toNat [] = row0 at hj0 hu hrow0 ⊢
  generalize l1.getD x.2.toNat [] = row1 at hj1 hv hrow1 ⊢
  obtain ⟨b0, rfl, hs⟩ := Kd.at_int hrow0 (j : Int) (by omega) (by omega)
  obtain ⟨b1, rfl, ht⟩ := Kd.at_int hrow1 (j : Int) (by omega) (by omega)
  generalize rd row0 j = y0 at hs ⊢
  generalize rd row1 j = y1 at ht ⊢
  rw [Int.toNat_natCast] at hs ht
  have p1 := eq_true hx0
  have q1 := eq_true hx1
  have p2 := eq_true hy0
  have q2 := eq_true hy1
  have p3 : ((0 : Int) ≤ (j : Int)) = True := eq_true (by omega)
  have q3 : ((j : Int) < (row0.length : Int)) = True := eq_true (by omega)
  have q4 : ((j : Int) < (row1.length : Int)) = True := eq_true (by omega)
  have HB := am_ (below_alloc (below_alloc (Below.refl W.heap.size W) (Obj.cells #[Value.int IntKind.i64 x.1, Value.int IntKind.i64 x.2] 72)) (Obj.cells #[Value.int IntKind.i64 0, Value.int IntKind.i64 0] 72))
  have ka := pw_cell_below HB.out ha
  have kb := pw_cell_below HB.out hb
  have ku := pw_cell_below HB.out hu
  have kv := pw_cell_below HB.out hv
  have ks := pw_cell_below HB.out hs
  have kt := pw_cell_below HB.out ht
  clear hx0 hx1 hy0 hy1 hr0 hr1 ha hb hu hv hs ht hcell0 hcell1 hrow0 hrow1 hj0 hj1
  go_enter Try.func125, Try.ntmps125
  go_wp2
  have s0 : World.cell? ((W.alloc (Obj.cells #[Value.int IntKind.i64 x.1, Value.int IntKind.i64 x.2] 72)).alloc (Obj.cells #[Value.int IntKind.i64 0, Value.int IntKind.i64 0] 72)) ⟨W.heap.size, 0, none⟩ = some (.int .i64 x.1) := pw_cell_below (below_alloc (Below.refl _ _) _) (by simp)
  have s1 : World.cell? ((W.alloc (Obj.cells #[Value.int IntKind.i64 x.1, Value.int IntKind.i64 x.2] 72)).alloc (Obj.cells #[Value.int IntKind.i64 0, Value.int IntKind.i64 0] 72)) ⟨W.heap.size, 1, none⟩ = some (.int .i64 x.2) := pw_cell_below (below_alloc (Below.refl _ _) _) (by simp)
  have HBD := am_ (below_drew HB.out)
  refine start_ (n := 20) (S := (fun w' => w'.cell? ⟨Ga, 1, none⟩ = some (.slice (some a0) l0.length c0) ∧ w'.cell? ⟨Gb, 1, none⟩ = some (.slice (some a1) l1.length c1) ∧ w'.cell? ⟨W.heap.size, 0, none⟩ = some (.int .i64 x.1) ∧ w'.cell? ⟨W.heap.size, 1, none⟩ = some (.int .i64 x.2) ∧ w'.cell? (a0.add x.1.toNat) = some (.slice (some b0) row0.length cj0) ∧ w'.cell? (a1.add x.2.toNat) = some (.slice (some b1) row1.length cj1) ∧ w'.cell? (b0.add j) = some (.int .i64 y0) ∧ w'.cell? (b1.add j) = some (.int .i64 y1))) (ds := [19]) (bl 20 0) (by kernel_rfl) rfl rfl (⟨ka, kb, s0, s1, ku, kv, ks, kt⟩) (fun hHeld => ?_); refine with_tabW tabn1 bitsn1 (fun HT_ HW_ => ?_)
  refine ph_ 0 7 (bl 20 1) HT_ ?_
  refine ph_ 2 9 (bl 20 5) HT_ ?_
  refine ph_ 6 13 (bl 20 69) HT_ ?_
  refine ph_ 9 16 (bl 20 581) HT_ ?_
  refine ph_ 11 18 (bl 20 2629) HT_ ?_
  refine ph_ 15 22 (bl 20 35397) HT_ ?_
  refine th_ 1 8 (bl 20 35399) HT_ HW_ hHeld ?_
  refine th_ 3 10 (bl 20 35407) HT_ HW_ hHeld ?_
  refine ph_ 4 11 (bl 20 35423) HT_ ?_
  refine th_ 5 12 (bl 20 35455) HT_ HW_ hHeld ?_
  refine ph_ 7 14 (bl 20 35583) HT_ ?_
  refine th_ 8 15 (bl 20 35839) HT_ HW_ hHeld ?_
  refine th_ 10 17 (bl 20 36863) HT_ HW_ hHeld ?_
  refine th_ 12 19 (bl 20 40959) HT_ HW_ hHeld ?_
  refine ph_ 13 20 (bl 20 49151) HT_ ?_
  refine th_ 14 21 (bl 20 65535) HT_ HW_ hHeld ?_
  refine ph_ 16 23 (bl 20 131071) HT_ ?_
  refine th_ 17 24 (bl 20 262143) HT_ HW_ hHeld ?_
  refine ph_ 18 25 (bl 20 524287) HT_ ?_
  refine last_ (i := 19) (N := none) (bl 20 1048575) rfl rfl (one_of HT_.out (by kernel_rfl)) (by decide) (fun K hK => ?_)
  refine skip_ (w1 := ?_) (by rfl) rfl ?_ ?_
  rotate_left
  · go_simp
    rfl
  refine hK.out _ _ ?_
  clear hK K
  refine done_ (done_of HT_.out (by kernel_rfl)) ?_
  clear HT_ HW_ hHeld ka kb ku kv ks kt s0 s1 HBD
  go_wp2
  refine bodyPost_ret (v := .agg #[.int .i64 y0, .int .i64 y1]) (by simp [results, Try.results125, go_sem]) rfl ⟨rfl, ?_⟩
  exact below_drew (below_alloc (below_alloc (Below.refl _ _) _) _)
def nxP (l1 m1 : List (List Int)) (x : Pr) (j : Nat) : Pr := (nxD l1 x.1 j, nxD m1 x.2 j)
def gdP (good : Bool → Bool → Bool) (l0 m0 : List Bool) (x : Pr) : Bool := good (rdOf false l0 x.1) (rdOf false m0 x.2)
def fpR (good : Bool → Bool → Bool) (l0 : List Bool) (l1 : List (List Int)) (m0 : List Bool) (m1 : List (List Int)) : ByteArray × Bool :=
  if validD l0 l1 = true ∧ validD m0 m1 = true then bfs (gdP good l0 m0) (nxP l1 m1) 1602 ([((0 : Int), (0 : Int))], [(⟨#[]⟩ : ByteArray)]) 0 else (⟨#[]⟩, false)
theorem card_pairs (n m : Nat) (s : List Pr) (hn : s.Nodup) (h : ∀ x ∈ s, (0 ≤ x.1 ∧ x.1 < n) ∧ 0 ≤ x.2 ∧ x.2 < m) : s.length ≤ n * m := by
  have h1 := nodup_le s ((List.range (n * m)).map fun (i : Nat) => (((i / m : Nat) : Int), ((i % m : Nat) : Int))) hn (fun x hx => by
    obtain ⟨⟨a1, a2⟩, b1, b2⟩ := h x hx
    obtain ⟨p, hp⟩ := Int.eq_ofNat_of_zero_le a1
    obtain ⟨q, hq⟩ := Int.eq_ofNat_of_zero_le b1
    have hq2 : q < m := by omega
    have hp2 : p < n := by omega
    refine List.mem_map.mpr ⟨p * m + q, List.mem_range.mpr ?_, ?_⟩
    · calc p * m + q < p * m + m := by omega
        _ = (p + 1) * m := by rw [Nat.succ_mul]
        _ ≤ n * m := Nat.mul_le_mul_right m hp2
    · have e1 : (p * m + q) / m = p := by rw [Nat.mul_comm, Nat.mul_add_div (by omega), Nat.div_eq_of_lt hq2, Nat.add_zero]
      have e2 : (p * m + q) % m = q := by rw [Nat.mul_comm, Nat.mul_add_mod, Nat.mod_eq_of_lt hq2]
      rw [e1, e2]
      exact Prod.ext hp.symm hq.symm)
  simpa using h1
set_option maxHeartbeats 800000 in
set_option maxRecDepth 100000 in
theorem fpCalls (A0 : Option Addr) (c0 : Nat) (l0 : List Bool) (A1 : Option Addr) (c1 : Nat) (l1 : List (List Int)) (B0 : Option Addr) (d0 : Nat) (m0 : List Bool) (B1 : Option Addr) (d1 : Nat) (m1 : List (List Int)) (gg : Nat) (good : Bool → Bool → Bool) (egg : ∀ args w, (callFunc gg args).run Try.prog w = .ok (.enter gg args) w)
    (hgood : ∀ (p q : Bool) (W : World), Calls Try.prog gg #[.bool p, .bool q] W fun e W' => e = .returned (.bool (good p q)) ∧ W = W') (w : World) (hr0 : Kd.C Kd.bool w A0 l0.length l0) (hr1 : Kd.C (Kd.slice 3 (Kd.int .i64)) w A1 l1.length l1) (hs0 : Kd.C Kd.bool w B0 m0.length m0) (hs1 : Kd.C (Kd.slice 3 (Kd.int .i64)) w B1 m1.length m1) :
    Calls Try.prog 89 #[.agg #[.slice A0 l0.length c0, .slice A1 l1.length c1], .agg #[.slice B0 m0.length d0, .slice B1 m1.length d1], .func (.func gg) #[] #[]] w fun e w' => e = .returned (.tuple #[.string (fpR good l0 l1 m0 m1).1, .bool (fpR good l0 l1 m0 m1).2]) ∧ Below w.heap.size w w' := by
  have hu := Try.underlying27
  have HV := am_ (fun W (hb : Below w.heap.size w W) => validCalls A0 c0 l0 A1 c1 l1 W (Kd.C_below hr0 hb) (Kd.C_below hr1 hb))
  have HV2 := am_ (fun W (hb : Below w.heap.size w W) => validCalls B0 d0 m0 B1 d1 m1 W (Kd.C_below hs0 hb) (Kd.C_below hs1 hb))
  have HB0 := am_ (below_alloc (below_alloc (below_alloc (Below.refl w.heap.size w) (Obj.cells #[.slice A0 l0.length c0, .slice A1 l1.length c1] 27)) (Obj.cells #[.slice B0 m0.length d0, .slice B1 m1.length d1] 27)) (Obj.cells #[.func (.func gg) #[] #[]] 101))
  have KA0 : Aside0 (World.cell? (((w.alloc (Obj.cells #[.slice A0 l0.length c0, .slice A1 l1.length c1] 27)).alloc (Obj.cells #[.slice B0 m0.length d0, .slice B1 m1.length d1] 27)).alloc (Obj.cells #[.func (.func gg) #[] #[]] 101)) ⟨w.heap.size, 0, none⟩ = some (.slice A0 l0.length c0)) := ⟨pw_cell_below (below_alloc (below_alloc (Below.refl _ _) _) _) (by simp)⟩
  have KA1 : Aside0 (World.cell? (((w.alloc (Obj.cells #[.slice A0 l0.length c0, .slice A1 l1.length c1] 27)).alloc (Obj.cells #[.slice B0 m0.length d0, .slice B1 m1.length d1] 27)).alloc (Obj.cells #[.func (.func gg) #[] #[]] 101)) ⟨w.heap.size, 1, none⟩ = some (.slice A1 l1.length c1)) := ⟨pw_cell_below (below_alloc (below_alloc (Below.refl _ _) _) _) (by simp)⟩
  have KB0 : Aside0 (World.cell? (((w.alloc (Obj.cells #[.slice A0 l0.length c0, .slice A1 l1.length c1] 27)).alloc (Obj.cells #[.slice B0 m0.length d0, .slice B1 m1.length d1] 27)).alloc (Obj.cells #[.func (.func gg) #[] #[]] 101)) ⟨w.heap.size + 1, 0, none⟩ = some (.slice B0 m0.length d0)) := ⟨pw_cell_below (below_alloc (Below.refl _ _) _) (by simp)⟩
  have KB1 : Aside0 (World.cell? (((w.alloc (Obj.cells #[.slice A0 l0.length c0, .slice A1 l1.length c1] 27)).alloc (Obj.cells #[.slice B0 m0.length d0, .slice B1 m1.length d1] 27)).alloc (Obj.cells #[.func (.func gg) #[] #[]] 101)) ⟨w.heap.size + 1, 1, none⟩ = some (.slice B1 m1.length d1)) := ⟨pw_cell_below (below_alloc (Below.refl _ _) _) (by simp)⟩
  have KG0 : Aside0 (World.cell? (((w.alloc (Obj.cells #[.slice A0 l0.length c0, .slice A1 l1.length c1] 27)).alloc (Obj.cells #[.slice B0 m0.length d0, .slice B1 m1.length d1] 27)).alloc (Obj.cells #[.func (.func gg) #[] #[]] 101)) ⟨w.heap.size + 1 + 1, 0, none⟩ = some (.func (.func gg) #[] #[])) := ⟨by rw [show w.heap.size + 1 + 1 = Array.size (World.heap ((w.alloc (Obj.cells #[.slice A0 l0.length c0, .slice A1 l1.length c1] 27)).alloc (Obj.cells #[.slice B0 m0.length d0, .slice B1 m1.length d1] 27))) from by simp] <;> first | exact (blk_cell (blk_new _ _) 0).trans rfl | skip⟩
  cases hv : validD l0 l1 with
  | false =>
    rw [hv] at HV
    have e : fpR good l0 l1 m0 m1 = (⟨#[]⟩, false) := by unfold fpR; rw [hv]; rfl
    rw [e]
    clear hv e hr0 hr1 hs0 hs1 HV2 hgood egg
    go_enter Try.func89, Try.ntmps89
    go_wp2_with (go_at_call 39; refine (HV.out _ (by exact HB0.out)).mono ?_; rintro e w' ⟨rfl, hb⟩; have HB := am_ hb; clear hb)
    go_ret2
    exact ⟨rfl, below_then HB0.out HB0.out.size HB.out⟩
  | true =>
    rw [hv] at HV
    cases hv2 : validD m0 m1 with
    | false =>
      rw [hv2] at HV2
      have e : fpR good l0 l1 m0 m1 = (⟨#[]⟩, false) := by unfold fpR; rw [if_neg]; rintro ⟨_, h⟩; rw [hv2] at h; cases h
      rw [e]
      clear hv hv2 e hr0 hr1 hs0 hs1 hgood egg
      go_enter Try.func89, Try.ntmps89
      go_wp2_with (first | (go_at_call 39; (with_reducible refine (HV.out _ ?hq0).mono ?_); (case hq0 => exact HB0.out); rintro e w1 ⟨rfl, hb⟩; have ha0 := pw_cell_below hb KB0.out; have ha1 := pw_cell_below hb KB1.out; have HB := am_ (below_then HB0.out HB0.out.size hb); clear hb) | (go_at_call 39; (with_reducible refine (HV2.out _ ?hq1).mono ?_); (case hq1 => exact HB.out); rintro e w2 ⟨rfl, hb⟩; have HB2 := am_ hb; clear hb))
      go_ret2
      exact ⟨rfl, below_then HB.out HB.out.size HB2.out⟩
    | true =>
      rw [hv2] at HV2
      obtain ⟨n1, n2, n3, n4⟩ := validD_facts hv
      obtain ⟨k1, k2, k3, k4⟩ := validD_facts hv2
      have e : fpR good l0 l1 m0 m1 = bfs (gdP good l0 m0) (nxP l1 m1) 1602 ([((0 : Int), (0 : Int))], [(⟨#[]⟩ : ByteArray)]) 0 := by unfold fpR; rw [if_pos ⟨hv, hv2⟩]
      rw [e]
      have hrow : ∀ x : Int, 0 ≤ x ∧ x < l0.length → (l1.getD x.toNat []).length = 3 ∧ ∀ q ∈ l1.getD x.toNat [], 0 ≤ q ∧ q < l0.length := fun x hx => by
        have hlt : x.toNat < l1.length := by omega
        rw [List.getD_eq_getElem?_getD, List.getElem?_eq_getElem hlt]
        exact n4 _ (List.getElem_mem hlt)
      have hrow2 : ∀ x : Int, 0 ≤ x ∧ x < m0.length → (m1.getD x.toNat []).length = 3 ∧ ∀ q ∈ m1.getD x.toNat [], 0 ≤ q ∧ q < m0.length := fun x hx => by
        have hlt : x.toNat < m1.length := by omega
        rw [List.getD_eq_getElem?_getD, List.getElem?_eq_getElem hlt]
        exact k4 _ (List.getElem_mem hlt)
      have HFW := am_ (fun (Ga Gb G : Nat) (W : World) (hb : Below w.heap.size w W) (h0 : W.cell? ⟨Ga, 0, none⟩ = some (.slice A0 l0.length c0)) (h1 : W.cell? ⟨Ga, 1, none⟩ = some (.slice A1 l1.length c1)) (h2 : W.cell? ⟨Gb, 0, none⟩ = some (.slice B0 m0.length d0)) (h3 : W.cell? ⟨Gb, 1, none⟩ = some (.slice B1 m1.length d1)) (h4 : W.cell? ⟨G, 0, none⟩ = some (.func (.func gg) #[] #[])) =>
        firstWord_pair (dom := fun x => (0 ≤ x.1 ∧ x.1 < (l0.length : Int)) ∧ 0 ≤ x.2 ∧ x.2 < (m0.length : Int)) 1600 (by omega) (gdP good l0 m0) (nxP l1 m1) ((0 : Int), (0 : Int)) 124 125 #[.pointer (some ⟨G, 0, none⟩), .pointer (some ⟨Ga, 0, none⟩), .pointer (some ⟨Gb, 0, none⟩)] #[.pointer (some ⟨Ga, 0, none⟩), .pointer (some ⟨Gb, 0, none⟩)] (enters_of Try.func124 (by kernel_rfl) rfl) (enters_of Try.func125 (by kernel_rfl) rfl) W
          ⟨⟨by show (0 : Int) ≤ 0; omega, by show (0 : Int) < _; omega⟩, by show (0 : Int) ≤ 0; omega, by show (0 : Int) < _; omega⟩ (fun x j hx hj => by
            obtain ⟨r1, r2⟩ := hrow x.1 hx.1
            obtain ⟨r3, r4⟩ := hrow2 x.2 hx.2
            refine ⟨?_, ?_⟩
            · show 0 ≤ nxD l1 x.1 j ∧ nxD l1 x.1 j < _
              unfold nxD
              rw [rd_get _ _ (by omega)]
              exact r2 _ (List.getElem_mem _)
            · show 0 ≤ nxD m1 x.2 j ∧ nxD m1 x.2 j < _
              unfold nxD
              rw [rd_get _ _ (by omega)]
              exact r4 _ (List.getElem_mem _)) (fun x hx => by
            obtain ⟨⟨x1, x2⟩, x3, x4⟩ := hx
            exact ⟨by simp [wfI, Lit.wf, IntKind.min, IntKind.max, IntKind.signed, IntKind.bits]; omega, by simp [wfI, Lit.wf, IntKind.min, IntKind.max, IntKind.signed, IntKind.bits]; omega⟩) (fun s hn hs => Nat.le_trans (card_pairs l0.length m0.length s hn hs) (Nat.le_trans (Nat.mul_le_mul n2 k2) (by omega)))
          (fun x hx W' hb' => fpGood A0 c0 l0 B0 d0 m0 G Ga Gb gg good egg hgood x W' hx.1.1 hx.1.2 hx.2.1 hx.2.2 (pw_cell_below hb' h4) (pw_cell_below hb' h0) (pw_cell_below hb' h2) (Kd.C_below (Kd.C_below hr0 hb) hb') (Kd.C_below (Kd.C_below hs0 hb) hb'))
          (fun x j hx hj W' hb' => fpNext A1 c1 l1 B1 d1 m1 Ga Gb x j W' hx.1.1 (by have := hx.1.2; omega) hx.2.1 (by have := hx.2.2; omega) (by rw [(hrow x.1 hx.1).1]; exact hj) (by rw [(hrow2 x.2 hx.2).1]; exact hj) (pw_cell_below hb' h1) (pw_cell_below hb' h3) (Kd.C_below (Kd.C_below hr1 hb) hb') (Kd.C_below (Kd.C_below hs1 hb) hb')))
      clear hv hv2 e hr0 hr1 hs0 hs1 n1 n2 n3 n4 k1 k2 k3 k4 hrow hrow2 hgood egg
      go_enter Try.func89, Try.ntmps89
      go_wp2_with (first | (go_at_call 39; (with_reducible refine (HV.out _ ?hq0).mono ?_); (case hq0 => exact HB0.out); rintro e w1 ⟨rfl, hb⟩; have ha0 := pw_cell_below hb KB0.out; have ha1 := pw_cell_below hb KB1.out; have hz0 := am_ (pw_cell_below hb KA0.out); have hz1 := am_ (pw_cell_below hb KA1.out); have hz2 := am_ (pw_cell_below hb KG0.out); have HB := am_ (below_then HB0.out HB0.out.size hb); clear hb) | (go_at_call 39; (with_reducible refine (HV2.out _ ?hq1).mono ?_); (case hq1 => exact HB.out); rintro e w2 ⟨rfl, hb⟩; have HA0 := am_ (pw_cell_below hb ha0); have HA1 := am_ (pw_cell_below hb ha1); have HZ0 := am_ (pw_cell_below hb hz0.out); have HZ1 := am_ (pw_cell_below hb hz1.out); have HZ2 := am_ (pw_cell_below hb hz2.out); have HB2 := am_ (below_then HB.out HB.out.size hb); clear hb) | (go_at_call 123; refine (HFW.out w.heap.size (w.heap.size + 1) (w.heap.size + 1 + 1) _ HB2.out HZ0.out HZ1.out HA0.out HA1.out HZ2.out).mono ?_; rintro e w3 ⟨rfl, hb⟩; have HB3 := am_ hb; clear hb))
      go_ret2
      exact ⟨rfl, below_then HB2.out HB2.out.size HB3.out⟩
theorem dwGood (p q : Bool) (W : World) : Calls Try.prog 90 #[.bool p, .bool q] W fun e W' => e = .returned (.bool (p != q)) ∧ W = W' := by
  cases p <;> cases q
  all_goals
    go_enter Try.func90, Try.ntmps90
    go_wp2
    go_ret
    exact ⟨rfl, rfl⟩
set_option maxHeartbeats 800000 in
theorem dwCalls (A0 : Option Addr) (c0 : Nat) (l0 : List Bool) (A1 : Option Addr) (c1 : Nat) (l1 : List (List Int)) (B0 : Option Addr) (d0 : Nat) (m0 : List Bool) (B1 : Option Addr) (d1 : Nat) (m1 : List (List Int)) (w : World) (hr0 : Kd.C Kd.bool w A0 l0.length l0) (hr1 : Kd.C (Kd.slice 3 (Kd.int .i64)) w A1 l1.length l1) (hs0 : Kd.C Kd.bool w B0 m0.length m0) (hs1 : Kd.C (Kd.slice 3 (Kd.int .i64)) w B1 m1.length m1) :
    Calls Try.prog 30 #[.agg #[.slice A0 l0.length c0, .slice A1 l1.length c1], .agg #[.slice B0 m0.length d0, .slice B1 m1.length d1]] w fun e w' => e = .returned (.tuple #[.string (fpR (fun p q => p != q) l0 l1 m0 m1).1, .bool (fpR (fun p q => p != q) l0 l1 m0 m1).2]) ∧ Below w.heap.size w w' := by
  have hu := Try.underlying27
  have HF := am_ (fun W (hb : Below w.heap.size w W) => fpCalls A0 c0 l0 A1 c1 l1 B0 d0 m0 B1 d1 m1 90 (fun p q => p != q) (enters_of Try.func90 (by kernel_rfl) rfl) dwGood W (Kd.C_below hr0 hb) (Kd.C_below hr1 hb) (Kd.C_below hs0 hb) (Kd.C_below hs1 hb))
  have HB0 := am_ (below_alloc (below_alloc (Below.refl w.heap.size w) (Obj.cells #[.slice A0 l0.length c0, .slice A1 l1.length c1] 27)) (Obj.cells #[.slice B0 m0.length d0, .slice B1 m1.length d1] 27))
  clear hr0 hr1 hs0 hs1
  generalize fpR (fun p q => p != q) l0 l1 m0 m1 = r at HF ⊢
  go_enter Try.func30, Try.ntmps30
  go_wp2_with (go_at_call 89; refine (HF.out _ (by exact HB0.out)).mono ?_; rintro e w' ⟨rfl, hb⟩; have HB := am_ hb; clear hb)
  go_ret2
  exact ⟨rfl, below_then HB0.out HB0.out.size HB.out⟩
end Go.Proofs.Ytogamkblkoobkaa.Wk
end
section
namespace Go.Proofs.Ytogamkblkoobkaa.P
open Go.RowKit Go.Proofs.YtogamkblkoobkaaW.PrintWords Go.Proofs.YtogamkblkoobkaaW.PrintLast Go.Proofs.YtogamkblkoobkaaW.PrintMore
attribute [local go_sem] max2_int min2_int max_two min_two max_three min_three max_four min_four
set_option linter.unusedVariables false
set_option linter.unusedSimpArgs false
def impl_DifferWord.f (l0_0 : List Bool) (l0_1 : List (List Int)) (l1_0 : List Bool) (l1_1 : List (List Int)) : Option (ByteArray × Bool) := some (Wk.fpR (fun p q => p != q) l0_0 l0_1 l1_0 l1_1)
theorem impl_DifferWord.calls (A0_0 : Option Addr) (c0_0 : Nat) (l0_0 : List Bool) (A0_1 : Option Addr) (c0_1 : Nat) (l0_1 : List (List Int)) (A1_0 : Option Addr) (c1_0 : Nat) (l1_0 : List Bool) (A1_1 : Option Addr) (c1_1 : Nat) (l1_1 : List (List Int)) (r1 : ByteArray) (r2 : Bool) (w : World) (hr0_0 : Kd.C Kd.bool w A0_0 l0_0.length l0_0) (hc0_0 : l0_0.length ≤ c0_0) (hr0_1 : Kd.C (Kd.slice 3 (Kd.int .i64)) w A0_1 l0_1.length l0_1) (hc0_1 : l0_1.length ≤ c0_1) (hr1_0 : Kd.C Kd.bool w A1_0 l1_0.length l1_0) (hc1_0 : l1_0.length ≤ c1_0) (hr1_1 : Kd.C (Kd.slice 3 (Kd.int .i64)) w A1_1 l1_1.length l1_1) (hc1_1 : l1_1.length ≤ c1_1) (h : impl_DifferWord.f l0_0 l0_1 l1_0 l1_1 = some (r1, r2)) :
    Calls Try.prog 30 #[.agg #[.slice A0_0 l0_0.length c0_0, .slice A0_1 l0_1.length c0_1], .agg #[.slice A1_0 l1_0.length c1_0, .slice A1_1 l1_1.length c1_1]] w fun e w' => e = .returned (.tuple #[.string r1, .bool r2]) ∧ Below w.heap.size w w' := by
  have h := Option.some.inj h
  have e1 : (Wk.fpR (fun p q => p != q) l0_0 l0_1 l1_0 l1_1).1 = r1 := by rw [h]
  have e2 : (Wk.fpR (fun p q => p != q) l0_0 l0_1 l1_0 l1_1).2 = r2 := by rw [h]
  rw [← e1, ← e2]
  exact Wk.dwCalls A0_0 c0_0 l0_0 A0_1 c0_1 l0_1 A1_0 c1_0 l1_0 A1_1 c1_1 l1_1 w hr0_0 hr0_1 hr1_0 hr1_1
end Go.Proofs.Ytogamkblkoobkaa.P
end
