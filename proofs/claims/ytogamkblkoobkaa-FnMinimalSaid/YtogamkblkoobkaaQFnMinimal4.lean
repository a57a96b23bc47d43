/- Texts of the proof of FnMinimal, put together. No condition. -/
import Derived.Test.YtogamkblkoobkaaQFnMinimal2
import Derived.Test.YtogamkblkoobkaaQFnMinimal3
section
namespace Go.Proofs.Ytogamkblkoobkaa.P
open Go.RowKit Go.Proofs.YtogamkblkoobkaaW.PrintWords Go.Proofs.YtogamkblkoobkaaW.PrintLast Go.Proofs.YtogamkblkoobkaaW.PrintMore
attribute [local go_sem] max2_int min2_int max_two min_two max_three min_three max_four min_four
set_option linter.unusedVariables false
set_option linter.unusedSimpArgs false
def spec_MinimizeDfa.f (k : Nat) (l0_0 : List Bool) (l0_1 : List (List Int)) : Option (List Bool × (List (List Int))) := (spec_IsValidDfa.f k l0_0 l0_1).bind fun t181 => (if t181 = true then ((spec_l5Minimal.f k l0_0 l0_1).bind fun bt182 => (some (bt182.1, bt182.2))) else (some (([] : List Bool), ([] : List (List Int)))))
theorem spec_MinimizeDfa.mono : ∀ a0 a1 k, LeO (spec_MinimizeDfa.f k a0 a1) (spec_MinimizeDfa.f (k + 1) a0 a1) := by
 intro a0 a1 k
 unfold spec_MinimizeDfa.f
 repeat' first
   | (with_reducible exact spec_IsValidDfa.mono _ _ _)
   | (with_reducible exact spec_l5Minimal.mono _ _ _)
   | (with_reducible exact LeO.refl _)
   | (with_reducible exact LeO.none _)
   | (with_reducible refine LeO.ite ?_ ?_)
   | (with_reducible refine LeO.bind ?_ (fun _ => ?_))
   | exact spec_IsValidDfa.mono _ _ _
   | exact spec_l5Minimal.mono _ _ _
   | exact LeO.none _
   | refine LeO.ite ?_ ?_
   | refine LeO.bind ?_ (fun _ => ?_)
set_option maxHeartbeats 8000000 in
set_option maxRecDepth 100000 in
theorem spec_MinimizeDfa.calls (k : Nat) (A0_0 : Option Addr) (c0_0 : Nat) (l0_0 : List Bool) (A0_1 : Option Addr) (c0_1 : Nat) (l0_1 : List (List Int)) (r1 : List Bool) (r2 : List (List Int)) (w : World) (hr0_0 : Kd.C Kd.bool w A0_0 l0_0.length l0_0) (hc0_0 : l0_0.length ≤ c0_0) (hr0_1 : Kd.C (Kd.slice 3 (Kd.int .i64)) w A0_1 l0_1.length l0_1) (hc0_1 : l0_1.length ≤ c0_1) (h : spec_MinimizeDfa.f k l0_0 l0_1 = some (r1, r2)) :
  Calls Try.prog 33 #[.agg #[.slice A0_0 l0_0.length c0_0, .slice A0_1 l0_1.length c0_1]] w fun e w' => ∃ v0_ v1_ : Value, e = .returned (.agg #[v0_, v1_]) ∧ Kd.R Kd.bool 4 w' w.heap.size (fun _ => True) v0_ r1 ∧ Kd.S (Kd.slice 3 (Kd.int .i64)) 67 w' w.heap.size (fun _ => True) v1_ r2 ∧ Below w.heap.size w w' := by
 have hu27 := Try.underlying27
 have HR0_0 := am_ hr0_0
 have HC0_0 := am_ hc0_0
 clear hr0_0 hc0_0
 have HR0_1 := am_ hr0_1
 have HC0_1 := am_ hc0_1
 clear hr0_1 hc0_1
 have HB := am_ (Below.refl w.heap.size w)
 have H : ((spec_IsValidDfa.f k l0_0 l0_1).bind fun t181 => (if t181 = true then ((spec_l5Minimal.f k l0_0 l0_1).bind fun bt182 => (some (bt182.1, bt182.2))) else (some (([] : List Bool), ([] : List (List Int)))))) = some (r1, r2) := h
 clear h
 replace H := Option.bind_eq_some_iff.mp H
 obtain ⟨t181, A20, H⟩ := H
 have A2 := am_ A20
 clear A20
 by_cases c3 : t181 = true
 ·subst c3
  have H1 : ((spec_l5Minimal.f k l0_0 l0_1).bind fun bt182 => (some (bt182.1, bt182.2))) = some (r1, r2) := by rw [if_pos rfl] at H; exact H
  clear H
  have H := H1
  clear H1
  replace H := Option.bind_eq_some_iff.mp H
  obtain ⟨⟨t182, t185⟩, A40, H⟩ := H
  replace H : (some (t182, t185)) = some (r1, r2) := H
  have A4 := am_ A40
  clear A40
  simp only [Option.some.injEq, Prod.mk.injEq] at H
  obtain ⟨rfl, rfl⟩ := H
  go_enter Try.func33, Try.ntmps33
  go_wp2_with (first | ((with_reducible refine gate_dst (N := 1) rfl ?_); refine box_event ?hg (N := 1) ?hd (cs := #[.slice A0_0 l0_0.length c0_0, .slice A0_1 l0_1.length c0_1]) (t := 27) ?hr ?_; (case hd => rfl); (case hg => rfl); (case hr => first | (go_simp; done) | (go_simp; rfl)); intro gb179 hg w5 hbox hb; replace BK179 := am_ (hbox); replace GW179 := am_ ((by rw [hg]; exact (below_size (b0_ HB.out)) : w.heap.size ≤ gb179)); replace GE179 := am_ ((by rw [hg]; exact (below_size (b0_ HB.out)) : w.heap.size ≤ gb179)); replace HB := am_ (below_step (b0_ HB.out) hb); clear hb hbox hg) | ((with_reducible refine gate_dst (N := 2) rfl ?_); refine box_event ?hg (N := 2) ?hd (cs := #[.slice none 0 0, .slice none 0 0]) (t := 27) ?hr ?_; (case hd => rfl); (case hg => rfl); (case hr => first | (go_simp; done) | (go_simp; rfl)); intro gb180 hg w6 hbox hb; have n0_ := am_ (blk_below (rb_ BK179.out) hb); have n1_ := am_ (below_step (b1_ HB.out GE179.out) hb); have n2_ := am_ (hbox); have n3_ := am_ ((by rw [hg]; exact (below_size (b1_ HB.out GE179.out)) : w.heap.size ≤ gb180)); have n4_ := am_ ((by rw [hg]; exact (below_size (b1_ HB.out GE179.out)) : w.heap.size ≤ gb180)); have n5_ := am_ ((by rw [hg]; exact Nat.ne_of_lt (blk_lt (rb_ BK179.out)) : gb179 ≠ gb180)); have n6_ := am_ ((by rw [hg]; exact Nat.ne_of_gt (blk_lt (rb_ BK179.out)) : gb180 ≠ gb179)); clear BK179; clear HB; have BK179 := n0_; have HB := n1_; have BK180 := n2_; have GW180 := n3_; have GE180 := n4_; have NB179_180 := n5_; have NB180_179 := n6_; clear n0_ n1_ n2_ n3_ n4_ n5_ n6_; clear hb hbox hg; have hnb7 := NB179_180.out; have hnc7 := NB180_179.out; have hcz8_0 : w6.cell? ⟨gb179, 0, none⟩ = some (.slice A0_0 l0_0.length c0_0) := (blk_cell BK179.out 0).trans rfl; have hcz8_1 : w6.cell? ⟨gb179, 1, none⟩ = some (.slice A0_1 l0_1.length c0_1) := (blk_cell BK179.out 1).trans rfl; have hfz8_0 := blk_frozen BK179.out 0; have hfz8_1 := blk_frozen BK179.out 1) | ((with_reducible refine gate_callee (f := 35) rfl ?_); refine gL_ (some 4) Try.func35 #[.agg #[.slice A0_0 l0_0.length c0_0, .slice A0_1 l0_1.length c0_1]] ?_; (with_reducible refine (spec_IsValidDfa.calls k _ _ l0_0 _ _ l0_1 true _ ?side1 ?side2 ?side3 ?side4 A2.out).mono ?_); (case side1 => exact rc_ (Kd.C_below HR0_0.out HB.out)); (case side2 => exact HC0_0.out); (case side3 => exact rc_ (Kd.C_below HR0_1.out HB.out)); (case side4 => exact HC0_1.out); rintro e w9 ⟨rfl, hb⟩; refine ⟨_, rfl, ?_⟩; have n0_ := am_ (blk_below (rb_ BK179.out) hb); have n1_ := am_ (blk_below (rb_ BK180.out) hb); have n2_ := am_ (below_step (b2_ HB.out GE179.out GE180.out) hb); clear BK179; clear BK180; clear HB; have BK179 := n0_; have BK180 := n1_; have HB := n2_; clear n0_ n1_ n2_; (try clear hb); (try clear hb2); (try clear hk); (try clear hi); have hcz10_0 : w9.cell? ⟨gb179, 0, none⟩ = some (.slice A0_0 l0_0.length c0_0) := (blk_cell BK179.out 0).trans rfl; have hcz10_1 : w9.cell? ⟨gb179, 1, none⟩ = some (.slice A0_1 l0_1.length c0_1) := (blk_cell BK179.out 1).trans rfl; have hfz10_0 := blk_frozen BK179.out 0; have hfz10_1 := blk_frozen BK179.out 1) | ((with_reducible refine gate_callee (f := 94) rfl ?_); refine gL_ (some 8) Try.func94 #[.agg #[.slice A0_0 l0_0.length c0_0, .slice A0_1 l0_1.length c0_1]] ?_; (with_reducible refine (spec_l5Minimal.calls k _ _ l0_0 _ _ l0_1 t182 t185 _ ?side1 ?side2 ?side3 ?side4 A4.out).mono ?_); (case side1 => exact rc_ (Kd.C_below HR0_0.out HB.out)); (case side2 => exact HC0_0.out); (case side3 => exact rc_ (Kd.C_below HR0_1.out HB.out)); (case side4 => exact HC0_1.out); rintro e w11 ⟨v183, v186, rfl, ho0, ho1, hb⟩; refine ⟨_, rfl, ?_⟩; have n0_ := am_ (Kd.R_lower ho0 (below_size (b2_ HB.out GE179.out GE180.out))); have n1_ := am_ (Kd.S_lower ho1 (below_size (b2_ HB.out GE179.out GE180.out))); have n2_ := am_ (blk_below (rb_ BK179.out) hb); have n3_ := am_ (blk_below (rb_ BK180.out) hb); have n4_ := am_ (below_step (b2_ HB.out GE179.out GE180.out) hb); clear BK179; clear BK180; clear HB; have HO184 := n0_; have HO187 := n1_; have BK179 := n2_; have BK180 := n3_; have HB := n4_; clear n0_ n1_ n2_ n3_ n4_; (try clear hb); (try clear hb2); (try clear hk); (try clear hi); (try clear ho0); (try clear ho1); obtain ⟨Ao12, co12, eo12⟩ := Kd.R_slice HO184.out; subst eo12; have hcz13_0 : w11.cell? ⟨gb180, 0, none⟩ = some (.slice none 0 0) := (blk_cell BK180.out 0).trans rfl; have hcz13_1 : w11.cell? ⟨gb180, 1, none⟩ = some (.slice none 0 0) := (blk_cell BK180.out 1).trans rfl; have hfz13_0 := blk_frozen BK180.out 0; have hfz13_1 := blk_frozen BK180.out 1; obtain ⟨Ao14, co14, eo14⟩ := Kd.S_slice HO187.out; subst eo14))
  refine bodyPost_ret (results_cell_row rfl _ _ gb180 27 #[.slice Ao12 t182.length co12, .slice Ao14 t185.length co14] (0, 0) _ rfl (by refine rb_ ?_; refine blk_put (cs := #[.slice Ao12 t182.length co12, .slice none 0 0]) ?_ 1 _ rfl; refine rb_ ?_; refine blk_put (cs := #[.slice none 0 0, .slice none 0 0]) ?_ 0 _ rfl; refine rb_ ?_; exact BK180.out) Try.underlying27 rfl (by kernel_rfl)) rfl ?_
  exact ⟨_, _, by first | rfl | (simp [errW_none, errW_some] <;> rfl) | (simp [*, errW_none, errW_some] <;> rfl), by refine rr_ ?_; exact Kd.R_mono (Kd.R_far (p := ⟨gb180, 1, none⟩) (Kd.R_far (p := ⟨gb180, 0, none⟩) (Kd.R_types HO184.out BK180.out (by decide)) (fun _ hk => hk.2) (.slice Ao12 t182.length co12)) (fun _ hk => hk.2) (.slice Ao14 t185.length co14)) (fun _ hk => trivial), by refine rs_ ?_; exact Kd.S_mono (Kd.S_far (p := ⟨gb180, 1, none⟩) (Kd.S_far (p := ⟨gb180, 0, none⟩) (Kd.S_types HO187.out BK180.out (by decide)) (fun _ hk => hk.2) (.slice Ao12 t182.length co12)) (fun _ hk => hk.2) (.slice Ao14 t185.length co14)) (fun _ hk => trivial), by repeat (first | (with_reducible first | exact HB.out | apply below_alloc | apply pw_below_drewN | apply below_drew1 | refine below_set ?_ GE179.out | refine below_set ?_ GE180.out) | exact HB.out)⟩
 ·replace c3 := Bool.eq_false_iff.mpr c3
  subst c3
  have H1 : (some (([] : List Bool), ([] : List (List Int)))) = some (r1, r2) := by rw [if_neg (show ¬ (false = true) by decide)] at H; exact H
  clear H
  have H := H1
  clear H1
  simp only [Option.some.injEq, Prod.mk.injEq] at H
  obtain ⟨rfl, rfl⟩ := H
  go_enter Try.func33, Try.ntmps33
  go_wp2_with (first | ((with_reducible refine gate_dst (N := 1) rfl ?_); refine box_event ?hg (N := 1) ?hd (cs := #[.slice A0_0 l0_0.length c0_0, .slice A0_1 l0_1.length c0_1]) (t := 27) ?hr ?_; (case hd => rfl); (case hg => rfl); (case hr => first | (go_simp; done) | (go_simp; rfl)); intro gb179 hg w15 hbox hb; replace BK179 := am_ (hbox); replace GW179 := am_ ((by rw [hg]; exact (below_size (b0_ HB.out)) : w.heap.size ≤ gb179)); replace GE179 := am_ ((by rw [hg]; exact (below_size (b0_ HB.out)) : w.heap.size ≤ gb179)); replace HB := am_ (below_step (b0_ HB.out) hb); clear hb hbox hg) | ((with_reducible refine gate_dst (N := 2) rfl ?_); refine box_event ?hg (N := 2) ?hd (cs := #[.slice none 0 0, .slice none 0 0]) (t := 27) ?hr ?_; (case hd => rfl); (case hg => rfl); (case hr => first | (go_simp; done) | (go_simp; rfl)); intro gb180 hg w16 hbox hb; have n0_ := am_ (blk_below (rb_ BK179.out) hb); have n1_ := am_ (below_step (b1_ HB.out GE179.out) hb); have n2_ := am_ (hbox); have n3_ := am_ ((by rw [hg]; exact (below_size (b1_ HB.out GE179.out)) : w.heap.size ≤ gb180)); have n4_ := am_ ((by rw [hg]; exact (below_size (b1_ HB.out GE179.out)) : w.heap.size ≤ gb180)); have n5_ := am_ ((by rw [hg]; exact Nat.ne_of_lt (blk_lt (rb_ BK179.out)) : gb179 ≠ gb180)); have n6_ := am_ ((by rw [hg]; exact Nat.ne_of_gt (blk_lt (rb_ BK179.out)) : gb180 ≠ gb179)); clear BK179; clear HB; have BK179 := n0_; have HB := n1_; have BK180 := n2_; have GW180 := n3_; have GE180 := n4_; have NB179_180 := n5_; have NB180_179 := n6_; clear n0_ n1_ n2_ n3_ n4_ n5_ n6_; clear hb hbox hg; have hnb17 := NB179_180.out; have hnc17 := NB180_179.out; have hcz18_0 : w16.cell? ⟨gb179, 0, none⟩ = some (.slice A0_0 l0_0.length c0_0) := (blk_cell BK179.out 0).trans rfl; have hcz18_1 : w16.cell? ⟨gb179, 1, none⟩ = some (.slice A0_1 l0_1.length c0_1) := (blk_cell BK179.out 1).trans rfl; have hfz18_0 := blk_frozen BK179.out 0; have hfz18_1 := blk_frozen BK179.out 1) | ((with_reducible refine gate_callee (f := 35) rfl ?_); refine gL_ (some 4) Try.func35 #[.agg #[.slice A0_0 l0_0.length c0_0, .slice A0_1 l0_1.length c0_1]] ?_; (with_reducible refine (spec_IsValidDfa.calls k _ _ l0_0 _ _ l0_1 false _ ?side1 ?side2 ?side3 ?side4 A2.out).mono ?_); (case side1 => exact rc_ (Kd.C_below HR0_0.out HB.out)); (case side2 => exact HC0_0.out); (case side3 => exact rc_ (Kd.C_below HR0_1.out HB.out)); (case side4 => exact HC0_1.out); rintro e w19 ⟨rfl, hb⟩; refine ⟨_, rfl, ?_⟩; have n0_ := am_ (blk_below (rb_ BK179.out) hb); have n1_ := am_ (blk_below (rb_ BK180.out) hb); have n2_ := am_ (below_step (b2_ HB.out GE179.out GE180.out) hb); clear BK179; clear BK180; clear HB; have BK179 := n0_; have BK180 := n1_; have HB := n2_; clear n0_ n1_ n2_; (try clear hb); (try clear hb2); (try clear hk); (try clear hi); have hcz20_0 : w19.cell? ⟨gb180, 0, none⟩ = some (.slice none 0 0) := (blk_cell BK180.out 0).trans rfl; have hcz20_1 : w19.cell? ⟨gb180, 1, none⟩ = some (.slice none 0 0) := (blk_cell BK180.out 1).trans rfl; have hfz20_0 := blk_frozen BK180.out 0; have hfz20_1 := blk_frozen BK180.out 1))
  refine bodyPost_ret (results_cell_row rfl _ _ gb180 27 #[.slice none 0 0, .slice none 0 0] (0, 0) _ rfl (by refine rb_ ?_; refine blk_put (cs := #[.slice none 0 0, .slice none 0 0]) ?_ 1 _ rfl; refine rb_ ?_; refine blk_put (cs := #[.slice none 0 0, .slice none 0 0]) ?_ 0 _ rfl; refine rb_ ?_; exact BK180.out) Try.underlying27 rfl (by kernel_rfl)) rfl ?_
  exact ⟨_, _, by first | rfl | (simp [errW_none, errW_some] <;> rfl) | (simp [*, errW_none, errW_some] <;> rfl), by first | exact Kd.R_nil _ _ _ _ _ | exact Kd.N_nil _ _ _ _ _ | exact Kd.V_nil _ _ _ _ _ | exact Kd.Q_nil _ _ _ _ _ | exact Kd.S_nil _ _ _ _ _, by first | exact Kd.S_nil _ _ _ _ _ | exact Kd.N_nil _ _ _ _ _ | exact Kd.V_nil _ _ _ _ _ | exact Kd.Q_nil _ _ _ _ _ | exact Kd.R_nil _ _ _ _ _, by repeat (first | (with_reducible first | exact HB.out | apply below_alloc | apply pw_below_drewN | apply below_drew1 | refine below_set ?_ GE179.out | refine below_set ?_ GE180.out) | exact HB.out)⟩
end Go.Proofs.Ytogamkblkoobkaa.P
end
section
namespace Go.Proofs.Ytogamkblkoobkaa.P
open Go.RowKit Go.Proofs.YtogamkblkoobkaaW.PrintWords Go.Proofs.YtogamkblkoobkaaW.PrintLast Go.Proofs.YtogamkblkoobkaaW.PrintMore
attribute [local go_sem] max2_int min2_int max_two min_two max_three min_three max_four min_four
set_option linter.unusedVariables false
set_option linter.unusedSimpArgs false
def laws_big.f (l0 : List Int) : Option (Bool) := some (decide ((l0.length : Int) > 1048576))
set_option maxHeartbeats 8000000 in
set_option maxRecDepth 100000 in
theorem laws_big.calls (A0 : Option Addr) (c0 : Nat) (l0 : List Int) (r : Bool) (w : World) (hr0 : Kd.C (Kd.int .u8) w A0 l0.length l0) (hc0 : l0.length ≤ c0) (h : laws_big.f l0 = some r) :
    Calls Try.prog 27 #[.slice A0 l0.length c0] w fun e w' => e = .returned (.bool r) ∧ Drawn0 w w' := by
  have HR0 := am_ hr0
  have HC0 := am_ hc0
  clear hr0 hc0
  have H : (some (decide ((l0.length : Int) > 1048576))) = some r := h
  clear h
  obtain rfl := Option.some.inj H
  simp only [Option.some.injEq, Prod.mk.injEq] at H
  obtain ⟨rfl⟩ := H
  go_enter Try.func27, Try.ntmps27
  go_wp2
  go_ret
  exact ⟨by first | rfl | (simp; done) | (simp [*]; done), by repeat (first | exact Drawn0.refl _ | apply Drawn0.step)⟩
def IsS125 (w0 W : World) (g : Nat) (f0 : List Int) (f1 : Int) (f2 : Int) : Prop := ∃ A0 c0, W.heap[g]? = some (.cells #[.slice A0 f0.length c0, .int .i64 f1, .int .i64 f2] 125 (0, 0)) ∧ w0.heap.size ≤ g ∧ Kd.C (Kd.int .u8) w0 A0 f0.length f0
theorem IsS125.grown {w0 W : World} {g : Nat} {f0 : List Int} {f1 : Int} {f2 : Int} {W1 : World} {row : Option Nat} (h : IsS125 w0 W g f0 f1 f2) (hw : W.grownBy W1 row) (hne : some g ≠ row) : IsS125 w0 W1 g f0 f1 f2 := by
  obtain ⟨A0, c0, hb, hg, hr0⟩ := h
  exact ⟨A0, c0, blk_grown hb hw hne, hg, hr0⟩
theorem IsS125.kept {w0 W : World} {g : Nat} {f0 : List Int} {f1 : Int} {f2 : Int} {W1 : World} {S : Nat → Prop} (h : IsS125 w0 W g f0 f1 f2) (hk : Kept W W1 S) (hne : ¬ S g) : IsS125 w0 W1 g f0 f1 f2 := by
  obtain ⟨A0, c0, hb, hg, hr0⟩ := h
  exact ⟨A0, c0, blk_kept hb hk hne, hg, hr0⟩
theorem IsS125.below {w0 W : World} {g : Nat} {f0 : List Int} {f1 : Int} {f2 : Int} {W1 : World} (h : IsS125 w0 W g f0 f1 f2) (hw : Below W.heap.size W W1) : IsS125 w0 W1 g f0 f1 f2 := h.grown (grown_of_below hw none) (by simp)
theorem IsS125.alloc {w0 W : World} {g : Nat} {f0 : List Int} {f1 : Int} {f2 : Int} (h : IsS125 w0 W g f0 f1 f2) (o : Obj) : IsS125 w0 (W.alloc o) g f0 f1 f2 := h.below (below_alloc (Below.refl _ _) o)
theorem IsS125.drewN {w0 W : World} {g : Nat} {f0 : List Int} {f1 : Int} {f2 : Int} (h : IsS125 w0 W g f0 f1 f2) (m : Nat) : IsS125 w0 (W.drewN m) g f0 f1 f2 := h
theorem IsS125.drew {w0 W : World} {g : Nat} {f0 : List Int} {f1 : Int} {f2 : Int} (h : IsS125 w0 W g f0 f1 f2) : IsS125 w0 W.drew g f0 f1 f2 := h
theorem IsS125.at_ {w0 W : World} {g : Nat} {f0 : List Int} {f1 : Int} {f2 : Int} {w' : World} {m : Nat} (hq : W.drewN m = w') (h : IsS125 w0 W g f0 f1 f2) : IsS125 w0 w' g f0 f1 f2 := by subst hq; exact IsS125.drewN h m
theorem IsS125.apart {w0 W : World} {g : Nat} {f0 : List Int} {f1 : Int} {f2 : Int} {α : Type} {d : Kd α} {e : Nat} {base : Nat} {ok : Nat → Prop} {v : Value} {xs : List α} (h : IsS125 w0 W g f0 f1 f2) (ho : d.R e W base ok v xs) (ht : ∀ q, q ∈ e :: d.E → q ≠ 125) : d.R e W base (fun k => ok k ∧ k ≠ g) v xs := by
  obtain ⟨A0, c0, hb, hg, hr0⟩ := h
  exact Kd.R_types ho hb ht
theorem IsS125.own_ne {w0 W : World} {g : Nat} {f0 : List Int} {f1 : Int} {f2 : Int} {α : Type} {d : Kd α} {e : Nat} {base : Nat} {ok : Nat → Prop} {v : Value} {xs : List α} (h : IsS125 w0 W g f0 f1 f2) (ho : d.R e W base ok v xs) (ht : e ≠ 125) : some g ≠ v.ownBlock := by
  obtain ⟨A0, c0, hb, hg, hr0⟩ := h
  exact Kd.R_ne ho hb ht
theorem IsS125.apartS {w0 W : World} {g : Nat} {f0 : List Int} {f1 : Int} {f2 : Int} {α : Type} {d : Kd α} {e : Nat} {base : Nat} {ok : Nat → Prop} {v : Value} {xs : List α} (h : IsS125 w0 W g f0 f1 f2) (ho : d.S e W base ok v xs) (ht : ∀ q, q ∈ e :: d.E → q ≠ 125) : d.S e W base (fun k => ok k ∧ k ≠ g) v xs := by
  obtain ⟨A0, c0, hb, hg, hr0⟩ := h
  exact Kd.S_types ho hb ht
theorem IsS125.own_neS {w0 W : World} {g : Nat} {f0 : List Int} {f1 : Int} {f2 : Int} {α : Type} {d : Kd α} {e : Nat} {base : Nat} {ok : Nat → Prop} {v : Value} {xs : List α} (h : IsS125 w0 W g f0 f1 f2) (ho : d.S e W base ok v xs) (ht : e ≠ 125) : some g ≠ v.ownBlock := by
  obtain ⟨A0, c0, hb, hg, hr0⟩ := h
  exact Kd.S_ne ho hb ht
theorem IsS125.lt {w0 W : World} {g : Nat} {f0 : List Int} {f1 : Int} {f2 : Int} (h : IsS125 w0 W g f0 f1 f2) : g < W.heap.size := by
  obtain ⟨A0, c0, hb, hg, hr0⟩ := h
  exact blk_lt hb
theorem IsS125.ge {w0 W : World} {g : Nat} {f0 : List Int} {f1 : Int} {f2 : Int} (h : IsS125 w0 W g f0 f1 f2) : w0.heap.size ≤ g := by
  obtain ⟨A0, c0, hb, hg, hr0⟩ := h
  exact hg
theorem IsS125.ne_blk {w0 W : World} {g : Nat} {f0 : List Int} {f1 : Int} {f2 : Int} {a : Nat} {cs : Array Value} {t : TypeId} {fr : Nat × Nat} (h : IsS125 w0 W g f0 f1 f2) (hb2 : W.heap[a]? = some (.cells cs t fr)) (ht : t ≠ 125) : g ≠ a := by
  obtain ⟨A0, c0, hb, hg, hr0⟩ := h
  rintro rfl
  rw [hb] at hb2
  injection hb2 with hb2
  injection hb2 with _ ht2
  exact ht ht2.symm
theorem IsS125.far {w0 W : World} {g : Nat} {f0 : List Int} {f1 : Int} {f2 : Int} {p : Addr} (h : IsS125 w0 W g f0 f1 f2) (hne : g ≠ p.block) (u : Value) : IsS125 w0 (W.setCell p u) g f0 f1 f2 := by
  obtain ⟨A0, c0, hb, hg, hr0⟩ := h
  exact ⟨A0, c0, blk_far hb hne u, hg, hr0⟩
theorem cellS125_0 {W : World} {g : Nat} {A0 : Option Addr} {c0 : Nat} {f0 : List Int} {f1 : Int} {f2 : Int} (h : W.heap[g]? = some (.cells #[.slice A0 f0.length c0, .int .i64 f1, .int .i64 f2] 125 (0, 0))) : W.cell? ⟨g, 0, none⟩ = some (.slice A0 f0.length c0) := (blk_cell h 0).trans rfl
theorem cellS125_1 {W : World} {g : Nat} {A0 : Option Addr} {c0 : Nat} {f0 : List Int} {f1 : Int} {f2 : Int} (h : W.heap[g]? = some (.cells #[.slice A0 f0.length c0, .int .i64 f1, .int .i64 f2] 125 (0, 0))) : W.cell? ⟨g, 1, none⟩ = some (.int .i64 f1) := (blk_cell h 1).trans rfl
theorem IsS125.set_1 {w0 W : World} {g : Nat} {f0 : List Int} {f1 : Int} {f2 : Int} (h : IsS125 w0 W g f0 f1 f2) (x : Int) : IsS125 w0 (W.setCell ⟨g, 1, none⟩ (.int .i64 x)) g f0 x f2 := by
  obtain ⟨A0, c0, hb, hg, hr0⟩ := h
  exact ⟨A0, c0, by simpa using blk_set hb 1 (.int .i64 x), hg, hr0⟩
theorem cellS125_2 {W : World} {g : Nat} {A0 : Option Addr} {c0 : Nat} {f0 : List Int} {f1 : Int} {f2 : Int} (h : W.heap[g]? = some (.cells #[.slice A0 f0.length c0, .int .i64 f1, .int .i64 f2] 125 (0, 0))) : W.cell? ⟨g, 2, none⟩ = some (.int .i64 f2) := (blk_cell h 2).trans rfl
theorem IsS125.set_2 {w0 W : World} {g : Nat} {f0 : List Int} {f1 : Int} {f2 : Int} (h : IsS125 w0 W g f0 f1 f2) (x : Int) : IsS125 w0 (W.setCell ⟨g, 2, none⟩ (.int .i64 x)) g f0 f1 x := by
  obtain ⟨A0, c0, hb, hg, hr0⟩ := h
  exact ⟨A0, c0, by simpa using blk_set hb 2 (.int .i64 x), hg, hr0⟩
theorem IsS125.new (w0 W : World) (A0 : Option Addr) (c0 : Nat) (f0 : List Int) (f1 : Int) (f2 : Int) (hB : Below w0.heap.size w0 W) (hr0 : Kd.C (Kd.int .u8) w0 A0 f0.length f0) : IsS125 w0 (W.alloc (.cells #[.slice A0 f0.length c0, .int .i64 f1, .int .i64 f2] 125)) W.heap.size f0 f1 f2 := ⟨A0, c0, by simpa using heap_alloc_new W _, hB.size, hr0⟩
def spec_l1New.l0 : Nat → List Int → Int → Int → Option (List Int × Int × Int)
  | 0, _, _, _ => none
  | k + 1, x0, x3, x4 => if x4 < (x0.length : Int) then (if x4 < 4000 then (if 0 ≤ x4 then (spec_l1New.l0 k x0 (Go.bits .and .i64 (wrap64 ((wrap64 ((wrap64 (x3 * 131)) + (wrap64 (rd x0 x4)))) + 7)) 1073741823) (wrap64 (x4 + 1))) else (none)) else (some (x0, 0, x3))) else (some (x0, 0, x3))
def spec_l1New.f (k : Nat) (l0 : List Int) : Option (List Int × Int × Int) := spec_l1New.l0 k l0 (wrap64 (26583 + (l0.length : Int))) 0
theorem spec_l1New.mono_l : ∀ k, (∀ y0 y1 y2, LeO (spec_l1New.l0 k y0 y1 y2) (spec_l1New.l0 (k + 1) y0 y1 y2))
  | 0 => fun _ _ _ r h => by simp [spec_l1New.l0] at h
  | k + 1 => by
    have ih0 := spec_l1New.mono_l k
    · intro y0 y1 y2
      unfold spec_l1New.l0
      repeat' first
      | (with_reducible exact ih0 _ _ _)
      | (with_reducible exact LeO.refl _)
      | (with_reducible exact LeO.none _)
      | (with_reducible refine LeO.ite ?_ ?_)
      | (with_reducible refine LeO.bind ?_ (fun _ => ?_))
      | exact ih0 _ _ _
      | exact LeO.none _
      | refine LeO.ite ?_ ?_
      | refine LeO.bind ?_ (fun _ => ?_)
theorem spec_l1New.mono : ∀ a0 k, LeO (spec_l1New.f k a0) (spec_l1New.f (k + 1) a0) := by
  intro a0 k
  have ih0 := spec_l1New.mono_l k
  unfold spec_l1New.f
  repeat' first
      | (with_reducible exact ih0 _ _ _)
      | (with_reducible exact LeO.refl _)
      | (with_reducible exact LeO.none _)
      | (with_reducible refine LeO.ite ?_ ?_)
      | (with_reducible refine LeO.bind ?_ (fun _ => ?_))
      | exact ih0 _ _ _
      | exact LeO.none _
      | refine LeO.ite ?_ ?_
      | refine LeO.bind ?_ (fun _ => ?_)
theorem zp28_0_ {p q : Prop} (h : p) (c : p → q := by intro h_; repeat (first | (with_reducible first | exact h_ | apply below_alloc | apply pw_below_drewN | apply below_drew1) | exact h_)) : q := c h
theorem zp28_1_ {p q g1 : Prop} (h : p) (h1 : g1) (c : p → g1 → q := by intro h_ h1_; repeat (first | (with_reducible first | exact h_ | apply below_alloc | apply pw_below_drewN | apply below_drew1 | refine below_set ?_ h1_) | exact h_)) : q := c h h1
theorem zp28_2_ {p q : Prop} (h : p) (c : p → q := by intro h_; repeat (first | (with_reducible first | exact h_ | apply IsS125.alloc | apply IsS125.drewN | apply IsS125.drew | apply IsS125.set_1 | apply IsS125.set_2) | exact h_)) : q := c h
theorem zp28_3_ {p q : Prop} (h : p) (c : p → q := by intro h_; repeat (first | (with_reducible first | exact h_ | apply KeepBut.set_ | apply keep_drewN | apply keep_drew | apply keep_alloc) | exact h_)) : q := c h
set_option maxHeartbeats 8000000 in
set_option maxRecDepth 100000 in
theorem spec_l1New.calls (k : Nat) (A0 : Option Addr) (c0 : Nat) (l0 : List Int) (r1 : List Int) (r2 : Int) (r3 : Int) (w0 w : World) (hB : Below w0.heap.size w0 w) (hr0 : Kd.C (Kd.int .u8) w0 A0 l0.length l0) (hc0 : l0.length ≤ c0) (h : spec_l1New.f k l0 = some (r1, r2, r3)) :
    Calls Try.prog 85 #[.slice A0 l0.length c0] w fun e w' => ∃ g_ : Nat, e = .returned (.pointer (some ⟨g_, 0, none⟩)) ∧ IsS125 w0 w' g_ r1 r2 r3 ∧ Below w0.heap.size w0 w' ∧ Below w.heap.size w w' := by
  have hu125 := Try.underlying125
  have HR0 := am_ hr0
  have HC0 := am_ hc0
  clear hr0 hc0
  have HBW := am_ (Below.refl w.heap.size w)
  have HW0 := am_ hB.size
  have HB := am_ hB
  clear hB
  have H : (spec_l1New.l0 k l0 (wrap64 (26583 + (l0.length : Int))) 0) = some (r1, r2, r3) := h
  clear h
  have H' := am_ H
  clear H
  go_enter Try.func85, Try.ntmps85
  go_wp2
  go_loopg [3, 4] k (fun kq v3 v4 w' => ∃ (x3_1 : Int) (x4_1 : Int), v3 = .int .i64 x3_1 ∧ v4 = .int .i64 x4_1 ∧ Aside0 (spec_l1New.l0 kq l0 x3_1 x4_1 = some (r1, r2, r3)) ∧ Aside0 (kq ≤ k) ∧ Aside0 (Below w0.heap.size w0 w') ∧ Aside0 (Below w.heap.size w w'))
  case atStart => exact ⟨(wrap64 (26583 + (l0.length : Int))), (0), (by first | rfl | (simp; done) | (simp [*]; done)), (by first | rfl | (simp; done) | (simp [*]; done)), H', ⟨Nat.le_refl _⟩, ⟨by exact zp28_0_ HB.out⟩, ⟨by exact zp28_0_ HBW.out⟩⟩
  case round =>
    clear H'
    obtain ⟨x3_1, x4_1, rfl, rfl, HA, HK1, HB, HBW⟩ := hrel
    cases gk with
    | zero => exact absurd HA.out (by simp [spec_l1New.l0])
    | succ k1 =>
      have H := HA.out
      clear HA
      simp only [spec_l1New.l0] at H
      by_cases c2 : x4_1 < (l0.length : Int)
      · rw [if_pos c2] at H
        have c2b0 : decide (x4_1 < (l0.length : Int)) = true := decide_eq_true c2
        clear c2
        by_cases c3 : x4_1 < 4000
        · rw [if_pos c3] at H
          have c3b0 : decide (x4_1 < 4000) = true := decide_eq_true c3
          clear c3
          by_cases c4 : 0 ≤ x4_1
          · rw [if_pos c4] at H
            have c4b0 : decide (0 ≤ x4_1) = true := decide_eq_true c4
            clear c4
            have H' := am_ H
            clear H
            have p571 : 0 ≤ (x4_1 : Int) := of_decide_eq_true ah_
            have q571 : x4_1 < (l0.length : Int) := of_decide_eq_true ah_
            obtain ⟨ad571, e571, hx571_0⟩ := Kd.at_int HR0.out x4_1 p571 q571
            cases e571
            replace hx571_0 := pw_cell_below HB.out hx571_0
            replace p571 := eq_true p571
            replace q571 := eq_true q571
            go_wp2
            go_roundg k1
            case measure => have := HK1.out; omega
            case rel => exact ⟨(Go.bits .and .i64 (wrap64 ((wrap64 ((wrap64 (x3_1 * 131)) + (wrap64 (rd l0 x4_1)))) + 7)) 1073741823), (wrap64 (x4_1 + 1)), (by first | rfl | (simp; done) | (simp [*]; done)), (by first | rfl | (simp; done) | (simp [*]; done)), H', ⟨by have := HK1.out; omega⟩, ⟨by exact zp28_0_ HB.out⟩, ⟨by exact zp28_0_ HBW.out⟩⟩
          · rw [if_neg c4] at H
            exact absurd H (by simp)
        · rw [if_neg c3] at H
          have c3b0 : decide (x4_1 < 4000) = false := decide_eq_false c3
          clear c3
          simp only [Option.some.injEq, Prod.mk.injEq] at H
          obtain ⟨rfl, rfl, rfl⟩ := H
          go_wp2_with (first | ((with_reducible refine gate_dst (N := 31) rfl ?_); refine box_event ?hg (N := 31) ?hd (cs := #[.slice A0 l0.length c0, .int .i64 0, .int .i64 x3_1]) (t := 125) ?hr ?_; (case hd => rfl); (case hg => rfl); (case hr => first | (go_simp; done) | (go_simp; rfl)); intro gb572 hg w5 hbox hb; have n0_ := am_ (below_step HBW.out hb); have n1_ := am_ (below_step (b0_ HB.out) hb); have n2_ := am_ (hbox); have n3_ := am_ ((by rw [hg]; exact (below_size (b0_ HBW.out)) : w.heap.size ≤ gb572)); have n4_ := am_ ((Nat.le_trans HW0.out (by rw [hg]; exact (below_size (b0_ HBW.out)) : w.heap.size ≤ gb572) : w0.heap.size ≤ gb572)); clear HBW; clear HB; have HBW := n0_; have HB := n1_; have BK572 := n2_; have GW572 := n3_; have GE572 := n4_; clear n0_ n1_ n2_ n3_ n4_; clear hb hbox hg))
          go_ret
          exact ⟨_, rfl, (show IsS125 w0 _ gb572 l0 0 x3_1 from ⟨_, _, by refine rb_ ?_; exact BK572.out, GE572.out, HR0.out⟩), by exact zp28_1_ HB.out GE572.out, by exact zp28_1_ HBW.out GW572.out⟩
      · rw [if_neg c2] at H
        have c2b0 : decide (x4_1 < (l0.length : Int)) = false := decide_eq_false c2
        clear c2
        simp only [Option.some.injEq, Prod.mk.injEq] at H
        obtain ⟨rfl, rfl, rfl⟩ := H
        go_wp2_with (first | ((with_reducible refine gate_dst (N := 31) rfl ?_); refine box_event ?hg (N := 31) ?hd (cs := #[.slice A0 l0.length c0, .int .i64 0, .int .i64 x3_1]) (t := 125) ?hr ?_; (case hd => rfl); (case hg => rfl); (case hr => first | (go_simp; done) | (go_simp; rfl)); intro gb573 hg w6 hbox hb; have n0_ := am_ (below_step HBW.out hb); have n1_ := am_ (below_step (b0_ HB.out) hb); have n2_ := am_ (hbox); have n3_ := am_ ((by rw [hg]; exact (below_size (b0_ HBW.out)) : w.heap.size ≤ gb573)); have n4_ := am_ ((Nat.le_trans HW0.out (by rw [hg]; exact (below_size (b0_ HBW.out)) : w.heap.size ≤ gb573) : w0.heap.size ≤ gb573)); clear HBW; clear HB; have HBW := n0_; have HB := n1_; have BK573 := n2_; have GW573 := n3_; have GE573 := n4_; clear n0_ n1_ n2_ n3_ n4_; clear hb hbox hg))
        go_ret
        exact ⟨_, rfl, (show IsS125 w0 _ gb573 l0 0 x3_1 from ⟨_, _, by refine rb_ ?_; exact BK573.out, GE573.out, HR0.out⟩), by exact zp28_1_ HB.out GE573.out, by exact zp28_1_ HBW.out GW573.out⟩
def spec_l1Byte.f (s0_0 : List Int) (s0_1 : Int) (s0_2 : Int) : Option (Int × Int × Int) := if s0_1 < (s0_0.length : Int) then (if 0 ≤ s0_1 then (some (Go.bits .and .i64 (wrap64 ((Go.bits .and .i64 (Go.bits .xor .i64 ((wrap64 ((wrap64 (s0_2 * 6364136223846793005)) + 1442695040888963407)) / 8589934592) ((wrap64 ((wrap64 (s0_2 * 6364136223846793005)) + 1442695040888963407)) / 35184372088832)) 255) + (wrap64 (rd s0_0 s0_1)))) 255, wrap64 (s0_1 + 1), wrap64 ((wrap64 (s0_2 * 6364136223846793005)) + 1442695040888963407))) else (none)) else (some (Go.bits .and .i64 (Go.bits .xor .i64 ((wrap64 ((wrap64 (s0_2 * 6364136223846793005)) + 1442695040888963407)) / 8589934592) ((wrap64 ((wrap64 (s0_2 * 6364136223846793005)) + 1442695040888963407)) / 35184372088832)) 255, s0_1, wrap64 ((wrap64 (s0_2 * 6364136223846793005)) + 1442695040888963407)))
set_option maxHeartbeats 8000000 in
set_option maxRecDepth 100000 in
theorem spec_l1Byte.calls (g : Nat) (s0_0 : List Int) (s0_1 : Int) (s0_2 : Int) (r1 : Int) (r2 : Int) (r3 : Int) (w0 w : World) (hI : IsS125 w0 w g s0_0 s0_1 s0_2) (hB : Below w0.heap.size w0 w) (h : spec_l1Byte.f s0_0 s0_1 s0_2 = some (r1, r2, r3)) :
    Calls Try.prog 129 #[.pointer (some ⟨g, 0, none⟩)] w fun e w' => e = .returned (.int .i64 r1) ∧ IsS125 w0 w' g s0_0 r2 r3 ∧ Below w0.heap.size w0 w' ∧ KeepBut w w' g none := by
  have HI0 := am_ hI
  have HK := am_ (KeepBut.refl w g none)
  have HL := am_ hB.size
  clear hI
  have HW0 := am_ hB.size
  have HB := am_ hB
  clear hB
  have H : (if s0_1 < (s0_0.length : Int) then (if 0 ≤ s0_1 then (some (Go.bits .and .i64 (wrap64 ((Go.bits .and .i64 (Go.bits .xor .i64 ((wrap64 ((wrap64 (s0_2 * 6364136223846793005)) + 1442695040888963407)) / 8589934592) ((wrap64 ((wrap64 (s0_2 * 6364136223846793005)) + 1442695040888963407)) / 35184372088832)) 255) + (wrap64 (rd s0_0 s0_1)))) 255, wrap64 (s0_1 + 1), wrap64 ((wrap64 (s0_2 * 6364136223846793005)) + 1442695040888963407))) else (none)) else (some (Go.bits .and .i64 (Go.bits .xor .i64 ((wrap64 ((wrap64 (s0_2 * 6364136223846793005)) + 1442695040888963407)) / 8589934592) ((wrap64 ((wrap64 (s0_2 * 6364136223846793005)) + 1442695040888963407)) / 35184372088832)) 255, s0_1, wrap64 ((wrap64 (s0_2 * 6364136223846793005)) + 1442695040888963407)))) = some (r1, r2, r3) := h
  clear h
  by_cases c2 : s0_1 < (s0_0.length : Int)
  · rw [if_pos c2] at H
    have c2b0 : decide (s0_1 < (s0_0.length : Int)) = true := decide_eq_true c2
    clear c2
    by_cases c3 : 0 ≤ s0_1
    · rw [if_pos c3] at H
      have c3b0 : decide (0 ≤ s0_1) = true := decide_eq_true c3
      clear c3
      simp only [Option.some.injEq, Prod.mk.injEq] at H
      obtain ⟨rfl, rfl, rfl⟩ := H
      obtain ⟨ASz4_0, cSz4_0, HGz4, hgz4, HSz4_0⟩ := HI0.out
      have hcz4_0 := cellS125_0 HGz4
      have hcz4_1 := cellS125_1 HGz4
      have hcz4_2 := cellS125_2 HGz4
      have hfz4_1 := blk_frozen HGz4 1
      have hfz4_2 := blk_frozen HGz4 2
      clear HGz4 hgz4
      have p574 : 0 ≤ (s0_1 : Int) := of_decide_eq_true ah_
      have q574 : s0_1 < (s0_0.length : Int) := of_decide_eq_true ah_
      obtain ⟨ad574, e574, hx574_0⟩ := Kd.at_int HSz4_0 s0_1 p574 q574
      cases e574
      have hn574_0 : ad574.block ≠ g := Nat.ne_of_lt (Nat.lt_of_lt_of_le (by have := World.block_lt_of_cell? _ _ hx574_0; first | rwa [add_block] at this | exact this) (IsS125.ge HI0.out))
      replace hx574_0 := pw_cell_below HB.out hx574_0
      replace hx574_0 := (cell_far (p := ⟨g, 2, none⟩) (by first | (rw [add_block]; exact hn574_0) | (show (Addr.add _ _).block ≠ _; rw [add_block]; exact hn574_0) | exact hn574_0) (.int .i64 (wrap64 ((wrap64 (s0_2 * 6364136223846793005)) + 1442695040888963407)))).trans hx574_0
      (try have hy574_0 := fun (n_ : Nat) => (show (((w.drewN n_).setCell ⟨g, 2, none⟩ (.int .i64 (wrap64 ((wrap64 (s0_2 * 6364136223846793005)) + 1442695040888963407))))).cell? _ = some _ from hx574_0))
      clear hn574_0
      replace p574 := eq_true p574
      replace q574 := eq_true q574
      go_enter Try.func129, Try.ntmps129
      go_wp2
      repeat (go_quiet (fail); try go_wp2)
      go_ret
      exact ⟨by first | rfl | (simp [errW_none, errW_some] <;> rfl) | (simp [*, errW_none, errW_some] <;> rfl), by exact zp28_2_ HI0.out, by exact zp28_1_ HB.out (IsS125.ge HI0.out), by exact zp28_3_ HK.out⟩
    · rw [if_neg c3] at H
      exact absurd H (by simp)
  · rw [if_neg c2] at H
    have c2b0 : decide (s0_1 < (s0_0.length : Int)) = false := decide_eq_false c2
    clear c2
    simp only [Option.some.injEq, Prod.mk.injEq] at H
    obtain ⟨rfl, rfl, rfl⟩ := H
    obtain ⟨ASz5_0, cSz5_0, HGz5, hgz5, HSz5_0⟩ := HI0.out
    have hcz5_0 := cellS125_0 HGz5
    have hcz5_1 := cellS125_1 HGz5
    have hcz5_2 := cellS125_2 HGz5
    have hfz5_1 := blk_frozen HGz5 1
    have hfz5_2 := blk_frozen HGz5 2
    clear HGz5 hgz5
    go_enter Try.func129, Try.ntmps129
    go_wp2
    repeat (go_quiet (fail); try go_wp2)
    go_ret
    exact ⟨by first | rfl | (simp [errW_none, errW_some] <;> rfl) | (simp [*, errW_none, errW_some] <;> rfl), by exact zp28_2_ HI0.out, by exact zp28_1_ HB.out (IsS125.ge HI0.out), by exact zp28_3_ HK.out⟩
def spec_l1Below.f (s0_0 : List Int) (s0_1 : Int) (s0_2 : Int) (a1 : Int) : Option (Int × Int × Int) := if a1 ≤ 0 then (some (0, s0_1, s0_2)) else (if a1 ≤ 256 then ((spec_l1Byte.f s0_0 s0_1 s0_2).bind fun bt575 => (if a1 = 0 then (none) else (some (Int.tmod bt575.1 a1, bt575.2.1, bt575.2.2)))) else ((spec_l1Byte.f s0_0 s0_1 s0_2).bind fun bt578 => ((spec_l1Byte.f s0_0 bt578.2.1 bt578.2.2).bind fun bt581 => ((spec_l1Byte.f s0_0 bt581.2.1 bt581.2.2).bind fun bt584 => ((spec_l1Byte.f s0_0 bt584.2.1 bt584.2.2).bind fun bt587 => (if a1 = 0 then (none) else (some (Int.tmod (wrap64 ((wrap64 ((wrap64 ((wrap64 (bt578.1 * 16777216)) + (wrap64 (bt581.1 * 65536)))) + (wrap64 (bt584.1 * 256)))) + bt587.1)) a1, bt587.2.1, bt587.2.2))))))))
set_option maxHeartbeats 8000000 in
set_option maxRecDepth 100000 in
theorem spec_l1Below.calls (g : Nat) (s0_0 : List Int) (s0_1 : Int) (s0_2 : Int) (a1 : Int) (r1 : Int) (r2 : Int) (r3 : Int) (w0 w : World) (hI : IsS125 w0 w g s0_0 s0_1 s0_2) (hB : Below w0.heap.size w0 w) (h : spec_l1Below.f s0_0 s0_1 s0_2 a1 = some (r1, r2, r3)) :
    Calls Try.prog 107 #[.pointer (some ⟨g, 0, none⟩), .int .i64 a1] w fun e w' => e = .returned (.int .i64 r1) ∧ IsS125 w0 w' g s0_0 r2 r3 ∧ Below w0.heap.size w0 w' ∧ KeepBut w w' g none := by
  have HI0 := am_ hI
  have HK := am_ (KeepBut.refl w g none)
  have HL := am_ hB.size
  clear hI
  have HW0 := am_ hB.size
  have HB := am_ hB
  clear hB
  have H : (if a1 ≤ 0 then (some (0, s0_1, s0_2)) else (if a1 ≤ 256 then ((spec_l1Byte.f s0_0 s0_1 s0_2).bind fun bt575 => (if a1 = 0 then (none) else (some (Int.tmod bt575.1 a1, bt575.2.1, bt575.2.2)))) else ((spec_l1Byte.f s0_0 s0_1 s0_2).bind fun bt578 => ((spec_l1Byte.f s0_0 bt578.2.1 bt578.2.2).bind fun bt581 => ((spec_l1Byte.f s0_0 bt581.2.1 bt581.2.2).bind fun bt584 => ((spec_l1Byte.f s0_0 bt584.2.1 bt584.2.2).bind fun bt587 => (if a1 = 0 then (none) else (some (Int.tmod (wrap64 ((wrap64 ((wrap64 ((wrap64 (bt578.1 * 16777216)) + (wrap64 (bt581.1 * 65536)))) + (wrap64 (bt584.1 * 256)))) + bt587.1)) a1, bt587.2.1, bt587.2.2))))))))) = some (r1, r2, r3) := h
  clear h
  by_cases c3 : a1 ≤ 0
  · rw [if_pos c3] at H
    have c3b0 : decide (a1 ≤ 0) = true := decide_eq_true c3
    clear c3
    simp only [Option.some.injEq, Prod.mk.injEq] at H
    obtain ⟨rfl, rfl, rfl⟩ := H
    go_enter Try.func107, Try.ntmps107
    go_wp2
    go_ret
    exact ⟨by first | rfl | (simp [errW_none, errW_some] <;> rfl) | (simp [*, errW_none, errW_some] <;> rfl), by exact zp28_2_ HI0.out, by exact zp28_1_ HB.out (IsS125.ge HI0.out), by exact zp28_3_ HK.out⟩
  · rw [if_neg c3] at H
    have c3b0 : decide (a1 ≤ 0) = false := decide_eq_false c3
    clear c3
    by_cases c4 : a1 ≤ 256
    · rw [if_pos c4] at H
      have c4b0 : decide (a1 ≤ 256) = true := decide_eq_true c4
      clear c4
      replace H := Option.bind_eq_some_iff.mp H
      obtain ⟨⟨t575, t576, t577⟩, A50, H⟩ := H
      have A5 := am_ A50
      clear A50
      by_cases c6 : a1 = 0
      · rw [if_pos c6] at H
        exact absurd H (by simp)
      · rw [if_neg c6] at H
        have c6b0 : (a1 == 0) = false := beq_eq_false_iff_ne.mpr c6
        have c6b1 : (a1 != 0) = true := bne_iff_ne.mpr c6
        simp only [Option.some.injEq, Prod.mk.injEq] at H
        obtain ⟨rfl, rfl, rfl⟩ := H
        go_enter Try.func107, Try.ntmps107
        go_wp2_with (first | ((with_reducible refine gate_callee (f := 129) rfl ?_); refine gL_ (some 14) Try.func129 #[.pointer (some ⟨g, 0, none⟩)] ?_; (with_reducible refine (spec_l1Byte.calls g s0_0 s0_1 s0_2 t575 t576 t577 w0 _ ?side1 ?side2 A5.out).mono ?_); (case side1 => exact zp28_2_ HI0.out); (case side2 => exact zp28_1_ HB.out (IsS125.ge HI0.out)); rintro e w7 ⟨rfl, hi, hb, hk⟩; refine ⟨_, rfl, ?_⟩; have n0_ := am_ (KeepBut.trans (k0_ HK.out) hk (.inl rfl)); have n1_ := am_ (hb); have n2_ := am_ (hi); clear HK; clear HB; clear HI0; have HK := n0_; have HB := n1_; have HI0 := n2_; clear n0_ n1_ n2_; (try clear hb); (try clear hb2); (try clear hk); (try clear hi)))
        go_ret
        exact ⟨by first | rfl | (simp [errW_none, errW_some] <;> rfl) | (simp [*, errW_none, errW_some] <;> rfl), by exact zp28_2_ HI0.out, by exact zp28_1_ HB.out (IsS125.ge HI0.out), by exact zp28_3_ HK.out⟩
    · rw [if_neg c4] at H
      have c4b0 : decide (a1 ≤ 256) = false := decide_eq_false c4
      clear c4
      replace H := Option.bind_eq_some_iff.mp H
      obtain ⟨⟨t578, t579, t580⟩, A80, H⟩ := H
      have A8 := am_ A80
      clear A80
      replace H := Option.bind_eq_some_iff.mp H
      obtain ⟨⟨t581, t582, t583⟩, A90, H⟩ := H
      have A9 := am_ A90
      clear A90
      replace H := Option.bind_eq_some_iff.mp H
      obtain ⟨⟨t584, t585, t586⟩, A100, H⟩ := H
      have A10 := am_ A100
      clear A100
      replace H := Option.bind_eq_some_iff.mp H
      obtain ⟨⟨t587, t588, t589⟩, A110, H⟩ := H
      have A11 := am_ A110
      clear A110
      by_cases c12 : a1 = 0
      · rw [if_pos c12] at H
        exact absurd H (by simp)
      · rw [if_neg c12] at H
        have c12b0 : (a1 == 0) = false := beq_eq_false_iff_ne.mpr c12
        have c12b1 : (a1 != 0) = true := bne_iff_ne.mpr c12
        simp only [Option.some.injEq, Prod.mk.injEq] at H
        obtain ⟨rfl, rfl, rfl⟩ := H
        go_enter Try.func107, Try.ntmps107
        go_wp2_with (first | ((with_reducible refine gate_callee (f := 129) rfl ?_); refine gL_ (some 18) Try.func129 #[.pointer (some ⟨g, 0, none⟩)] ?_; (with_reducible refine (spec_l1Byte.calls g s0_0 s0_1 s0_2 t578 t579 t580 w0 _ ?side1 ?side2 A8.out).mono ?_); (case side1 => exact zp28_2_ HI0.out); (case side2 => exact zp28_1_ HB.out (IsS125.ge HI0.out)); rintro e w13 ⟨rfl, hi, hb, hk⟩; refine ⟨_, rfl, ?_⟩; have n0_ := am_ (KeepBut.trans (k0_ HK.out) hk (.inl rfl)); have n1_ := am_ (hb); have n2_ := am_ (hi); clear HK; clear HB; clear HI0; have HK := n0_; have HB := n1_; have HI0 := n2_; clear n0_ n1_ n2_; (try clear hb); (try clear hb2); (try clear hk); (try clear hi)) | ((with_reducible refine gate_callee (f := 129) rfl ?_); refine gL_ (some 20) Try.func129 #[.pointer (some ⟨g, 0, none⟩)] ?_; (with_reducible refine (spec_l1Byte.calls g s0_0 t579 t580 t581 t582 t583 w0 _ ?side1 ?side2 A9.out).mono ?_); (case side1 => exact zp28_2_ HI0.out); (case side2 => exact zp28_1_ HB.out (IsS125.ge HI0.out)); rintro e w14 ⟨rfl, hi, hb, hk⟩; refine ⟨_, rfl, ?_⟩; have n0_ := am_ (KeepBut.trans (k0_ HK.out) hk (.inl rfl)); have n1_ := am_ (hb); have n2_ := am_ (hi); clear HK; clear HB; clear HI0; have HK := n0_; have HB := n1_; have HI0 := n2_; clear n0_ n1_ n2_; (try clear hb); (try clear hb2); (try clear hk); (try clear hi)) | ((with_reducible refine gate_callee (f := 129) rfl ?_); refine gL_ (some 22) Try.func129 #[.pointer (some ⟨g, 0, none⟩)] ?_; (with_reducible refine (spec_l1Byte.calls g s0_0 t582 t583 t584 t585 t586 w0 _ ?side1 ?side2 A10.out).mono ?_); (case side1 => exact zp28_2_ HI0.out); (case side2 => exact zp28_1_ HB.out (IsS125.ge HI0.out)); rintro e w15 ⟨rfl, hi, hb, hk⟩; refine ⟨_, rfl, ?_⟩; have n0_ := am_ (KeepBut.trans (k0_ HK.out) hk (.inl rfl)); have n1_ := am_ (hb); have n2_ := am_ (hi); clear HK; clear HB; clear HI0; have HK := n0_; have HB := n1_; have HI0 := n2_; clear n0_ n1_ n2_; (try clear hb); (try clear hb2); (try clear hk); (try clear hi)) | ((with_reducible refine gate_callee (f := 129) rfl ?_); refine gL_ (some 24) Try.func129 #[.pointer (some ⟨g, 0, none⟩)] ?_; (with_reducible refine (spec_l1Byte.calls g s0_0 t585 t586 t587 t588 t589 w0 _ ?side1 ?side2 A11.out).mono ?_); (case side1 => exact zp28_2_ HI0.out); (case side2 => exact zp28_1_ HB.out (IsS125.ge HI0.out)); rintro e w16 ⟨rfl, hi, hb, hk⟩; refine ⟨_, rfl, ?_⟩; have n0_ := am_ (KeepBut.trans (k0_ HK.out) hk (.inl rfl)); have n1_ := am_ (hb); have n2_ := am_ (hi); clear HK; clear HB; clear HI0; have HK := n0_; have HB := n1_; have HI0 := n2_; clear n0_ n1_ n2_; (try clear hb); (try clear hb2); (try clear hk); (try clear hi)))
        go_ret
        exact ⟨by first | rfl | (simp [errW_none, errW_some] <;> rfl) | (simp [*, errW_none, errW_some] <;> rfl), by exact zp28_2_ HI0.out, by exact zp28_1_ HB.out (IsS125.ge HI0.out), by exact zp28_3_ HK.out⟩
def spec_l1Once.f (s0_0 : List Int) (s0_1 : Int) (s0_2 : Int) (a1 : Int) : Option (Bool × Int × Int) := (spec_l1Below.f s0_0 s0_1 s0_2 a1).bind fun bt590 => (some ((bt590.1 == 0), bt590.2.1, bt590.2.2))
set_option maxHeartbeats 8000000 in
set_option maxRecDepth 100000 in
theorem spec_l1Once.calls (g : Nat) (s0_0 : List Int) (s0_1 : Int) (s0_2 : Int) (a1 : Int) (r1 : Bool) (r2 : Int) (r3 : Int) (w0 w : World) (hI : IsS125 w0 w g s0_0 s0_1 s0_2) (hB : Below w0.heap.size w0 w) (h : spec_l1Once.f s0_0 s0_1 s0_2 a1 = some (r1, r2, r3)) :
    Calls Try.prog 87 #[.pointer (some ⟨g, 0, none⟩), .int .i64 a1] w fun e w' => e = .returned (.bool r1) ∧ IsS125 w0 w' g s0_0 r2 r3 ∧ Below w0.heap.size w0 w' ∧ KeepBut w w' g none := by
  have HI0 := am_ hI
  have HK := am_ (KeepBut.refl w g none)
  have HL := am_ hB.size
  clear hI
  have HW0 := am_ hB.size
  have HB := am_ hB
  clear hB
  have H : ((spec_l1Below.f s0_0 s0_1 s0_2 a1).bind fun bt590 => (some ((bt590.1 == 0), bt590.2.1, bt590.2.2))) = some (r1, r2, r3) := h
  clear h
  replace H := Option.bind_eq_some_iff.mp H
  obtain ⟨⟨t590, t591, t592⟩, A30, H⟩ := H
  replace H : (some ((t590 == 0), t591, t592)) = some (r1, r2, r3) := H
  have A3 := am_ A30
  clear A30
  simp only [Option.some.injEq, Prod.mk.injEq] at H
  obtain ⟨rfl, rfl, rfl⟩ := H
  go_enter Try.func87, Try.ntmps87
  go_wp2_with (first | ((with_reducible refine gate_callee (f := 107) rfl ?_); refine gL_ (some 7) Try.func107 #[.pointer (some ⟨g, 0, none⟩), .int .i64 a1] ?_; (with_reducible refine (spec_l1Below.calls g s0_0 s0_1 s0_2 a1 t590 t591 t592 w0 _ ?side1 ?side2 A3.out).mono ?_); (case side1 => exact zp28_2_ HI0.out); (case side2 => exact zp28_1_ HB.out (IsS125.ge HI0.out)); rintro e w4 ⟨rfl, hi, hb, hk⟩; refine ⟨_, rfl, ?_⟩; have n0_ := am_ (KeepBut.trans (k0_ HK.out) hk (.inl rfl)); have n1_ := am_ (hb); have n2_ := am_ (hi); clear HK; clear HB; clear HI0; have HK := n0_; have HB := n1_; have HI0 := n2_; clear n0_ n1_ n2_; (try clear hb); (try clear hb2); (try clear hk); (try clear hi)))
  go_ret
  exact ⟨by first | rfl | (simp [errW_none, errW_some] <;> rfl) | (simp [*, errW_none, errW_some] <;> rfl), by exact zp28_2_ HI0.out, by exact zp28_1_ HB.out (IsS125.ge HI0.out), by exact zp28_3_ HK.out⟩
end Go.Proofs.Ytogamkblkoobkaa.P
end
section
namespace Go.Proofs.Ytogamkblkoobkaa.P
open Go.RowKit Go.Proofs.YtogamkblkoobkaaW.PrintWords Go.Proofs.YtogamkblkoobkaaW.PrintLast Go.Proofs.YtogamkblkoobkaaW.PrintMore
attribute [local go_sem] max2_int min2_int max_two min_two max_three min_three max_four min_four
set_option linter.unusedVariables false
set_option linter.unusedSimpArgs false
mutual
def spec_l5Draw.l0 : Nat → Int → Int → List Int → Int → Int → List Bool → List (List Int) → Option (List Bool × (List (List Int)) × Int × Int)
  | 0, _, _, _, _, _, _, _ => none
  | k + 1, x5, x7, x1000, x1001, x1002, x598000, x598001 => if x7 < x5 then ((spec_l1Once.f x1000 x1001 x1002 2).bind fun bt598 => (if x598000.length < 140737488355328 then (spec_l5Draw.l1 k x5 x7 (([] : List Int)) 0 x1000 bt598.2.1 bt598.2.2 (x598000 ++ [bt598.1]) x598001) else (none))) else (some (x598000, x598001, x1001, x1002))
def spec_l5Draw.l1 : Nat → Int → Int → List Int → Int → List Int → Int → Int → List Bool → List (List Int) → Option (List Bool × (List (List Int)) × Int × Int)
  | 0, _, _, _, _, _, _, _, _, _ => none
  | k + 1, x5, x7, x8, x9, x1000, x1001, x1002, x598000, x598001 => if x9 < 3 then ((spec_l1Below.f x1000 x1001 x1002 x5).bind fun bt607 => (if x8.length < 17592186044416 then (spec_l5Draw.l1 k x5 x7 (x8 ++ [bt607.1]) (wrap64 (x9 + 1)) x1000 bt607.2.1 bt607.2.2 x598000 x598001) else (none))) else (if x598001.length < 5864062014805 then (spec_l5Draw.l0 k x5 (wrap64 (x7 + 1)) x1000 x1001 x1002 x598000 (x598001 ++ [x8])) else (none))
end
def spec_l5Draw.f (k : Nat) (s0_0 : List Int) (s0_1 : Int) (s0_2 : Int) (a1 : Int) : Option (List Bool × (List (List Int)) × Int × Int) := (spec_l1Below.f s0_0 s0_1 s0_2 a1).bind fun bt594 => (spec_l5Draw.l0 k (wrap64 (1 + bt594.1)) 0 s0_0 bt594.2.1 bt594.2.2 ([] : List Bool) ([] : List (List Int)))
theorem spec_l5Draw.mono_l : ∀ k, (∀ y0 y1 y2 y3 y4 y5 y6, LeO (spec_l5Draw.l0 k y0 y1 y2 y3 y4 y5 y6) (spec_l5Draw.l0 (k + 1) y0 y1 y2 y3 y4 y5 y6)) ∧ (∀ y0 y1 y2 y3 y4 y5 y6 y7 y8, LeO (spec_l5Draw.l1 k y0 y1 y2 y3 y4 y5 y6 y7 y8) (spec_l5Draw.l1 (k + 1) y0 y1 y2 y3 y4 y5 y6 y7 y8))
 | 0 => ⟨fun _ _ _ _ _ _ _ r h => by simp [spec_l5Draw.l0] at h, fun _ _ _ _ _ _ _ _ _ r h => by simp [spec_l5Draw.l1] at h⟩
 | k + 1 => by
  obtain ⟨ih0, ih1⟩ := spec_l5Draw.mono_l k
  refine ⟨?_, ?_⟩
  ·intro y0 y1 y2 y3 y4 y5 y6
   unfold spec_l5Draw.l0
   repeat' first
   | (with_reducible exact ih0 _ _ _ _ _ _ _)
   | (with_reducible exact ih1 _ _ _ _ _ _ _ _ _)
   | (with_reducible exact LeO.refl _)
   | (with_reducible exact LeO.none _)
   | (with_reducible refine LeO.ite ?_ ?_)
   | (with_reducible refine LeO.bind ?_ (fun _ => ?_))
   | exact ih0 _ _ _ _ _ _ _
   | exact ih1 _ _ _ _ _ _ _ _ _
   | exact LeO.none _
   | refine LeO.ite ?_ ?_
   | refine LeO.bind ?_ (fun _ => ?_)
  ·intro y0 y1 y2 y3 y4 y5 y6 y7 y8
   unfold spec_l5Draw.l1
   repeat' first
   | (with_reducible exact ih0 _ _ _ _ _ _ _)
   | (with_reducible exact ih1 _ _ _ _ _ _ _ _ _)
   | (with_reducible exact LeO.refl _)
   | (with_reducible exact LeO.none _)
   | (with_reducible refine LeO.ite ?_ ?_)
   | (with_reducible refine LeO.bind ?_ (fun _ => ?_))
   | exact ih0 _ _ _ _ _ _ _
   | exact ih1 _ _ _ _ _ _ _ _ _
   | exact LeO.none _
   | refine LeO.ite ?_ ?_
   | refine LeO.bind ?_ (fun _ => ?_)
theorem spec_l5Draw.mono : ∀ a0 a1 a2 a3 k, LeO (spec_l5Draw.f k a0 a1 a2 a3) (spec_l5Draw.f (k + 1) a0 a1 a2 a3) := by
 intro a0 a1 a2 a3 k
 obtain ⟨ih0, ih1⟩ := spec_l5Draw.mono_l k
 unfold spec_l5Draw.f
 repeat' first
   | (with_reducible exact ih0 _ _ _ _ _ _ _)
   | (with_reducible exact ih1 _ _ _ _ _ _ _ _ _)
   | (with_reducible exact LeO.refl _)
   | (with_reducible exact LeO.none _)
   | (with_reducible refine LeO.ite ?_ ?_)
   | (with_reducible refine LeO.bind ?_ (fun _ => ?_))
   | exact ih0 _ _ _ _ _ _ _
   | exact ih1 _ _ _ _ _ _ _ _ _
   | exact LeO.none _
   | refine LeO.ite ?_ ?_
   | refine LeO.bind ?_ (fun _ => ?_)
def spec_l5Draw.T6 : Bool × List (List Nat × List Nat) := (true, [([], []), ([0], [0]), ([], []), ([2], [2]), ([3], [3]), ([1, 4, 3], [1, 4]), ([0, 1, 2, 3, 4, 5], []), ([6, 5, 5, 0, 1, 2, 3, 4, 5], [5, 6])])
def spec_l5Draw.B6 : List Nat := [0, 1, 0, 4, 12, 31, 63, 127]
theorem spec_l5Draw.tab6 : rtab .any (opsOf Try.f86 6) = spec_l5Draw.T6 := by kernel_rfl
theorem spec_l5Draw.bits6 : waitsOk spec_l5Draw.T6.2 spec_l5Draw.B6 = true := by kernel_rfl
theorem zp29_0_ {p q g1 : Prop} (h : p) (h1 : g1) (c : p → g1 → q := by intro h_ h1_; repeat (first | (with_reducible first | exact h_ | apply IsS125.alloc | apply IsS125.drewN | apply IsS125.drew | apply IsS125.set_1 | apply IsS125.set_2 | refine IsS125.far ?_ h1_ _) | exact h_)) : q := c h h1
theorem zp29_1_ {p q g1 g2 : Prop} (h : p) (h1 : g1) (h2 : g2) (c : p → g1 → g2 → q := by intro h_ h1_ h2_; repeat (first | (with_reducible first | exact h_ | apply IsS125.alloc | apply IsS125.drewN | apply IsS125.drew | apply IsS125.set_1 | apply IsS125.set_2 | refine IsS125.far ?_ h1_ _ | refine IsS125.far ?_ h2_ _) | exact h_)) : q := c h h1 h2
theorem zp29_2_ {p q g1 g2 : Prop} (h : p) (h1 : g1) (h2 : g2) (c : p → g1 → g2 → q := by intro h_ h1_ h2_; repeat (first | (with_reducible first | exact h_ | apply KeepBut.set_ | apply keep_drewN | apply keep_drew | apply keep_alloc | refine keep_far ?_ h1_ _ | refine keep_far ?_ h2_ _) | exact h_)) : q := c h h1 h2
theorem zp29_3_ {p q g1 g2 g3 : Prop} (h : p) (h1 : g1) (h2 : g2) (h3 : g3) (c : p → g1 → g2 → g3 → q := by intro h_ h1_ h2_ h3_; repeat (first | (with_reducible first | exact h_ | apply below_alloc | apply pw_below_drewN | apply below_drew1 | refine below_set ?_ h1_ | refine below_set ?_ h2_ | refine below_set ?_ h3_) | exact h_)) : q := c h h1 h2 h3
set_option maxHeartbeats 8000000 in
set_option maxRecDepth 100000 in
theorem spec_l5Draw.calls (k : Nat) (g : Nat) (s0_0 : List Int) (s0_1 : Int) (s0_2 : Int) (a1 : Int) (r1 : List Bool) (r2 : List (List Int)) (r3 : Int) (r4 : Int) (w0 w : World) (hI : IsS125 w0 w g s0_0 s0_1 s0_2) (hB : Below w0.heap.size w0 w) (h : spec_l5Draw.f k s0_0 s0_1 s0_2 a1 = some (r1, r2, r3, r4)) :
  Calls Try.prog 86 #[.pointer (some ⟨g, 0, none⟩), .int .i64 a1] w fun e w' => ∃ v0_ v1_ : Value, e = .returned (.agg #[v0_, v1_]) ∧ Kd.R Kd.bool 4 w' w.heap.size (fun _ => True) v0_ r1 ∧ Kd.S (Kd.slice 3 (Kd.int .i64)) 67 w' w.heap.size (fun _ => True) v1_ r2 ∧ IsS125 w0 w' g s0_0 r3 r4 ∧ Below w0.heap.size w0 w' ∧ KeepBut w w' g none := by
 have hu27 := Try.underlying27
 have HI0 := am_ hI
 have HK := am_ (KeepBut.refl w g none)
 have HL := am_ hB.size
 clear hI
 have HW0 := am_ hB.size
 have HB := am_ hB
 clear hB
 have H : ((spec_l1Below.f s0_0 s0_1 s0_2 a1).bind fun bt594 => (spec_l5Draw.l0 k (wrap64 (1 + bt594.1)) 0 s0_0 bt594.2.1 bt594.2.2 ([] : List Bool) ([] : List (List Int)))) = some (r1, r2, r3, r4) := h
 clear h
 replace H := Option.bind_eq_some_iff.mp H
 obtain ⟨⟨t594, t595, t596⟩, A30, H⟩ := H
 have A3 := am_ A30
 clear A30
 have H' := am_ H
 clear H
 go_enter Try.func86, Try.ntmps86
 go_wp2_with (first | ((with_reducible refine gate_dst (N := 4) rfl ?_); refine box_event ?hg (N := 4) ?hd (cs := #[.slice none 0 0, .slice none 0 0]) (t := 27) ?hr ?_; (case hd => rfl); (case hg => rfl); (case hr => first | (go_simp; done) | (go_simp; rfl)); intro gb593 hg w4 hbox hb; have n0_ := am_ (IsS125.below (by repeat (first | (with_reducible first | exact HI0.out | apply IsS125.alloc | apply IsS125.drewN | apply IsS125.drew | apply IsS125.set_1 | apply IsS125.set_2) | exact HI0.out)) hb); have n1_ := am_ (KeepBut.trans (k0_ HK.out) (KeepBut.of_below hb g none) (.inl rfl)); have n2_ := am_ (below_step (b1_ HB.out (IsS125.ge HI0.out)) hb); have n3_ := am_ (hbox); have n4_ := am_ ((by rw [hg]; exact (keep_size (w := w) (g := g) (row := none) (k0_ HK.out)) : w.heap.size ≤ gb593)); have n5_ := am_ ((Nat.le_trans HW0.out (by rw [hg]; exact (keep_size (w := w) (g := g) (row := none) (k0_ HK.out)) : w.heap.size ≤ gb593) : w0.heap.size ≤ gb593)); have n6_ := am_ ((by rw [hg]; exact Nat.ne_of_lt (IsS125.lt (show IsS125 w0 _ g s0_0 s0_1 s0_2 from by repeat (first | (with_reducible first | exact HI0.out | apply IsS125.alloc | apply IsS125.drewN | apply IsS125.drew | apply IsS125.set_1 | apply IsS125.set_2) | exact HI0.out))) : g ≠ gb593)); have n7_ := am_ ((by rw [hg]; exact Nat.ne_of_gt (IsS125.lt (show IsS125 w0 _ g s0_0 s0_1 s0_2 from by repeat (first | (with_reducible first | exact HI0.out | apply IsS125.alloc | apply IsS125.drewN | apply IsS125.drew | apply IsS125.set_1 | apply IsS125.set_2) | exact HI0.out))) : gb593 ≠ g)); clear HI0; clear HK; clear HB; have HI0 := n0_; have HK := n1_; have HB := n2_; have BK593 := n3_; have GW593 := n4_; have GE593 := n5_; have NB0_593 := n6_; have NB593_0 := n7_; clear n0_ n1_ n2_ n3_ n4_ n5_ n6_ n7_; clear hb hbox hg) | ((with_reducible refine gate_callee (f := 107) rfl ?_); refine gL_ (some 12) Try.func107 #[.pointer (some ⟨g, 0, none⟩), .int .i64 a1] ?_; (with_reducible refine (spec_l1Below.calls g s0_0 s0_1 s0_2 a1 t594 t595 t596 w0 _ ?side1 ?side2 A3.out).mono ?_); (case side1 => exact zp29_0_ HI0.out NB0_593.out); (case side2 => repeat (first | (with_reducible first | exact HB.out | apply below_alloc | apply pw_below_drewN | apply below_drew1 | refine below_set ?_ (IsS125.ge HI0.out) | refine below_set ?_ GE593.out) | exact HB.out)); rintro e w5 ⟨rfl, hi, hb, hk⟩; refine ⟨_, rfl, ?_⟩; have n0_ := am_ (KeepBut.blk hk (g' := gb593) (o := .cells #[.slice none 0 0, .slice none 0 0] 27 (0, 0)) (rb_ BK593.out) NB593_0.out (by simp)); have n1_ := am_ (KeepBut.trans (k1_ HK.out GW593.out) hk (.inl rfl)); have n2_ := am_ (hb); have n3_ := am_ (hi); clear BK593; clear HK; clear HB; clear HI0; have BK593 := n0_; have HK := n1_; have HB := n2_; have HI0 := n3_; clear n0_ n1_ n2_ n3_; (try clear hb); (try clear hb2); (try clear hk); (try clear hi)) | ((with_reducible refine gate_dst (N := 6) rfl ?_); refine box_event ?hg (N := 6) ?hd (cs := #[.slice none 0 0, .slice none 0 0]) (t := 27) ?hr ?_; (case hd => rfl); (case hg => rfl); (case hr => first | (go_simp; done) | (go_simp; rfl)); intro gb597 hg w6 hbox hb; have n0_ := am_ (IsS125.below (zp29_0_ HI0.out NB0_593.out) hb); have n1_ := am_ (blk_below (rb_ BK593.out) hb); have n2_ := am_ (KeepBut.trans (k1_ HK.out GW593.out) (KeepBut.of_below hb g none) (.inl rfl)); have n3_ := am_ (below_step (b2_ HB.out (IsS125.ge HI0.out) GE593.out) hb); have n4_ := am_ (hbox); have n5_ := am_ ((by rw [hg]; exact (keep_size (w := w) (g := g) (row := none) (k1_ HK.out GW593.out)) : w.heap.size ≤ gb597)); have n6_ := am_ ((Nat.le_trans HW0.out (by rw [hg]; exact (keep_size (w := w) (g := g) (row := none) (k1_ HK.out GW593.out)) : w.heap.size ≤ gb597) : w0.heap.size ≤ gb597)); have n7_ := am_ ((by rw [hg]; exact Nat.ne_of_lt (blk_lt (rb_ BK593.out)) : gb593 ≠ gb597)); have n8_ := am_ ((by rw [hg]; exact Nat.ne_of_gt (blk_lt (rb_ BK593.out)) : gb597 ≠ gb593)); have n9_ := am_ ((by rw [hg]; exact Nat.ne_of_lt (IsS125.lt (show IsS125 w0 _ g s0_0 t595 t596 from by exact zp29_0_ HI0.out NB0_593.out)) : g ≠ gb597)); have n10_ := am_ ((by rw [hg]; exact Nat.ne_of_gt (IsS125.lt (show IsS125 w0 _ g s0_0 t595 t596 from by exact zp29_0_ HI0.out NB0_593.out)) : gb597 ≠ g)); clear HI0; clear BK593; clear HK; clear HB; have HI0 := n0_; have BK593 := n1_; have HK := n2_; have HB := n3_; have BK597 := n4_; have GW597 := n5_; have GE597 := n6_; have NB593_597 := n7_; have NB597_593 := n8_; have NB0_597 := n9_; have NB597_0 := n10_; clear n0_ n1_ n2_ n3_ n4_ n5_ n6_ n7_ n8_ n9_ n10_; clear hb hbox hg; have hnb7 := NB597_593.out; have hnc7 := NB593_597.out; have hnb8 := NB597_0.out; have hnc8 := NB0_597.out; have hcz9_0 : w6.cell? ⟨gb597, 0, none⟩ = some (.slice none 0 0) := (blk_cell BK597.out 0).trans rfl; have hcz9_1 : w6.cell? ⟨gb597, 1, none⟩ = some (.slice none 0 0) := (blk_cell BK597.out 1).trans rfl; have hfz9_0 := blk_frozen BK597.out 0; have hfz9_1 := blk_frozen BK597.out 1))
 go_loopg [7] k (fun kq v7 w' => ∃ (x7_1 : Int) (x1001_1 : Int) (x1002_1 : Int) (x598000_1 : List Bool) (x598001_1 : List (List Int)) (u598000 : Value) (u598001 : Value), v7 = .int .i64 x7_1 ∧ Aside0 (spec_l5Draw.l0 kq (wrap64 (1 + t594)) x7_1 s0_0 x1001_1 x1002_1 x598000_1 x598001_1 = some (r1, r2, r3, r4)) ∧ Aside0 (kq ≤ k) ∧ Aside0 (Kd.R Kd.bool 4 w' w.heap.size (fun _ => True) u598000 x598000_1) ∧ Aside0 (Kd.S (Kd.slice 3 (Kd.int .i64)) 67 w' w.heap.size (fun _ => True) u598001 x598001_1) ∧ Aside0 (w'.heap[gb593]? = some (.cells #[(.slice none 0 0), (.slice none 0 0)] 27 (0, 0))) ∧ Aside0 (w'.heap[gb597]? = some (.cells #[u598000, u598001] 27 (0, 0))) ∧ Aside0 (IsS125 w0 w' g s0_0 x1001_1 x1002_1) ∧ Aside0 (KeepBut w w' g none) ∧ Aside0 (Below w0.heap.size w0 w'))
 case atStart => exact ⟨(0), (t595), (t596), (([] : List Bool)), (([] : List (List Int))), (.slice none 0 0), (.slice none 0 0), (by first | rfl | (simp; done) | (simp [*]; done)), H', ⟨Nat.le_refl _⟩, ⟨by first | exact Kd.R_nil _ _ _ _ _ | exact Kd.N_nil _ _ _ _ _ | exact Kd.V_nil _ _ _ _ _ | exact Kd.Q_nil _ _ _ _ _ | exact Kd.S_nil _ _ _ _ _⟩, ⟨by first | exact Kd.S_nil _ _ _ _ _ | exact Kd.N_nil _ _ _ _ _ | exact Kd.V_nil _ _ _ _ _ | exact Kd.Q_nil _ _ _ _ _ | exact Kd.R_nil _ _ _ _ _⟩, ⟨by refine rb_ ?_; refine blk_far ?_ NB593_597.out _; refine rb_ ?_; refine blk_far ?_ NB593_597.out _; refine rb_ ?_; exact BK593.out⟩, ⟨by refine rb_ ?_; refine blk_put (cs := #[.slice none 0 0, .slice none 0 0]) ?_ 1 _ rfl; refine rb_ ?_; refine blk_put (cs := #[.slice none 0 0, .slice none 0 0]) ?_ 0 _ rfl; refine rb_ ?_; exact BK597.out⟩, ⟨by exact zp29_1_ HI0.out NB0_593.out NB0_597.out⟩, ⟨by exact zp29_2_ HK.out GW593.out GW597.out⟩, ⟨by exact zp29_3_ HB.out (IsS125.ge HI0.out) GE593.out GE597.out⟩⟩
 case round =>
  clear H'
  try clear c1
  try clear p2
  try clear p6
  try clear c7
  try clear c8
  try clear hcz9_0
  try clear hcz9_1
  try clear hfz9_0
  try clear hfz9_1
  obtain ⟨x7_1, x1001_1, x1002_1, x598000_1, x598001_1, u598000, u598001, rfl, HA, HK1, HO_598000, HO_598001, BK593, BK597, HI0, HK, HB⟩ := hrel
  cases gk with
  | zero => exact absurd HA.out (by simp [spec_l5Draw.l0])
  | succ k1 =>
   have H := HA.out
   clear HA
   simp only [spec_l5Draw.l0] at H
   by_cases c10 : x7_1 < (wrap64 (1 + t594))
   ·rw [if_pos c10] at H
    have c10b0 : decide (x7_1 < (wrap64 (1 + t594))) = true := decide_eq_true c10
    clear c10
    replace H := Option.bind_eq_some_iff.mp H
    obtain ⟨⟨t598, t599, t600⟩, A110, H⟩ := H
    have A11 := am_ A110
    clear A110
    by_cases c12 : x598000_1.length < 140737488355328
    ·rw [if_pos c12] at H
     have LMc12 := am_ c12
     clear c12
     obtain ⟨y601, hy601⟩ : ∃ y_ : List Bool, y_ = (x598000_1 ++ [t598]) := ⟨_, rfl⟩
     replace H : (spec_l5Draw.l1 k1 (wrap64 (1 + t594)) x7_1 (([] : List Int)) 0 s0_0 t599 t600 y601 x598001_1) = some (r1, r2, r3, r4) := by first | (rw [hy601]; with_reducible exact H) | (have H2_ := (Option.bind_some _ _).symm.trans H; rw [hy601]; with_reducible exact H2_) | (have H2_ := (Option.bind_some _ _).symm.trans H; with_reducible exact H2_) | with_reducible exact H | (rw [hy601]; exact H) | exact H
     have Ny601 := am_ hy601
     clear hy601
     obtain ⟨y604, hy604⟩ : ∃ y_ : List Int, y_ = (([] : List Int)) := ⟨_, rfl⟩
     replace H : (spec_l5Draw.l1 k1 (wrap64 (1 + t594)) x7_1 y604 0 s0_0 t599 t600 y601 x598001_1) = some (r1, r2, r3, r4) := by first | (rw [hy604]; with_reducible exact H) | (have H2_ := (Option.bind_some _ _).symm.trans H; rw [hy604]; with_reducible exact H2_) | (have H2_ := (Option.bind_some _ _).symm.trans H; with_reducible exact H2_) | with_reducible exact H | (rw [hy604]; exact H) | exact H
     have Ny604 := am_ hy604
     clear hy604
     have H' := am_ H
     clear H
     try go_wp2
     replace HO_598000 := am_ (Kd.R_drew HO_598000.out)
     replace HO_598001 := am_ (Kd.S_drew HO_598001.out)
     replace BK593 := am_ (blk_drew BK593.out)
     replace BK597 := am_ (blk_drew BK597.out)
     replace HI0 := am_ (IsS125.drew HI0.out)
     replace HK := am_ (keep_drew HK.out)
     replace HB := am_ (below_drew1 HB.out)
     refine start_ (n := 8) (S := fun w' => w'.cell? ⟨gb597, 0, none⟩ = some (u598000) ∧ w'.cell? ⟨gb597, 1, none⟩ = some (u598001)) (ds := [7]) (bl 8 0) (by kernel_rfl) rfl rfl ⟨(blk_cell BK597.out 0).trans rfl, (blk_cell BK597.out 1).trans rfl⟩ (fun hHeld => ?_); refine with_tabW spec_l5Draw.tab6 spec_l5Draw.bits6 (fun HT_ HW_ => ?_)
     generalize wr.drew = w13 at HO_598000 HO_598001 BK593 BK597 HI0 HK HB hHeld ⊢
     refine pu_ 0 20 (bl 8 1) HT_ ?_
     refine pu_ 2 22 (bl 8 5) HT_ ?_
     refine tk_ 1 21 (bl 8 7) HT_ HW_ hHeld ?_
     refine one_ (i := 3) (N := some 23) (bl 8 15) rfl rfl (one_of HT_.out (by kernel_rfl)) (by decide) (fun K hK => ?_)
     refine gO_ Try.func87 #[.pointer (some ⟨g, 0, none⟩), .int .i64 2] ?_
     with_reducible refine (spec_l1Once.calls g s0_0 x1001_1 x1002_1 2 t598 t599 t600 w0 _ ?side1 ?side2 A11.out).mono ?_
     (case side1 => exact zp29_1_ HI0.out NB0_593.out NB0_597.out)
     (case side2 => exact zp29_3_ HB.out (IsS125.ge HI0.out) GE593.out GE597.out)
     rintro e w14 ⟨rfl, hi, hb, hk⟩
     refine ⟨_, rfl, ?_⟩
     replace HO_598000 := am_ (Kd.R_mono (Kd.R_keep (IsS125.apart (show IsS125 w0 _ g s0_0 x1001_1 x1002_1 from by exact zp29_1_ HI0.out NB0_593.out NB0_597.out) (rr_ HO_598000.out) (by decide)) hk (fun _ h => h.2)) (fun _ h => h.1))
     replace HO_598001 := am_ (Kd.S_mono (Kd.S_keep (IsS125.apartS (show IsS125 w0 _ g s0_0 x1001_1 x1002_1 from by exact zp29_1_ HI0.out NB0_593.out NB0_597.out) (rs_ HO_598001.out) (by decide)) hk (fun _ h => h.2)) (fun _ h => h.1))
     replace BK593 := am_ (KeepBut.blk hk (g' := gb593) (o := .cells #[.slice none 0 0, .slice none 0 0] 27 (0, 0)) (rb_ BK593.out) NB593_0.out (by simp))
     replace BK597 := am_ (KeepBut.blk hk (g' := gb597) (o := .cells #[u598000, u598001] 27 (0, 0)) (rb_ BK597.out) NB597_0.out (by simp))
     replace HK := am_ (KeepBut.trans (k2_ HK.out GW593.out GW597.out) hk (.inl rfl))
     replace HB := am_ (hb)
     replace HI0 := am_ (hi)
     (try clear hb)
     (try clear hb2)
     (try clear hk)
     (try clear hi)
     refine hK.out _ _ ⟨(blk_cell BK597.out 0).trans rfl, (blk_cell BK597.out 1).trans rfl⟩ (fun hHeld => ?_)
     clear hK K
     refine norm_ (a' := ?_) ?_ ?_
     rotate_left
     ·show Act.put _ (some 23) _ = _
      simp only [pn_, sz_, ss_, i64_w, i32_w]
      rfl
     refine one_ (i := 4) (N := some 24) (bl 8 31) rfl rfl (one_of HT_.out (by kernel_rfl)) (by decide) (fun K hK => ?_)
     refine value_ (w1 := ?_) (v := ?_) (by rfl) rfl ?_ ?_
     rotate_left 2
     ·go_simp
      constructor
      ·rfl
      ·rfl
     refine hK.out _ _ ⟨(blk_cell (blk_alloc BK597.out _) 0).trans rfl, (blk_cell (blk_alloc BK597.out _) 1).trans rfl⟩ (fun hHeld => ?_)
     clear hK K
     refine norm_ (a' := ?_) ?_ ?_
     rotate_left
     ·show Act.put _ (some 24) _ = _
      simp only [pn_, sz_, ss_, i64_w, i32_w]
      rfl
     refine one_ (i := 5) (N := some 25) (bl 8 63) rfl rfl (one_of HT_.out (by kernel_rfl)) (by decide) (fun K hK => ?_)
     refine Kd.R_append_step Kd.bool w.heap.size (by rfl) (.tmp 21) (.tmp 24) 22 4 (.bool false) 1 rfl Try.underlying22 info4 rfl (by decide) (by omega) u598000 x598000_1 t598 [.bool t598] (fun _ => True) (fun _ => False) rfl rfl ?aP (fun _ hk => hk.elim) ?aF ?aO (Below.refl _ _) ?aS ?aL ?_
     (case aP => exact rfl)
     (case aF => exact (fun _ _ => trivial))
     (case aO => exact (rr_ HO_598000.out))
     (case aS => exact (keep_size (w := w) (g := g) (row := none) (k2_ HK.out GW593.out GW597.out)))
     (case aL => have := LMc12.out; omega)
     intro v602 w15 ho hb hg hat
     rw [← Ny601.out] at ho
     replace HO_598001 := am_ (Kd.S_over' (rs_ HO_598001.out) (Kd.R_typed (rr_ HO_598000.out)) (by decide) hg)
     replace BK593 := am_ (blk_grown (g := gb593) (o := .cells #[.slice none 0 0, .slice none 0 0] 27 (0, 0)) (rb_ BK593.out) hg (Kd.R_ne HO_598000.out BK593.out (by decide)))
     replace BK597 := am_ (blk_grown (g := gb597) (o := .cells #[u598000, u598001] 27 (0, 0)) (rb_ BK597.out) hg (Kd.R_ne HO_598000.out BK597.out (by decide)))
     replace HB := am_ (below_weaken (b3_ HB.out (IsS125.ge HI0.out) GE593.out GE597.out) HL.out hb)
     replace HI0 := am_ (IsS125.grown (zp29_1_ HI0.out NB0_593.out NB0_597.out) hg (IsS125.own_ne HI0.out HO_598000.out (by decide)))
     replace HK := am_ (KeepBut.trans (k2_ HK.out GW593.out GW597.out) (KeepBut.of_grown hg g) (Kd.R_base2 HO_598000.out))
     replace HO603 := am_ (ho)
     clear HO_598000 ho hb hg hat
     obtain ⟨Ao16, co16, eo16⟩ := Kd.R_slice HO603.out
     (first | subst eo16 | (injection eo16 with f1_ f2_ f3_; have f4_ := f1_.symm; have f5_ := f3_.symm; clear f1_ f2_ f3_; subst f4_; subst f5_))
     refine hK.out _ _ ⟨(blk_cell BK597.out 0).trans rfl, (blk_cell BK597.out 1).trans rfl⟩ (fun hHeld => ?_)
     clear hK K
     refine norm_ (a' := ?_) ?_ ?_
     rotate_left
     ·show Act.put _ (some 25) _ = _
      simp only [pn_, sz_, ss_, i64_w, i32_w]
      rfl
     refine pu_ 6 26 (bl 8 127) HT_ ?_
     refine last_ (i := 7) (N := none) (bl 8 255) rfl rfl (one_of HT_.out (by kernel_rfl)) (by decide) (fun K hK => ?_)
     have hs17 : w15.cell? ⟨gb597, 0, none⟩ = some (u598000) := (blk_cell BK597.out 0).trans rfl
     have hfs17 := blk_frozen BK597.out 0
     have hns17_0 := NB593_597.out
     have hms17_0 := NB597_593.out
     refine skip_ (w1 := ?_) (by rfl) rfl ?_ ?_
     rotate_left
     ·go_simp
      rfl
     refine hK.out _ _ ?_
     clear hK K
     refine done_ (done_of HT_.out (by kernel_rfl)) ?_
     try go_wp2_with (first | ((with_reducible refine gate_dst (N := 27) rfl ?_); refine Kd.R_lit (Kd.int .i64) _ 3 ?hg (N := 27) ?hd (xs := ([] : List Int)) (inner := []) (ok := fun _ => True) (okp := fun _ => True) ?hr ?hp (fun _ hk => hk) trivial (Below.refl _ _) (Nat.le_refl _) (by simp) ?_; (case hd => rfl); (case hg => rfl); (case hr => first | (go_simp; done) | (go_simp; rfl)); (case hp => exact (Reps.none _ _)); intro v605 w18 ho19 hb hg_ hnew_; clear hg_ hnew_; (first | rw [← Ny604.out] at ho19 | (simp only [Int.reduceToNat] at ho19; rw [← Ny604.out] at ho19)); have n0_ := am_ (Kd.S_elder' (rs_ (Kd.S_mono (Kd.S_far (p := ⟨gb597, 0, none⟩) (Kd.S_types HO_598001.out BK597.out (by decide)) (fun _ hk => hk.2) (.slice Ao16 y601.length co16)) (fun _ h_ => h_.1))) (Kd.R_base ho19) hb); have n1_ := am_ (Kd.R_below (rr_ (Kd.R_mono (Kd.R_far (p := ⟨gb597, 0, none⟩) (Kd.R_types HO603.out BK597.out (by decide)) (fun _ hk => hk.2) (.slice Ao16 y601.length co16)) (fun _ h_ => h_.1))) hb); have n2_ := am_ (Kd.R_lower ho19 (keep_size (w := w) (g := g) (row := none) (k2_ HK.out GW593.out GW597.out))); have n3_ := am_ (blk_below (g := gb593) (o := .cells #[.slice none 0 0, .slice none 0 0] 27 (0, 0)) (by refine rb_ ?_; refine blk_far ?_ NB593_597.out _; refine rb_ ?_; exact BK593.out) hb); have n4_ := am_ (blk_below (g := gb597) (o := .cells #[.slice Ao16 y601.length co16, u598001] 27 (0, 0)) (by refine rb_ ?_; refine blk_put (cs := #[u598000, u598001]) ?_ 0 _ rfl; refine rb_ ?_; exact BK597.out) hb); have n5_ := am_ (IsS125.below (show IsS125 w0 (w15.setCell ⟨gb597, 0, none⟩ (.slice Ao16 y601.length co16)) g s0_0 t599 t600 from by exact zp29_1_ HI0.out NB0_593.out NB0_597.out) hb); have n6_ := am_ (KeepBut.trans (k2_ HK.out GW593.out GW597.out) (KeepBut.of_below hb g none) (.inl rfl)); have n7_ := am_ (below_step (b3_ HB.out (IsS125.ge HI0.out) GE593.out GE597.out) hb); clear HO_598001; clear HO603; clear BK593; clear BK597; clear HI0; clear HK; clear HB; have HO_598001 := n0_; have HO603 := n1_; have HO606 := n2_; have BK593 := n3_; have BK597 := n4_; have HI0 := n5_; have HK := n6_; have HB := n7_; clear n0_ n1_ n2_ n3_ n4_ n5_ n6_ n7_; clear hb ho19))
     go_loopg [8, 9] k1 (fun kq v8 v9 w' => ∃ (x8_2 : List Int) (x9_2 : Int) (x1001_2 : Int) (x1002_2 : Int), v9 = .int .i64 x9_2 ∧ Aside0 (spec_l5Draw.l1 kq (wrap64 (1 + t594)) x7_1 x8_2 x9_2 s0_0 x1001_2 x1002_2 y601 x598001_1 = some (r1, r2, r3, r4)) ∧ Aside0 (kq ≤ k1) ∧ Aside0 (Kd.R (Kd.int .i64) 3 w' w.heap.size (fun _ => True) v8 x8_2) ∧ Aside0 (Kd.R Kd.bool 4 w' w.heap.size (fun _ => True) (.slice Ao16 y601.length co16) y601) ∧ Aside0 (Kd.S (Kd.slice 3 (Kd.int .i64)) 67 w' w.heap.size (fun k_ => some k_ ≠ (v8 : Value).ownBlock) u598001 x598001_1) ∧ Aside0 (w'.heap[gb593]? = some (.cells #[(.slice none 0 0), (.slice none 0 0)] 27 (0, 0))) ∧ Aside0 (w'.heap[gb597]? = some (.cells #[(.slice Ao16 y601.length co16), u598001] 27 (0, 0))) ∧ Aside0 (IsS125 w0 w' g s0_0 x1001_2 x1002_2) ∧ Aside0 (KeepBut w w' g none) ∧ Aside0 (Below w0.heap.size w0 w'))
     case atStart => exact ⟨(y604), (0), (t599), (t600), (by first | rfl | (simp; done) | (simp [*]; done)), H', ⟨Nat.le_refl _⟩, ⟨by refine rr_ ?_; exact HO606.out⟩, ⟨by refine rr_ ?_; exact HO603.out⟩, ⟨by refine rs_ ?_; exact Kd.S_mono HO_598001.out (fun _ hk => hk.2)⟩, ⟨by refine rb_ ?_; exact BK593.out⟩, ⟨by refine rb_ ?_; exact BK597.out⟩, ⟨by exact zp29_1_ HI0.out NB0_593.out NB0_597.out⟩, ⟨by exact zp29_2_ HK.out GW593.out GW597.out⟩, ⟨by exact zp29_3_ HB.out (IsS125.ge HI0.out) GE593.out GE597.out⟩⟩
     case round =>
      clear H'
      try clear c1
      try clear p2
      try clear p6
      try clear c7
      try clear c8
      try clear c10
      try clear c10b0
      try clear c12
      try clear hcz9_0
      try clear hcz9_1
      try clear hfz9_0
      try clear hfz9_1
      try clear p2
      try clear p6
      obtain ⟨x8_2, x9_2, x1001_2, x1002_2, rfl, HA, HK2, HO_8, HO_598000, HO_598001, BK593, BK597, HI0, HK, HB⟩ := hrel
      cases gk with
      | zero => exact absurd HA.out (by simp [spec_l5Draw.l1])
      | succ k2 =>
       have H := HA.out
       clear HA
       simp only [spec_l5Draw.l1] at H
       by_cases c20 : x9_2 < 3
       ·rw [if_pos c20] at H
        have c20b0 : decide (x9_2 < 3) = true := decide_eq_true c20
        clear c20
        replace H := Option.bind_eq_some_iff.mp H
        obtain ⟨⟨t607, t608, t609⟩, A210, H⟩ := H
        have A21 := am_ A210
        clear A210
        by_cases c22 : x8_2.length < 17592186044416
        ·rw [if_pos c22] at H
         have LMc22 := am_ c22
         clear c22
         obtain ⟨y610, hy610⟩ : ∃ y_ : List Int, y_ = (x8_2 ++ [t607]) := ⟨_, rfl⟩
         replace H : (spec_l5Draw.l1 k2 (wrap64 (1 + t594)) x7_1 y610 (wrap64 (x9_2 + 1)) s0_0 t608 t609 y601 x598001_1) = some (r1, r2, r3, r4) := by first | (rw [hy610]; with_reducible exact H) | (have H2_ := (Option.bind_some _ _).symm.trans H; rw [hy610]; with_reducible exact H2_) | (have H2_ := (Option.bind_some _ _).symm.trans H; with_reducible exact H2_) | with_reducible exact H | (rw [hy610]; exact H) | exact H
         have Ny610 := am_ hy610
         clear hy610
         have H' := am_ H
         clear H
         go_wp2_with (first | ((with_reducible refine gate_callee (f := 107) rfl ?_); refine gL_ (some 35) Try.func107 #[.pointer (some ⟨g, 0, none⟩), .int .i64 (wrap64 (1 + t594))] ?_; (with_reducible refine (spec_l1Below.calls g s0_0 x1001_2 x1002_2 (wrap64 (1 + t594)) t607 t608 t609 w0 _ ?side1 ?side2 A21.out).mono ?_); (case side1 => exact zp29_1_ HI0.out NB0_593.out NB0_597.out); (case side2 => exact zp29_3_ HB.out (IsS125.ge HI0.out) GE593.out GE597.out); rintro e w23 ⟨rfl, hi, hb, hk⟩; refine ⟨_, rfl, ?_⟩; have n0_ := am_ (Kd.R_mono (Kd.R_keep (IsS125.apart (show IsS125 w0 _ g s0_0 x1001_2 x1002_2 from by exact zp29_1_ HI0.out NB0_593.out NB0_597.out) (rr_ HO_8.out) (by decide)) hk (fun _ h => h.2)) (fun _ h => h.1)); have n1_ := am_ (Kd.R_mono (Kd.R_keep (IsS125.apart (show IsS125 w0 _ g s0_0 x1001_2 x1002_2 from by exact zp29_1_ HI0.out NB0_593.out NB0_597.out) (rr_ HO_598000.out) (by decide)) hk (fun _ h => h.2)) (fun _ h => h.1)); have n2_ := am_ (Kd.S_mono (Kd.S_keep (IsS125.apartS (show IsS125 w0 _ g s0_0 x1001_2 x1002_2 from by exact zp29_1_ HI0.out NB0_593.out NB0_597.out) (rs_ HO_598001.out) (by decide)) hk (fun _ h => h.2)) (fun _ h => h.1)); have n3_ := am_ (KeepBut.blk hk (g' := gb593) (o := .cells #[.slice none 0 0, .slice none 0 0] 27 (0, 0)) (rb_ BK593.out) NB593_0.out (by simp)); have n4_ := am_ (KeepBut.blk hk (g' := gb597) (o := .cells #[.slice Ao16 y601.length co16, u598001] 27 (0, 0)) (rb_ BK597.out) NB597_0.out (by simp)); have n5_ := am_ (KeepBut.trans (k2_ HK.out GW593.out GW597.out) hk (.inl rfl)); have n6_ := am_ (hb); have n7_ := am_ (hi); clear HO_8; clear HO_598000; clear HO_598001; clear BK593; clear BK597; clear HK; clear HB; clear HI0; have HO_8 := n0_; have HO_598000 := n1_; have HO_598001 := n2_; have BK593 := n3_; have BK597 := n4_; have HK := n5_; have HB := n6_; have HI0 := n7_; clear n0_ n1_ n2_ n3_ n4_ n5_ n6_ n7_; (try clear hb); (try clear hb2); (try clear hk); (try clear hi)) | ((with_reducible refine gate_builtin (b := .append) (xs := #[.tmp 32, .tmp 36]) rfl ?_); at_builtin; refine Kd.R_append (Kd.int .i64) w.heap.size rfl (.tmp 32) (.tmp 36) 67 3 (.int .i64 0) 8 rfl Try.underlying67 info3 rfl (by decide) (by omega) u8 x8_2 t607 [.int .i64 t607] (fun _ => True) (fun _ => False) rfl rfl ?aP (fun _ hk => hk.elim) ?aF ?aO (Below.refl _ _) ?aS ?aL ?_; (case aP => exact rfl); (case aF => exact (fun _ _ => trivial)); (case aO => exact (rr_ HO_8.out)); (case aS => exact (keep_size (w := w) (g := g) (row := none) (k2_ HK.out GW593.out GW597.out))); (case aL => have := LMc22.out; omega); intro v611 w24 ho hb hg hat; rw [← Ny610.out] at ho; have n0_ := am_ (Kd.R_over' (rr_ HO_598000.out) (Kd.R_typed (rr_ HO_8.out)) (by decide) hg); have n1_ := am_ (Kd.S_after (ok := (fun _ => True)) (by refine rs_ ?_; exact Kd.S_mono HO_598001.out (fun _ hk => ⟨trivial, hk⟩)) hg hat); have n2_ := am_ (blk_grown (g := gb593) (o := .cells #[.slice none 0 0, .slice none 0 0] 27 (0, 0)) (rb_ BK593.out) hg (Kd.R_ne HO_8.out BK593.out (by decide))); have n3_ := am_ (blk_grown (g := gb597) (o := .cells #[.slice Ao16 y601.length co16, u598001] 27 (0, 0)) (rb_ BK597.out) hg (Kd.R_ne HO_8.out BK597.out (by decide))); have n4_ := am_ (IsS125.grown (zp29_1_ HI0.out NB0_593.out NB0_597.out) hg (IsS125.own_ne HI0.out HO_8.out (by decide))); have n5_ := am_ (below_weaken (b3_ HB.out (IsS125.ge HI0.out) GE593.out GE597.out) HL.out hb); have n6_ := am_ (KeepBut.trans (k2_ HK.out GW593.out GW597.out) (KeepBut.of_grown hg g) (Kd.R_base2 HO_8.out)); have n7_ := am_ (ho); clear HO_598000; clear HO_598001; clear BK593; clear BK597; clear HI0; clear HB; clear HK; clear HO_8; have HO_598000 := n0_; have HO_598001 := n1_; have BK593 := n2_; have BK597 := n3_; have HI0 := n4_; have HB := n5_; have HK := n6_; have HO612 := n7_; clear n0_ n1_ n2_ n3_ n4_ n5_ n6_ n7_; clear ho hb hg hat))
         go_roundg k2
         case measure => have := HK1.out; have := HK2.out; omega
         case rel => exact ⟨(y610), (wrap64 (x9_2 + 1)), (t608), (t609), (by first | rfl | (simp; done) | (simp [*]; done)), H', ⟨by have := HK1.out; have := HK2.out; omega⟩, ⟨by refine rr_ ?_; exact HO612.out⟩, ⟨by refine rr_ ?_; exact HO_598000.out⟩, ⟨by refine rs_ ?_; exact Kd.S_mono HO_598001.out (fun _ hk => hk.2)⟩, ⟨by refine rb_ ?_; exact BK593.out⟩, ⟨by refine rb_ ?_; exact BK597.out⟩, ⟨by exact zp29_1_ HI0.out NB0_593.out NB0_597.out⟩, ⟨by exact zp29_2_ HK.out GW593.out GW597.out⟩, ⟨by exact zp29_3_ HB.out (IsS125.ge HI0.out) GE593.out GE597.out⟩⟩
        ·rw [if_neg c22] at H
         exact absurd H (by simp)
       ·rw [if_neg c20] at H
        have c20b0 : decide (x9_2 < 3) = false := decide_eq_false c20
        clear c20
        by_cases c25 : x598001_1.length < 5864062014805
        ·rw [if_pos c25] at H
         have LMc25 := am_ c25
         clear c25
         obtain ⟨y613, hy613⟩ : ∃ y_ : List (List Int), y_ = (x598001_1 ++ [x8_2]) := ⟨_, rfl⟩
         replace H : (spec_l5Draw.l0 k2 (wrap64 (1 + t594)) (wrap64 (x7_1 + 1)) s0_0 x1001_2 x1002_2 y601 y613) = some (r1, r2, r3, r4) := by first | (rw [hy613]; with_reducible exact H) | (have H2_ := (Option.bind_some _ _).symm.trans H; rw [hy613]; with_reducible exact H2_) | (have H2_ := (Option.bind_some _ _).symm.trans H; with_reducible exact H2_) | with_reducible exact H | (rw [hy613]; exact H) | exact H
         have Ny613 := am_ hy613
         clear hy613
         have H' := am_ H
         clear H
         have hnb26 := NB597_593.out
         have hnc26 := NB593_597.out
         have hnb27 := NB597_0.out
         have hnc27 := NB0_597.out
         have hcz28_0 : wr.cell? ⟨gb597, 0, none⟩ = some (.slice Ao16 y601.length co16) := (blk_cell BK597.out 0).trans rfl
         have hcz28_1 : wr.cell? ⟨gb597, 1, none⟩ = some (u598001) := (blk_cell BK597.out 1).trans rfl
         have hfz28_0 := blk_frozen BK597.out 0
         have hfz28_1 := blk_frozen BK597.out 1
         obtain ⟨Ao30, co30, eo30⟩ := Kd.R_slice HO_8.out
         subst eo30
         go_wp2_with (first | ((with_reducible refine gate_builtin (b := .append) (xs := #[.tmp 39, .tmp 41]) rfl ?_); at_builtin; refine Kd.S_append (Kd.slice 3 (Kd.int .i64)) w.heap.size rfl (.tmp 39) (.tmp 41) 23 67 (.slice none 0 0) 24 rfl Try.underlying23 info67 rfl (by decide) (by omega) u598001 x598001_1 x8_2 [.slice Ao30 x8_2.length co30] (fun _ => True) (fun k_ => some k_ = (.slice Ao30 x8_2.length co30 : Value).ownBlock) rfl rfl ?aP (fun k_ hk_ => ((Kd.R_mono (ok' := fun k_ => ((fun _ => True)) k_ ∧ some k_ ≠ (u598001 : Value).ownBlock) (Kd.R_apart' (HO_8.out) (Kd.S_typed HO_598001.out) (by decide)) (fun k_ hk => ⟨trivial, hk.2⟩))).1 k_ hk_.symm) ?aF ?aO (Below.refl _ _) ?aS ?aL ?_; (case aP => exact Kd.M_row (Kd.R_mono (Kd.R_tight rfl (Kd.R_mono (ok' := fun k_ => ((fun _ => True)) k_ ∧ some k_ ≠ (u598001 : Value).ownBlock) (Kd.R_apart' (HO_8.out) (Kd.S_typed HO_598001.out) (by decide)) (fun k_ hk => ⟨trivial, hk.2⟩))) (fun _ h_ => h_))); (case aF => exact (fun _ _ => trivial)); (case aO => exact (by refine rs_ ?_; exact Kd.S_mono HO_598001.out (fun k_ hk => ⟨trivial, fun e_ => hk e_⟩))); (case aS => exact (keep_size (w := w) (g := g) (row := none) (k2_ HK.out GW593.out GW597.out))); (case aL => have := LMc25.out; omega); intro v614 w29 ho hb hg hat; rw [← Ny613.out] at ho; have n0_ := am_ (Kd.R_over' (rr_ HO_598000.out) (Kd.S_typed (rs_ HO_598001.out)) (by decide) hg); have n1_ := am_ (blk_grown (g := gb593) (o := .cells #[.slice none 0 0, .slice none 0 0] 27 (0, 0)) (rb_ BK593.out) hg (Kd.S_ne HO_598001.out BK593.out (by decide))); have n2_ := am_ (blk_grown (g := gb597) (o := .cells #[.slice Ao16 y601.length co16, u598001] 27 (0, 0)) (rb_ BK597.out) hg (Kd.S_ne HO_598001.out BK597.out (by decide))); have n3_ := am_ (IsS125.grown (zp29_1_ HI0.out NB0_593.out NB0_597.out) hg (IsS125.own_neS HI0.out HO_598001.out (by decide))); have n4_ := am_ (below_weaken (b3_ HB.out (IsS125.ge HI0.out) GE593.out GE597.out) HL.out hb); have n5_ := am_ (KeepBut.trans (k2_ HK.out GW593.out GW597.out) (KeepBut.of_grown hg g) (Kd.S_base2 HO_598001.out)); have n6_ := am_ (ho); clear HO_598000; clear BK593; clear BK597; clear HI0; clear HB; clear HK; clear HO_598001; clear HO_8; have HO_598000 := n0_; have BK593 := n1_; have BK597 := n2_; have HI0 := n3_; have HB := n4_; have HK := n5_; have HO615 := n6_; clear n0_ n1_ n2_ n3_ n4_ n5_ n6_; clear ho hb hg hat; obtain ⟨Ao31, co31, eo31⟩ := Kd.S_slice HO615.out; subst eo31; have hcz32_0 : w29.cell? ⟨gb597, 0, none⟩ = some (.slice Ao16 y601.length co16) := (blk_cell BK597.out 0).trans rfl; have hcz32_1 : w29.cell? ⟨gb597, 1, none⟩ = some (u598001) := (blk_cell BK597.out 1).trans rfl; have hfz32_0 := blk_frozen BK597.out 0; have hfz32_1 := blk_frozen BK597.out 1))
         go_roundg k2
         case measure => have := HK1.out; have := HK2.out; omega
         case rel => exact ⟨(wrap64 (x7_1 + 1)), (x1001_2), (x1002_2), (y601), (y613), (.slice Ao16 y601.length co16), (.slice Ao31 y613.length co31), (by first | rfl | (simp; done) | (simp [*]; done)), H', ⟨by have := HK1.out; have := HK2.out; omega⟩, ⟨by refine rr_ ?_; exact Kd.R_mono (Kd.R_far (p := ⟨gb597, 1, none⟩) (Kd.R_types HO_598000.out BK597.out (by decide)) (fun _ hk => hk.2) (.slice Ao31 y613.length co31)) (fun _ hk => trivial)⟩, ⟨by refine rs_ ?_; exact Kd.S_mono (Kd.S_far (p := ⟨gb597, 1, none⟩) (Kd.S_types HO615.out BK597.out (by decide)) (fun _ hk => hk.2) (.slice Ao31 y613.length co31)) (fun _ hk => trivial)⟩, ⟨by refine rb_ ?_; refine blk_far ?_ NB593_597.out _; refine rb_ ?_; exact BK593.out⟩, ⟨by refine rb_ ?_; refine blk_put (cs := #[.slice Ao16 y601.length co16, u598001]) ?_ 1 _ rfl; refine rb_ ?_; exact BK597.out⟩, ⟨by exact zp29_1_ HI0.out NB0_593.out NB0_597.out⟩, ⟨by exact zp29_2_ HK.out GW593.out GW597.out⟩, ⟨by exact zp29_3_ HB.out (IsS125.ge HI0.out) GE593.out GE597.out⟩⟩
        ·rw [if_neg c25] at H
         exact absurd H (by simp)
    ·rw [if_neg c12] at H
     exact absurd H (by simp)
   ·rw [if_neg c10] at H
    have c10b0 : decide (x7_1 < (wrap64 (1 + t594))) = false := decide_eq_false c10
    clear c10
    simp only [Option.some.injEq, Prod.mk.injEq] at H
    obtain ⟨rfl, rfl, rfl, rfl⟩ := H
    have hnb33 := NB597_593.out
    have hnc33 := NB593_597.out
    have hnb34 := NB597_0.out
    have hnc34 := NB0_597.out
    have hcz35_0 : wr.cell? ⟨gb597, 0, none⟩ = some (u598000) := (blk_cell BK597.out 0).trans rfl
    have hcz35_1 : wr.cell? ⟨gb597, 1, none⟩ = some (u598001) := (blk_cell BK597.out 1).trans rfl
    have hfz35_0 := blk_frozen BK597.out 0
    have hfz35_1 := blk_frozen BK597.out 1
    obtain ⟨Ao36, co36, eo36⟩ := Kd.R_slice HO_598000.out
    subst eo36
    have hnb37 := NB593_0.out
    have hnc37 := NB0_593.out
    have hcz38_0 : wr.cell? ⟨gb593, 0, none⟩ = some (.slice none 0 0) := (blk_cell BK593.out 0).trans rfl
    have hcz38_1 : wr.cell? ⟨gb593, 1, none⟩ = some (.slice none 0 0) := (blk_cell BK593.out 1).trans rfl
    have hfz38_0 := blk_frozen BK593.out 0
    have hfz38_1 := blk_frozen BK593.out 1
    obtain ⟨Ao39, co39, eo39⟩ := Kd.S_slice HO_598001.out
    subst eo39
    go_wp2
    refine bodyPost_ret (results_cell_row rfl _ _ gb593 27 #[.slice Ao36 x598000_1.length co36, .slice Ao39 x598001_1.length co39] (0, 0) _ rfl (by refine rb_ ?_; refine blk_put (cs := #[.slice Ao36 x598000_1.length co36, .slice none 0 0]) ?_ 1 _ rfl; refine rb_ ?_; refine blk_put (cs := #[.slice none 0 0, .slice none 0 0]) ?_ 0 _ rfl; refine rb_ ?_; exact BK593.out) Try.underlying27 rfl (by kernel_rfl)) rfl ?_
    exact ⟨_, _, by first | rfl | (simp [errW_none, errW_some] <;> rfl) | (simp [*, errW_none, errW_some] <;> rfl), by refine rr_ ?_; exact Kd.R_mono (Kd.R_far (p := ⟨gb593, 1, none⟩) (Kd.R_far (p := ⟨gb593, 0, none⟩) (Kd.R_types HO_598000.out BK593.out (by decide)) (fun _ hk => hk.2) (.slice Ao36 x598000_1.length co36)) (fun _ hk => hk.2) (.slice Ao39 x598001_1.length co39)) (fun _ hk => trivial), by refine rs_ ?_; exact Kd.S_mono (Kd.S_far (p := ⟨gb593, 1, none⟩) (Kd.S_far (p := ⟨gb593, 0, none⟩) (Kd.S_types HO_598001.out BK593.out (by decide)) (fun _ hk => hk.2) (.slice Ao36 x598000_1.length co36)) (fun _ hk => hk.2) (.slice Ao39 x598001_1.length co39)) (fun _ hk => trivial), by exact zp29_1_ HI0.out NB0_593.out NB0_597.out, by exact zp29_3_ HB.out (IsS125.ge HI0.out) GE593.out GE597.out, by exact zp29_2_ HK.out GW593.out GW597.out⟩
end Go.Proofs.Ytogamkblkoobkaa.P
end
