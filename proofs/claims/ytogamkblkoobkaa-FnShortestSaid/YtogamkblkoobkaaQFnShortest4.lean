/- Texts of the proof of FnShortest, put together. No condition. -/
import Derived.Test.YtogamkblkoobkaaQFnShortest2
import Derived.Test.YtogamkblkoobkaaQFnShortest3
import Derived.Maps.Own
import Derived.Maps.OwnOps
import Derived.Maps.OwnSet
import Derived.Maps.Views
import Derived.Shelf.Abstract
import Derived.Lib.Walk
import Derived.DeepKeys4
import Derived.WideKeyPair
import Derived.Test.YtogamkblkoobkaaProg
import Derived.Deep.Slices
import Derived.Lib.SmallJoins
import Derived.Shelf.Small.Strs
import Derived.Shelf.Strings.Search1
section
namespace Go.Proofs.Ytogamkblkoobkaa.P
open Go.RowKit Go.Proofs.YtogamkblkoobkaaW.PrintWords Go.Proofs.YtogamkblkoobkaaW.PrintLast Go.Proofs.YtogamkblkoobkaaW.PrintMore
attribute [local go_sem] max2_int min2_int max_two min_two max_three min_three max_four min_four
set_option linter.unusedVariables false
set_option linter.unusedSimpArgs false
def spec_MinimizeDfa.f (k : Nat) (l0_0 : List Bool) (l0_1 : List (List Int)) : Option (List Bool × (List (List Int))) := (spec_IsValidDfa.f k l0_0 l0_1).bind fun t181 => (if t181 = true then ((spec_l5Minimal.f k l0_0 l0_1).bind fun bt182 => (some (bt182.1, bt182.2))) else (some (([] : List Bool), ([] : List (List Int)))))
theorem spec_MinimizeDfa.mono : ∀ a0 a1 k, LeO (spec_MinimizeDfa.f k a0 a1) (spec_MinimizeDfa.f (k + 1) a0 a1) := by
 intro a0 a1 k
 unfold spec_MinimizeDfa.f
 repeat' first
   | (with_reducible exact spec_IsValidDfa.mono _ _ _)
   | (with_reducible exact spec_l5Minimal.mono _ _ _)
   | (with_reducible exact LeO.refl _)
   | (with_reducible exact LeO.none _)
   | (with_reducible refine LeO.ite ?_ ?_)
   | (with_reducible refine LeO.bind ?_ (fun _ => ?_))
   | exact spec_IsValidDfa.mono _ _ _
   | exact spec_l5Minimal.mono _ _ _
   | exact LeO.none _
   | refine LeO.ite ?_ ?_
   | refine LeO.bind ?_ (fun _ => ?_)
set_option maxHeartbeats 8000000 in
set_option maxRecDepth 100000 in
theorem spec_MinimizeDfa.calls (k : Nat) (A0_0 : Option Addr) (c0_0 : Nat) (l0_0 : List Bool) (A0_1 : Option Addr) (c0_1 : Nat) (l0_1 : List (List Int)) (r1 : List Bool) (r2 : List (List Int)) (w : World) (hr0_0 : Kd.C Kd.bool w A0_0 l0_0.length l0_0) (hc0_0 : l0_0.length ≤ c0_0) (hr0_1 : Kd.C (Kd.slice 3 (Kd.int .i64)) w A0_1 l0_1.length l0_1) (hc0_1 : l0_1.length ≤ c0_1) (h : spec_MinimizeDfa.f k l0_0 l0_1 = some (r1, r2)) :
  Calls Try.prog 33 #[.agg #[.slice A0_0 l0_0.length c0_0, .slice A0_1 l0_1.length c0_1]] w fun e w' => ∃ v0_ v1_ : Value, e = .returned (.agg #[v0_, v1_]) ∧ Kd.R Kd.bool 4 w' w.heap.size (fun _ => True) v0_ r1 ∧ Kd.S (Kd.slice 3 (Kd.int .i64)) 67 w' w.heap.size (fun _ => True) v1_ r2 ∧ Below w.heap.size w w' := by
 have hu27 := Try.underlying27
 have HR0_0 := am_ hr0_0
 have HC0_0 := am_ hc0_0
 clear hr0_0 hc0_0
 have HR0_1 := am_ hr0_1
 have HC0_1 := am_ hc0_1
 clear hr0_1 hc0_1
 have HB := am_ (Below.refl w.heap.size w)
 have H : ((spec_IsValidDfa.f k l0_0 l0_1).bind fun t181 => (if t181 = true then ((spec_l5Minimal.f k l0_0 l0_1).bind fun bt182 => (some (bt182.1, bt182.2))) else (some (([] : List Bool), ([] : List (List Int)))))) = some (r1, r2) := h
 clear h
 replace H := Option.bind_eq_some_iff.mp H
 obtain ⟨t181, A20, H⟩ := H
 have A2 := am_ A20
 clear A20
 by_cases c3 : t181 = true
 ·subst c3
  have H1 : ((spec_l5Minimal.f k l0_0 l0_1).bind fun bt182 => (some (bt182.1, bt182.2))) = some (r1, r2) := by rw [if_pos rfl] at H; exact H
  clear H
  have H := H1
  clear H1
  replace H := Option.bind_eq_some_iff.mp H
  obtain ⟨⟨t182, t185⟩, A40, H⟩ := H
  replace H : (some (t182, t185)) = some (r1, r2) := H
  have A4 := am_ A40
  clear A40
  simp only [Option.some.injEq, Prod.mk.injEq] at H
  obtain ⟨rfl, rfl⟩ := H
  go_enter Try.func33, Try.ntmps33
  go_wp2_with (first | ((with_reducible refine gate_dst (N := 1) rfl ?_); refine box_event ?hg (N := 1) ?hd (cs := #[.slice A0_0 l0_0.length c0_0, .slice A0_1 l0_1.length c0_1]) (t := 27) ?hr ?_; (case hd => rfl); (case hg => rfl); (case hr => first | (go_simp; done) | (go_simp; rfl)); intro gb179 hg w5 hbox hb; replace BK179 := am_ (hbox); replace GW179 := am_ ((by rw [hg]; exact (below_size (b0_ HB.out)) : w.heap.size ≤ gb179)); replace GE179 := am_ ((by rw [hg]; exact (below_size (b0_ HB.out)) : w.heap.size ≤ gb179)); replace HB := am_ (below_step (b0_ HB.out) hb); clear hb hbox hg) | ((with_reducible refine gate_dst (N := 2) rfl ?_); refine box_event ?hg (N := 2) ?hd (cs := #[.slice none 0 0, .slice none 0 0]) (t := 27) ?hr ?_; (case hd => rfl); (case hg => rfl); (case hr => first | (go_simp; done) | (go_simp; rfl)); intro gb180 hg w6 hbox hb; have n0_ := am_ (blk_below (rb_ BK179.out) hb); have n1_ := am_ (below_step (b1_ HB.out GE179.out) hb); have n2_ := am_ (hbox); have n3_ := am_ ((by rw [hg]; exact (below_size (b1_ HB.out GE179.out)) : w.heap.size ≤ gb180)); have n4_ := am_ ((by rw [hg]; exact (below_size (b1_ HB.out GE179.out)) : w.heap.size ≤ gb180)); have n5_ := am_ ((by rw [hg]; exact Nat.ne_of_lt (blk_lt (rb_ BK179.out)) : gb179 ≠ gb180)); have n6_ := am_ ((by rw [hg]; exact Nat.ne_of_gt (blk_lt (rb_ BK179.out)) : gb180 ≠ gb179)); clear BK179; clear HB; have BK179 := n0_; have HB := n1_; have BK180 := n2_; have GW180 := n3_; have GE180 := n4_; have NB179_180 := n5_; have NB180_179 := n6_; clear n0_ n1_ n2_ n3_ n4_ n5_ n6_; clear hb hbox hg; have hnb7 := NB179_180.out; have hnc7 := NB180_179.out; have hcz8_0 : w6.cell? ⟨gb179, 0, none⟩ = some (.slice A0_0 l0_0.length c0_0) := (blk_cell BK179.out 0).trans rfl; have hcz8_1 : w6.cell? ⟨gb179, 1, none⟩ = some (.slice A0_1 l0_1.length c0_1) := (blk_cell BK179.out 1).trans rfl; have hfz8_0 := blk_frozen BK179.out 0; have hfz8_1 := blk_frozen BK179.out 1) | ((with_reducible refine gate_callee (f := 35) rfl ?_); refine gL_ (some 4) Try.func35 #[.agg #[.slice A0_0 l0_0.length c0_0, .slice A0_1 l0_1.length c0_1]] ?_; (with_reducible refine (spec_IsValidDfa.calls k _ _ l0_0 _ _ l0_1 true _ ?side1 ?side2 ?side3 ?side4 A2.out).mono ?_); (case side1 => exact rc_ (Kd.C_below HR0_0.out HB.out)); (case side2 => exact HC0_0.out); (case side3 => exact rc_ (Kd.C_below HR0_1.out HB.out)); (case side4 => exact HC0_1.out); rintro e w9 ⟨rfl, hb⟩; refine ⟨_, rfl, ?_⟩; have n0_ := am_ (blk_below (rb_ BK179.out) hb); have n1_ := am_ (blk_below (rb_ BK180.out) hb); have n2_ := am_ (below_step (b2_ HB.out GE179.out GE180.out) hb); clear BK179; clear BK180; clear HB; have BK179 := n0_; have BK180 := n1_; have HB := n2_; clear n0_ n1_ n2_; (try clear hb); (try clear hb2); (try clear hk); (try clear hi); have hcz10_0 : w9.cell? ⟨gb179, 0, none⟩ = some (.slice A0_0 l0_0.length c0_0) := (blk_cell BK179.out 0).trans rfl; have hcz10_1 : w9.cell? ⟨gb179, 1, none⟩ = some (.slice A0_1 l0_1.length c0_1) := (blk_cell BK179.out 1).trans rfl; have hfz10_0 := blk_frozen BK179.out 0; have hfz10_1 := blk_frozen BK179.out 1) | ((with_reducible refine gate_callee (f := 94) rfl ?_); refine gL_ (some 8) Try.func94 #[.agg #[.slice A0_0 l0_0.length c0_0, .slice A0_1 l0_1.length c0_1]] ?_; (with_reducible refine (spec_l5Minimal.calls k _ _ l0_0 _ _ l0_1 t182 t185 _ ?side1 ?side2 ?side3 ?side4 A4.out).mono ?_); (case side1 => exact rc_ (Kd.C_below HR0_0.out HB.out)); (case side2 => exact HC0_0.out); (case side3 => exact rc_ (Kd.C_below HR0_1.out HB.out)); (case side4 => exact HC0_1.out); rintro e w11 ⟨v183, v186, rfl, ho0, ho1, hb⟩; refine ⟨_, rfl, ?_⟩; have n0_ := am_ (Kd.R_lower ho0 (below_size (b2_ HB.out GE179.out GE180.out))); have n1_ := am_ (Kd.S_lower ho1 (below_size (b2_ HB.out GE179.out GE180.out))); have n2_ := am_ (blk_below (rb_ BK179.out) hb); have n3_ := am_ (blk_below (rb_ BK180.out) hb); have n4_ := am_ (below_step (b2_ HB.out GE179.out GE180.out) hb); clear BK179; clear BK180; clear HB; have HO184 := n0_; have HO187 := n1_; have BK179 := n2_; have BK180 := n3_; have HB := n4_; clear n0_ n1_ n2_ n3_ n4_; (try clear hb); (try clear hb2); (try clear hk); (try clear hi); (try clear ho0); (try clear ho1); obtain ⟨Ao12, co12, eo12⟩ := Kd.R_slice HO184.out; subst eo12; have hcz13_0 : w11.cell? ⟨gb180, 0, none⟩ = some (.slice none 0 0) := (blk_cell BK180.out 0).trans rfl; have hcz13_1 : w11.cell? ⟨gb180, 1, none⟩ = some (.slice none 0 0) := (blk_cell BK180.out 1).trans rfl; have hfz13_0 := blk_frozen BK180.out 0; have hfz13_1 := blk_frozen BK180.out 1; obtain ⟨Ao14, co14, eo14⟩ := Kd.S_slice HO187.out; subst eo14))
  refine bodyPost_ret (results_cell_row rfl _ _ gb180 27 #[.slice Ao12 t182.length co12, .slice Ao14 t185.length co14] (0, 0) _ rfl (by refine rb_ ?_; refine blk_put (cs := #[.slice Ao12 t182.length co12, .slice none 0 0]) ?_ 1 _ rfl; refine rb_ ?_; refine blk_put (cs := #[.slice none 0 0, .slice none 0 0]) ?_ 0 _ rfl; refine rb_ ?_; exact BK180.out) Try.underlying27 rfl (by kernel_rfl)) rfl ?_
  exact ⟨_, _, by first | rfl | (simp [errW_none, errW_some] <;> rfl) | (simp [*, errW_none, errW_some] <;> rfl), by refine rr_ ?_; exact Kd.R_mono (Kd.R_far (p := ⟨gb180, 1, none⟩) (Kd.R_far (p := ⟨gb180, 0, none⟩) (Kd.R_types HO184.out BK180.out (by decide)) (fun _ hk => hk.2) (.slice Ao12 t182.length co12)) (fun _ hk => hk.2) (.slice Ao14 t185.length co14)) (fun _ hk => trivial), by refine rs_ ?_; exact Kd.S_mono (Kd.S_far (p := ⟨gb180, 1, none⟩) (Kd.S_far (p := ⟨gb180, 0, none⟩) (Kd.S_types HO187.out BK180.out (by decide)) (fun _ hk => hk.2) (.slice Ao12 t182.length co12)) (fun _ hk => hk.2) (.slice Ao14 t185.length co14)) (fun _ hk => trivial), by repeat (first | (with_reducible first | exact HB.out | apply below_alloc | apply pw_below_drewN | apply below_drew1 | refine below_set ?_ GE179.out | refine below_set ?_ GE180.out) | exact HB.out)⟩
 ·replace c3 := Bool.eq_false_iff.mpr c3
  subst c3
  have H1 : (some (([] : List Bool), ([] : List (List Int)))) = some (r1, r2) := by rw [if_neg (show ¬ (false = true) by decide)] at H; exact H
  clear H
  have H := H1
  clear H1
  simp only [Option.some.injEq, Prod.mk.injEq] at H
  obtain ⟨rfl, rfl⟩ := H
  go_enter Try.func33, Try.ntmps33
  go_wp2_with (first | ((with_reducible refine gate_dst (N := 1) rfl ?_); refine box_event ?hg (N := 1) ?hd (cs := #[.slice A0_0 l0_0.length c0_0, .slice A0_1 l0_1.length c0_1]) (t := 27) ?hr ?_; (case hd => rfl); (case hg => rfl); (case hr => first | (go_simp; done) | (go_simp; rfl)); intro gb179 hg w15 hbox hb; replace BK179 := am_ (hbox); replace GW179 := am_ ((by rw [hg]; exact (below_size (b0_ HB.out)) : w.heap.size ≤ gb179)); replace GE179 := am_ ((by rw [hg]; exact (below_size (b0_ HB.out)) : w.heap.size ≤ gb179)); replace HB := am_ (below_step (b0_ HB.out) hb); clear hb hbox hg) | ((with_reducible refine gate_dst (N := 2) rfl ?_); refine box_event ?hg (N := 2) ?hd (cs := #[.slice none 0 0, .slice none 0 0]) (t := 27) ?hr ?_; (case hd => rfl); (case hg => rfl); (case hr => first | (go_simp; done) | (go_simp; rfl)); intro gb180 hg w16 hbox hb; have n0_ := am_ (blk_below (rb_ BK179.out) hb); have n1_ := am_ (below_step (b1_ HB.out GE179.out) hb); have n2_ := am_ (hbox); have n3_ := am_ ((by rw [hg]; exact (below_size (b1_ HB.out GE179.out)) : w.heap.size ≤ gb180)); have n4_ := am_ ((by rw [hg]; exact (below_size (b1_ HB.out GE179.out)) : w.heap.size ≤ gb180)); have n5_ := am_ ((by rw [hg]; exact Nat.ne_of_lt (blk_lt (rb_ BK179.out)) : gb179 ≠ gb180)); have n6_ := am_ ((by rw [hg]; exact Nat.ne_of_gt (blk_lt (rb_ BK179.out)) : gb180 ≠ gb179)); clear BK179; clear HB; have BK179 := n0_; have HB := n1_; have BK180 := n2_; have GW180 := n3_; have GE180 := n4_; have NB179_180 := n5_; have NB180_179 := n6_; clear n0_ n1_ n2_ n3_ n4_ n5_ n6_; clear hb hbox hg; have hnb17 := NB179_180.out; have hnc17 := NB180_179.out; have hcz18_0 : w16.cell? ⟨gb179, 0, none⟩ = some (.slice A0_0 l0_0.length c0_0) := (blk_cell BK179.out 0).trans rfl; have hcz18_1 : w16.cell? ⟨gb179, 1, none⟩ = some (.slice A0_1 l0_1.length c0_1) := (blk_cell BK179.out 1).trans rfl; have hfz18_0 := blk_frozen BK179.out 0; have hfz18_1 := blk_frozen BK179.out 1) | ((with_reducible refine gate_callee (f := 35) rfl ?_); refine gL_ (some 4) Try.func35 #[.agg #[.slice A0_0 l0_0.length c0_0, .slice A0_1 l0_1.length c0_1]] ?_; (with_reducible refine (spec_IsValidDfa.calls k _ _ l0_0 _ _ l0_1 false _ ?side1 ?side2 ?side3 ?side4 A2.out).mono ?_); (case side1 => exact rc_ (Kd.C_below HR0_0.out HB.out)); (case side2 => exact HC0_0.out); (case side3 => exact rc_ (Kd.C_below HR0_1.out HB.out)); (case side4 => exact HC0_1.out); rintro e w19 ⟨rfl, hb⟩; refine ⟨_, rfl, ?_⟩; have n0_ := am_ (blk_below (rb_ BK179.out) hb); have n1_ := am_ (blk_below (rb_ BK180.out) hb); have n2_ := am_ (below_step (b2_ HB.out GE179.out GE180.out) hb); clear BK179; clear BK180; clear HB; have BK179 := n0_; have BK180 := n1_; have HB := n2_; clear n0_ n1_ n2_; (try clear hb); (try clear hb2); (try clear hk); (try clear hi); have hcz20_0 : w19.cell? ⟨gb180, 0, none⟩ = some (.slice none 0 0) := (blk_cell BK180.out 0).trans rfl; have hcz20_1 : w19.cell? ⟨gb180, 1, none⟩ = some (.slice none 0 0) := (blk_cell BK180.out 1).trans rfl; have hfz20_0 := blk_frozen BK180.out 0; have hfz20_1 := blk_frozen BK180.out 1))
  refine bodyPost_ret (results_cell_row rfl _ _ gb180 27 #[.slice none 0 0, .slice none 0 0] (0, 0) _ rfl (by refine rb_ ?_; refine blk_put (cs := #[.slice none 0 0, .slice none 0 0]) ?_ 1 _ rfl; refine rb_ ?_; refine blk_put (cs := #[.slice none 0 0, .slice none 0 0]) ?_ 0 _ rfl; refine rb_ ?_; exact BK180.out) Try.underlying27 rfl (by kernel_rfl)) rfl ?_
  exact ⟨_, _, by first | rfl | (simp [errW_none, errW_some] <;> rfl) | (simp [*, errW_none, errW_some] <;> rfl), by first | exact Kd.R_nil _ _ _ _ _ | exact Kd.N_nil _ _ _ _ _ | exact Kd.V_nil _ _ _ _ _ | exact Kd.Q_nil _ _ _ _ _ | exact Kd.S_nil _ _ _ _ _, by first | exact Kd.S_nil _ _ _ _ _ | exact Kd.N_nil _ _ _ _ _ | exact Kd.V_nil _ _ _ _ _ | exact Kd.Q_nil _ _ _ _ _ | exact Kd.R_nil _ _ _ _ _, by repeat (first | (with_reducible first | exact HB.out | apply below_alloc | apply pw_below_drewN | apply below_drew1 | refine below_set ?_ GE179.out | refine below_set ?_ GE180.out) | exact HB.out)⟩
end Go.Proofs.Ytogamkblkoobkaa.P
end
section
namespace Go.Proofs.Ytogamkblkoobkaa.Pl
open Go.RowKit Go.Proofs.YtogamkblkoobkaaW.PrintWords Go.Proofs.YtogamkblkoobkaaW.PrintLast Go.Proofs.YtogamkblkoobkaaW.PrintMore
set_option linter.unusedVariables false
set_option linter.unusedSimpArgs false
theorem next {α : Type} {g : Nat → Option α} {r : α} (h : Ev (fun k => g (k + 1)) r) : Ev g r := by
  obtain ⟨K, hK⟩ := h
  refine ⟨K + 1, fun k hk => ?_⟩
  obtain ⟨m, rfl⟩ : ∃ m, k = m + 1 := ⟨k - 1, by omega⟩
  exact hK m (by omega)
theorem ev_some {α : Type} {a b : α} (h : a = b) : Ev (fun _ => some a) b := by subst h; exact Ev.now a
theorem ev_eq {α : Type} {g : Nat → Option α} {a b : α} (h : Ev g a) (e : a = b) : Ev g b := e ▸ h
theorem w64 {x : Int} (h0 : -9223372036854775808 ≤ x) (h1 : x ≤ 9223372036854775807) : wrap64 x = x := by
  unfold wrap64
  omega
theorem up1 {i : Nat} (h : i < 9223372036854775807) : wrap64 ((i : Int) + 1) = ((i + 1 : Nat) : Int) := by
  rw [w64 (by omega) (by omega)]
  omega
theorem rd_get (xs : List Int) (i : Nat) (h : i < xs.length) : rd xs i = xs[i] := by
  simp [rd, List.getD_eq_getElem?_getD, h]
theorem rdOf_get {α : Type} (z : α) (xs : List α) (i : Nat) (h : i < xs.length) : rdOf z xs i = xs[i] := by
  simp [rdOf, List.getD_eq_getElem?_getD, h]
theorem len_bytes (s : ByteArray) : (bytesOf s).length = s.size := by
  simp only [bytesOf, List.length_map]
  exact Array.length_toList
theorem bt_get (s : ByteArray) (i : Nat) (h : i < s.size) : bt s i = (bytesOf s)[i]'(by rw [len_bytes]; exact h) := by
  simp only [bt, Int.toNat_natCast, h, dif_pos, bytesOf, List.getElem_map, Array.getElem_toList]
  rfl
theorem drop_cons (s : ByteArray) (i : Nat) (h : i < s.size) : (bytesOf s).drop i = bt s i :: (bytesOf s).drop (i + 1) := by
  rw [List.drop_eq_getElem_cons (by rw [len_bytes]; exact h), bt_get s i h]
theorem drop_end (s : ByteArray) (i : Nat) (h : s.size ≤ i) : (bytesOf s).drop i = [] := List.drop_eq_nil_of_le (by rw [len_bytes]; exact h)
theorem bytes_append (a b : ByteArray) : bytesOf (a ++ b) = bytesOf a ++ bytesOf b := by
  simp [bytesOf, ByteArray.data_append]
end Go.Proofs.Ytogamkblkoobkaa.Pl
end
section
namespace Go.Proofs.Ytogamkblkoobkaa.Mp
open Go.RowKit Go.Maps Go.Proofs.YtogamkblkoobkaaW.PrintWords Go.Proofs.YtogamkblkoobkaaW.PrintLast Go.Proofs.YtogamkblkoobkaaW.PrintMore
set_option linter.unusedVariables false
set_option linter.unusedSimpArgs false
structure MapTy (P : Program) (t k e : TypeId) (q : IntKind) {α : Type} (enc : α → Value) (ok : α → Prop) : Prop where
  K : Keyed P k
  ht : P.underlying t = some (.map k e)
  he : P.underlying e = some (.int q)
  hz : ∀ w, (zeroValue e).run P w = .ok (.int q 0) w
  key : ∀ x, ok x → ∃ l, keyOf P k (enc x) = some l
  inj : ∀ x y, enc x = enc y → x = y
def MapIs (P : Program) (k e : TypeId) (q : IntKind) {α : Type} (enc : α → Value) (ok : α → Prop) (w : World) (b : Nat) (m : α → Option Int) (c : Nat) : Prop :=
  ∃ D : DataW Unit, w.ownsMap P k (plainElem P e) b c D ∧ Maps.size D = c ∧ ∀ x l, ok x → keyOf P k (enc x) = some l → Maps.has D l = (m x).isSome ∧ ∀ v, m x = some v → ∀ z, D.atKey l z = .lit (.int q v)
section
variable {P : Program} {t k e : TypeId} {q : IntKind} {α : Type} {enc : α → Value} {ok : α → Prop} {w w' : World} {b c : Nat} {m : α → Option Int}
theorem MapIs.lt (h : MapIs P k e q enc ok w b m c) : b < w.heap.size := by
  obtain ⟨D, ho, _⟩ := h
  exact ho.lt
theorem MapIs.kept {row : Option Nat} (h : MapIs P k e q enc ok w b m c) (hg : w.grownBy w' row) (hne : some b ≠ row) : MapIs P k e q enc ok w' b m c := by
  obtain ⟨D, ho, hs⟩ := h
  exact ⟨D, ho.kept hg hne, hs⟩
theorem grown_below (hb : Below w.heap.size w w') : w.grownBy w' none := ⟨hb.os, hb.tape, hb.output, hb.size, fun i hi _ => hb.block i hi⟩
theorem MapIs.below (h : MapIs P k e q enc ok w b m c) (hb : Below w.heap.size w w') : MapIs P k e q enc ok w' b m c := h.kept (grown_below hb) (by simp)
theorem MapIs.made (w : World) : MapIs P k e q enc ok (w.alloc (.map #[] 0)) w.heap.size (fun _ => none) 0 :=
  ⟨.map [], World.ownsMap_made _ _ _ _, rfl, fun x l _ _ => ⟨rfl, fun v h => by cases h⟩⟩
theorem MapIs.not_row (h : MapIs P k e q enc ok w b m c) {v : Value} {e' : TypeId} (hty : ∀ g, v.ownBlock = some g → ∃ cells, w.heap[g]? = some (.cells cells e' (0, 0))) : some b ≠ v.ownBlock := by
  intro he
  obtain ⟨D, ⟨es, clock, hb, _⟩, _⟩ := h
  obtain ⟨cells, hc⟩ := hty b he.symm
  rw [hb] at hc
  cases hc
theorem R_over_map {β : Type} {d : Kd β} {e' base : Nat} {okk : Nat → Prop} {v : Value} {xs : List β} (h : d.R e' w base okk v xs) (hM : MapIs P k e q enc ok w b m c) (hg : w.grownBy w' (some b)) : d.R e' w' base okk v xs := by
  refine Kd.R_mono (Kd.R_move (Kd.R_bound h) (fun k hk => hg.block k hk.2.2.1 (fun he => ?_))) (fun _ hk => hk.1)
  obtain ⟨_, _, _, q, hq, cells, hc⟩ := hk
  obtain ⟨D, ⟨es, clock, hb, _⟩, _⟩ := hM
  injection he with he
  subst he
  rw [hb] at hc
  cases hc
theorem below_map {w0 : World} (h : Below w0.heap.size w0 w) (hg : w.grownBy w' (some b)) (hb : w0.heap.size ≤ b) : Below w0.heap.size w0 w' := h.grown hg h.size (fun k hk => by injection hk with hk; omega)
theorem put_new (T : MapTy P t k e q enc ok) (x : α) (hx : ok x) {l : Lit} (hl : keyOf P k (enc x) = some l) (v : Int) {D : DataW Unit} (h : w.ownsMap P k (plainElem P e) b c D) (hs : Maps.size D = c)
    (hm : ∀ x l, ok x → keyOf P k (enc x) = some l → Maps.has D l = (m x).isSome ∧ ∀ v, m x = some v → ∀ z, D.atKey l z = .lit (.int q v)) :
    Maps.size (D.put l (.lit (.int q v))) = (if (m x).isSome then c else c + 1) ∧
    ∀ y l', ok y → keyOf P k (enc y) = some l' → Maps.has (D.put l (.lit (.int q v))) l' = (open Classical in if y = x then some v else m y).isSome ∧ ∀ u, (open Classical in if y = x then some v else m y) = some u → ∀ z, (D.put l (.lit (.int q v))).atKey l' z = .lit (.int q u) := by
  refine ⟨?_, fun y l' hy hl' => ?_⟩
  · rw [size_put (h.tidy T.K), hs, (hm x l hx hl).1]
  · by_cases hyx : y = x
    · subst hyx
      obtain rfl : l' = l := Option.some.inj (hl'.symm.trans hl)
      rw [if_pos rfl]
      refine ⟨has_put_same h.isMap (T.K.key hl) _, fun u hu z => ?_⟩
      obtain rfl := Option.some.inj hu
      exact atKey_put_same h.isMap (T.K.key hl) _ _
    · rw [if_neg hyx]
      have hne : l' ≠ l := fun e1 => hyx (T.inj _ _ (T.K.inj (hl'.trans (congrArg some e1)) hl))
      refine ⟨(has_put_other hne _).trans (hm y l' hy hl').1, fun u hu z => ?_⟩
      rw [atKey_put_other hne]
      exact (hm y l' hy hl').2 u hu z
open Classical in
noncomputable def upd (m : α → Option Int) (x : α) (v : Int) : α → Option Int := fun y => if y = x then some v else m y
theorem MapIs.run (T : MapTy P t k e q enc ok) (h : MapIs P k e q enc ok w b m c) (hn : c < maxLen) (x : α) (hx : ok x) (v : Int) (hv : (Lit.int q v).wf = true) :
    ∃ w', (Instr.mapUpdate t (.map (some b)) (enc x) (.int q v)).run P w = .ok () w' ∧ MapIs P k e q enc ok w' b (upd m x v) (if (m x).isSome then c else c + 1) ∧ w.grownBy w' (some b) := by
  obtain ⟨l, hl⟩ := T.key x hx
  obtain ⟨D, ho, hs, hm⟩ := h
  obtain ⟨w', hrun, ho', hg⟩ := ho.update T.K T.ht hn hl (plainElem_int T.he hv)
  obtain ⟨h1, h2⟩ := put_new T x hx hl v ho hs hm
  refine ⟨w', hrun, ⟨_, ?_, h1, h2⟩, hg⟩
  obtain ⟨es, clock, hb, F, hsz, hD⟩ := ho'
  refine ⟨es, clock, hb, F, ?_, hD⟩
  rw [← h1, hD, size_eq, length_sorted]
  simp
variable {ops : Array Oper} {rest : List Oper} {o : Oper} {a : Act} {Q : Exit → Act → World → Prop}
theorem wp_update (T : MapTy P t k e q enc ok) (hg : o.guard = none) (mm xx vv : Operand) (hop : o.op = Op.mapUpdate t mm xx vv) (b c : Nat) (m : α → Option Int) (h : MapIs P k e q enc ok w b m c) (hn : c < maxLen)
    (hm : a.eval mm = .map (some b)) (x : α) (hx : a.eval xx = enc x) (hk : ok x) (v : Int) (hv : a.eval vv = .int q v) (hw : (Lit.int q v).wf = true)
    (hK : ∀ w', MapIs P k e q enc ok w' b (upd m x v) (if (m x).isSome then c else c + 1) → w.grownBy w' (some b) → wpList P ops Q rest (a.put o.dst undef) w') :
    wpList P ops Q (o :: rest) a w := by
  refine wpList_plain hg fun K' hK' => ?_
  obtain ⟨w', hrun, r1, r2⟩ := h.run T hn x hk v hw
  unfold Oper.wp
  simp [execOp, hop, hm, hx, hv, hrun, Result.andThen]
  exact hK' _ _ (hK w' r1 r2)
theorem wp_insert (T : MapTy P t k e q enc ok) (hg : o.guard = none) (mm xx vv : Operand) (hop : o.op = Op.insert t mm xx vv) (b c : Nat) (m : α → Option Int) (h : MapIs P k e q enc ok w b m c) (hn : c < maxLen)
    (hm : a.eval mm = .map (some b)) (x : α) (hx : a.eval xx = enc x) (hk : ok x) (v : Int) (hv : a.eval vv = .int q v) (hw : (Lit.int q v).wf = true)
    (hK : ∀ w', MapIs P k e q enc ok w' b (upd m x v) (if (m x).isSome then c else c + 1) → w.grownBy w' (some b) → wpList P ops Q rest (a.put o.dst undef) w') :
    wpList P ops Q (o :: rest) a w := by
  refine wpList_plain hg fun K' hK' => ?_
  obtain ⟨w', hrun, r1, r2⟩ := h.run T hn x hk v hw
  unfold Oper.wp
  simp [execOp, hop, hm, hx, hv, hrun, Result.andThen]
  exact hK' _ _ (hK w' r1 r2)
theorem wp_make (hg : o.guard = none) (hop : o.op = Op.makeMap t none)
    (hK : ∀ w', MapIs P k e q enc ok w' w.heap.size (fun _ => none) 0 → Below w.heap.size w w' → wpList P ops Q rest (a.put o.dst (.map (some w.heap.size))) w') :
    wpList P ops Q (o :: rest) a w := by
  refine wpList_plain hg fun K' hK' => ?_
  unfold Oper.wp
  simp [execOp, hop, run_makeMap, Result.andThen]
  exact hK' _ _ (hK _ (MapIs.made w) ((Below.refl _ _).alloc (Nat.le_refl _) _))
theorem wp_look_ok (T : MapTy P t k e q enc ok) (hg : o.guard = none) (mm xx : Operand) (hop : o.op = Op.lookup t mm xx true) (b c : Nat) (m : α → Option Int) (h : MapIs P k e q enc ok w b m c)
    (hm : a.eval mm = .map (some b)) (x : α) (hx : a.eval xx = enc x) (hk : ok x)
    (hK : wpList P ops Q rest (a.put o.dst (.tuple #[.int q ((m x).getD 0), .bool (m x).isSome])) w) : wpList P ops Q (o :: rest) a w := by
  obtain ⟨l, hl⟩ := T.key x hk
  obtain ⟨D, ho, hs, hD⟩ := h
  refine wpList_lookup_own_ok_int w hg mm xx t hop k e q T.K T.ht T.he (T.hz w) b c D hm ho _ l hx hl (fun v hat hw => ?_)
  obtain ⟨h1, h2⟩ := hD x l hk hl
  rw [h1]
  cases hmx : m x with
  | none =>
    rw [hmx] at h1
    rw [atKey_of_not_has h1] at hat
    injection hat with hat
    injection hat with _ hat
    subst hat
    rw [hmx] at hK
    exact hK
  | some u =>
    rw [h2 u hmx] at hat
    injection hat with hat
    injection hat with _ hat
    subst hat
    rw [hmx] at hK
    exact hK
end
theorem R_here {β : Type} (d : Kd β) (W : World) (base e : Nat) {xs : List β} {inner : List Value} {okp : Nat → Prop} (hrep : Reps (d.M W base okp) d.sz xs inner) (hbase : base ≤ W.heap.size) (hm : xs.length ≤ 9223372036854775807) :
    d.R e (W.alloc (.cells inner.toArray e)) base (fun _ => True) (.slice (some ⟨W.heap.size, 0, none⟩) xs.length xs.length) xs := by
  refine ⟨fun k hk => trivial, inner, ?_, ?_⟩
  · have h2 := World.ownsRow_lit (base := base) (e := e) (size := d.sz) W inner.toArray xs.length hbase (by simpa [maxLen] using hm) (by simpa using hrep.1)
    simpa using h2
  · refine hrep.imp_ (fun p c hp => d.M_mono (fun k hk => ⟨trivial, fun he => ?_⟩) (Kd.M_below (d.M_bound hp) (below_alloc (Below.refl _ _) _)))
    have h3 : k = W.heap.size := by simpa [Value.ownBlock] using he
    have := hk.2.2.1
    omega
theorem int_ty (P : Program) {t k e : TypeId} {q q' : IntKind} (ht : P.underlying t = some (.map k e)) (hk : P.underlying k = some (.int q')) (he : P.underlying e = some (.int q)) (hz : ∀ w, (zeroValue e).run P w = .ok (.int q 0) w) :
    MapTy P t k e q (Value.int q') (fun x => (Lit.int q' x).wf = true) :=
  ⟨int_keyed hk, ht, he, hz, fun x hx => ⟨_, keyOf_int_mk hk hx⟩, fun x y h => by injection h⟩
end Go.Proofs.Ytogamkblkoobkaa.Mp
end
section
namespace Go.Proofs.Ytogamkblkoobkaa.Bf
open Go.RowKit Go.Proofs.Ytogamkblkoobkaa.Pl Go.Proofs.Ytogamkblkoobkaa.Mp Go.Proofs.YtogamkblkoobkaaW.PrintWords Go.Proofs.YtogamkblkoobkaaW.PrintLast Go.Proofs.YtogamkblkoobkaaW.PrintMore
set_option linter.unusedVariables false
set_option linter.unusedSimpArgs false
set_option linter.unusedSectionVars false
def pc (j : Nat) : ByteArray := (⟨#[97, 98, 99]⟩ : ByteArray).extract j (j + 1)
theorem size_pc (j : Nat) (h : j < 3) : (pc j).size = 1 := by
  match j, h with
  | 0, _ => rfl
  | 1, _ => rfl
  | 2, _ => rfl
section
variable {α : Type} [DecidableEq α]
def idx (s : List α) : α → Option Int := fun y => if y ∈ s then some (s.idxOf y : Int) else none
theorem idx_some {s : List α} {y : α} : (idx s y).isSome = decide (y ∈ s) := by unfold idx; split <;> simp_all
theorem idx_in {s : List α} {y : α} (h : y ∈ s) : (idx s y).isSome = true := by rw [idx_some]; exact decide_eq_true h
theorem idx_out {s : List α} {y : α} (h : y ∉ s) : (idx s y).isSome = false := by rw [idx_some]; exact decide_eq_false h
theorem idx_upd {s : List α} {y : α} (h : y ∉ s) : upd (idx s) y (s.length : Int) = idx (s ++ [y]) := by
  funext z
  unfold upd idx
  by_cases hz : z = y
  · subst hz
    rw [if_pos rfl, if_pos (by simp), List.idxOf_append, if_neg h]
    simp
  · rw [if_neg hz]
    by_cases hm : z ∈ s
    · rw [if_pos hm, if_pos (by simp [hm]), List.idxOf_append, if_pos hm]
    · rw [if_neg hm, if_neg (by simp [hm, hz])]
theorem idx_one (x : α) : upd (fun _ => none) x 0 = idx [x] := by
  funext z
  unfold upd idx
  by_cases hz : z = x
  · subst hz; simp
  · rw [if_neg hz, if_neg (by simp [hz])]
abbrev St (α : Type) := List α × List ByteArray
def put (y : α) (wd : ByteArray) (p : St α) : St α := if y ∈ p.1 then p else (p.1 ++ [y], p.2 ++ [wd])
def ex (nx : α → Nat → α) (x : α) (wd : ByteArray) : Nat → Nat → St α → St α
  | 0, _, p => p
  | d + 1, j, p => ex nx x wd d (j + 1) (put (nx x j) (wd ++ pc j) p)
def bfs (good : α → Bool) (nx : α → Nat → α) : Nat → St α → Nat → ByteArray × Bool
  | 0, _, _ => (⟨#[]⟩, false)
  | d + 1, p, i => if h : i < p.1.length then (if good p.1[i] = true then (p.2.getD i ByteArray.empty, true) else bfs good nx d (ex nx p.1[i] (p.2.getD i ByteArray.empty) 3 0 p) (i + 1)) else (⟨#[]⟩, false)
end
section
variable {α : Type}
structure Fit (dom : α → Prop) (N : Nat) (p : St α) : Prop where
  nd : p.1.Nodup
  all : ∀ x ∈ p.1, dom x
  len : p.2.length = p.1.length
  size : ∀ j, (p.2.getD j ByteArray.empty).size ≤ j
  card : ∀ s : List α, s.Nodup → (∀ x ∈ s, dom x) → s.length ≤ N
theorem Fit.le {dom : α → Prop} {N : Nat} {p : St α} (h : Fit dom N p) : p.1.length ≤ N := h.card _ h.nd h.all
theorem Fit.snoc {dom : α → Prop} {N : Nat} {p : St α} (h : Fit dom N p) {y : α} (hy : dom y) (hn : y ∉ p.1) {wd : ByteArray} (hw : wd.size ≤ p.1.length) : Fit dom N (p.1 ++ [y], p.2 ++ [wd]) where
  nd := by
    rw [List.nodup_append]
    refine ⟨h.nd, by simp, ?_⟩
    intro a ha b hb
    rw [List.mem_singleton] at hb
    subst hb
    rintro rfl
    exact hn ha
  all := fun x hx => by
    rcases List.mem_append.mp hx with q | q
    · exact h.all x q
    · rw [List.mem_singleton] at q
      subst q
      exact hy
  len := by simp [h.len]
  size := fun j => by
    have hl := h.len
    simp only [List.getD_eq_getElem?_getD]
    by_cases hj : j < p.2.length
    · rw [List.getElem?_append_left hj]
      have := h.size j
      simpa only [List.getD_eq_getElem?_getD] using this
    · rw [List.getElem?_append_right (by omega)]
      by_cases hj2 : j - p.2.length = 0
      · rw [hj2]
        simp
        omega
      · rw [List.getElem?_eq_none (by simp; omega)]
        simp [ByteArray.size]
  card := h.card
theorem fit0 {dom : α → Prop} {N : Nat} {x : α} (hx : dom x) (hc : ∀ s : List α, s.Nodup → (∀ x ∈ s, dom x) → s.length ≤ N) : Fit dom N ([x], [(⟨#[]⟩ : ByteArray)]) where
  nd := by simp
  all := fun y hy => by rw [List.mem_singleton] at hy; subst hy; exact hx
  len := rfl
  size := fun j => by cases j <;> simp [ByteArray.size]
  card := hc
end
section
variable {α : Type} [DecidableEq α]
theorem fit_put {dom : α → Prop} {N : Nat} {p : St α} (h : Fit dom N p) {y : α} (hy : dom y) {wd : ByteArray} (hw : wd.size ≤ p.1.length) : Fit dom N (put y wd p) := by
  unfold put
  split
  · exact h
  · rename_i hn
    exact h.snoc hy hn hw
theorem put_len (y : α) (wd : ByteArray) (p : St α) : p.1.length ≤ (put y wd p).1.length := by
  unfold put
  split <;> simp
theorem fit_ex {dom : α → Prop} {N : Nat} {nx : α → Nat → α} {x : α} (hx : dom x) (hd : ∀ x j, dom x → j < 3 → dom (nx x j)) {wd : ByteArray} : ∀ (d j : Nat) (p : St α), j + d ≤ 3 → Fit dom N p → wd.size + 1 ≤ p.1.length → Fit dom N (ex nx x wd d j p) ∧ p.1.length ≤ (ex nx x wd d j p).1.length
  | 0, j, p, _, h, _ => ⟨h, Nat.le_refl _⟩
  | d + 1, j, p, hj, h, hw => by
    have h1 : Fit dom N (put (nx x j) (wd ++ pc j) p) := fit_put h (hd x j hx (by omega)) (by rw [ByteArray.size_append, size_pc j (by omega)]; exact hw)
    have h2 := put_len (nx x j) (wd ++ pc j) p
    obtain ⟨h3, h4⟩ := fit_ex hx hd d (j + 1) _ (by omega) h1 (Nat.le_trans hw h2)
    exact ⟨h3, Nat.le_trans h2 h4⟩
end
end Go.Proofs.Ytogamkblkoobkaa.Bf
end
section
namespace Go.Proofs.Ytogamkblkoobkaa.Wk
open Go.RowKit Go.Shelf Go.Proofs.Ytogamkblkoobkaa.P Go.Proofs.Ytogamkblkoobkaa.Pl Go.Proofs.Ytogamkblkoobkaa.Mp Go.Proofs.Ytogamkblkoobkaa.Bf Go.Proofs.YtogamkblkoobkaaW.PrintWords Go.Proofs.YtogamkblkoobkaaW.PrintLast Go.Proofs.YtogamkblkoobkaaW.PrintMore
set_option linter.unusedVariables false
set_option linter.unusedSimpArgs false
abbrev wfI (x : Int) : Prop := (Lit.int .i64 x).wf = true
theorem mapInt : MapTy Try.prog 118 3 3 .i64 (Value.int .i64) wfI := int_ty Try.prog Try.underlying118 Try.underlying3 Try.underlying3 (fun w => by kernel_rfl)
abbrev IsM (w : World) (b : Nat) (m : Int → Option Int) (c : Nat) : Prop := MapIs Try.prog 3 3 .i64 (Value.int .i64) wfI w b m c
structure Mem (w w' : World) (v6 v7 : Value) (gm : Nat) (p : St Int) : Prop where
  list : Kd.R (Kd.int .i64) 3 w' w.heap.size (fun _ => True) v6 p.1
  words : Kd.R Kd.string 9 w' w.heap.size (fun _ => True) v7 p.2
  map : IsM w' gm (idx p.1) p.1.length
  bel : Below w.heap.size w w'
theorem Mem.below {w w' w2 : World} {v6 v7 : Value} {gm : Nat} {p : St Int} (h : Mem w w' v6 v7 gm p) (hb : Below w'.heap.size w' w2) : Mem w w2 v6 v7 gm p :=
  ⟨Kd.R_below h.list hb, Kd.R_below h.words hb, h.map.below hb, below_then h.bel h.bel.size hb⟩
def T17 : Bool × List (List Nat × List Nat) := (true, [([], []), ([], []), ([], []), ([1, 2], [1, 2]), ([3], [3]), ([], []), ([], []), ([6], [6]), ([5, 7], [5, 7]), ([4, 8], [4, 8]), ([9], [9]), ([0, 10], [0, 10]), ([11, 11, 0, 1, 2, 3, 4, 5, 6, 7, 8, 9, 10, 11], [0, 1, 11])])
def B17 : List Nat := [0, 0, 0, 6, 14, 0, 0, 64, 224, 510, 1022, 2047, 4095]
theorem tab17 : rtab .any (opsOf Try.f112 17) = T17 := by kernel_rfl
theorem bits17 : waitsOk T17.2 B17 = true := by kernel_rfl
set_option maxHeartbeats 4000000 in
set_option maxRecDepth 100000 in
theorem firstWord_int {dom : Int → Prop} (N : Nat) (hN : N ≤ 1000000) (good : Int → Bool) (nx : Int → Nat → Int) (x0 : Int) (g1 g2 : Nat) (lb1 lb2 : Array Value)
    (eg1 : ∀ args w, (callFunc g1 args).run Try.prog w = .ok (.enter g1 args) w) (eg2 : ∀ args w, (callFunc g2 args).run Try.prog w = .ok (.enter g2 args) w) (w : World)
    (hd0 : dom x0) (hdn : ∀ x j, dom x → j < 3 → dom (nx x j)) (hwf : ∀ x, dom x → wfI x) (hcard : ∀ s : List Int, s.Nodup → (∀ x ∈ s, dom x) → s.length ≤ N)
    (h1 : ∀ x, dom x → ∀ W, Below w.heap.size w W → Calls Try.prog g1 (#[.int .i64 x] ++ lb1) W fun e W' => e = .returned (.bool (good x)) ∧ Below W.heap.size W W')
    (h2 : ∀ (x : Int) (j : Nat), dom x → j < 3 → ∀ W, Below w.heap.size w W → Calls Try.prog g2 (#[.int .i64 x, .int .i64 j] ++ lb2) W fun e W' => e = .returned (.int .i64 (nx x j)) ∧ Below W.heap.size W W') :
    Calls Try.prog 112 #[.int .i64 x0, .func (.func g1) #[] lb1, .func (.func g2) #[] lb2] w fun e w' => e = .returned (.tuple #[.string (bfs good nx (N + 2) ([x0], [(⟨#[]⟩ : ByteArray)]) 0).1, .bool (bfs good nx (N + 2) ([x0], [(⟨#[]⟩ : ByteArray)]) 0).2]) ∧ Below w.heap.size w w' := by
  generalize hR : bfs good nx (N + 2) ([x0], [(⟨#[]⟩ : ByteArray)]) 0 = r
  have HR := am_ hR
  clear hR
  have H1 := am_ h1
  have H2 := am_ h2
  have HF := am_ (fit0 hd0 hcard)
  have HD := am_ hdn
  have HW := am_ hwf
  have HB := am_ (Below.refl w.heap.size w)
  have HX := am_ (hwf x0 hd0)
  clear h1 h2 hdn hcard hwf hd0
  have hu_ := am_ hN
  clear hN
  go_enter Try.func112, Try.ntmps112
  go_wp2_with (first
    | ((with_reducible refine gate_dst (N := 17) rfl ?_); refine Kd.R_lit (Kd.int .i64) _ 3 ?hg (N := 17) ?hd (xs := [x0]) (inner := [.int .i64 x0]) (ok := fun _ => True) (okp := fun _ => True) ?hr ?hp (fun _ hk => hk) trivial (Below.refl _ _) (Nat.le_refl _) (by simp) ?_; (case hd => rfl); (case hg => rfl); (case hr => first | (go_simp; done) | (go_simp; rfl)); (case hp => exact (Reps.one (show Kd.M (Kd.int .i64) _ _ _ x0 [.int .i64 x0] from rfl) (Reps.none _ _))); intro v6 w1 ho hb hg_ hnew_; clear hg_ hnew_; have HL := am_ ho; have HB1 := am_ hb; clear ho hb)
    | ((with_reducible refine gate_dst (N := 18) rfl ?_); refine Kd.R_lit Kd.string _ 9 ?hg (N := 18) ?hd (xs := [(⟨#[]⟩ : ByteArray)]) (inner := [.string (⟨#[]⟩ : ByteArray)]) (ok := fun _ => True) (okp := fun _ => True) ?hr ?hp (fun _ hk => hk) trivial (Below.refl _ _) (Nat.le_refl _) (by simp) ?_; (case hd => rfl); (case hg => rfl); (case hr => first | (go_simp; done) | (go_simp; rfl)); (case hp => exact (Reps.one (show Kd.M Kd.string _ _ _ (⟨#[]⟩ : ByteArray) [.string (⟨#[]⟩ : ByteArray)] from rfl) (Reps.none _ _))); intro v7 w2 ho hb hg_ hnew_; clear hg_ hnew_; have HS := am_ ho; have HB2 := am_ hb; clear ho hb)
    | ((with_reducible refine gate_dst (N := 19) rfl ?_); refine wp_make (t := 118) (k := 3) (e := 3) (q := .i64) (enc := Value.int .i64) (ok := wfI) rfl rfl ?_; intro w3 hm hb; have HM := am_ hm; have HB3 := am_ hb; clear hm hb)
    | (refine wp_insert mapInt rfl _ _ _ rfl _ _ _ HM.out (by unfold maxLen; omega) rfl x0 rfl HX.out 0 rfl (by decide) ?_; intro w4 hm hgr; have HM2 := am_ hm; have HG4 := am_ hgr; clear hm hgr))
  have hgm : w.heap.size ≤ w2.heap.size := Nat.le_trans HB1.out.size HB2.out.size
  have hM0 : Mem w w4 v6 v7 w2.heap.size ([x0], [(⟨#[]⟩ : ByteArray)]) := by
    have b2 := below_then HB1.out HB1.out.size HB2.out
    have b3 := below_then b2 b2.size HB3.out
    exact ⟨R_over_map (Kd.R_below (Kd.R_below HL.out HB2.out) HB3.out) HM.out HG4.out, R_over_map (Kd.R_lower (Kd.R_below HS.out HB3.out) HB1.out.size) HM.out HG4.out, by have := HM2.out; rw [idx_one] at this; exact this, below_map b3 HG4.out hgm⟩
  have HGM := am_ hgm
  have HMEM := am_ hM0
  clear HL HS HM HM2 HB1 HB2 HB3 HG4 hM0 HB
  generalize w2.heap.size = gm at HMEM HGM ⊢
  clear hgm
  go_loopg [8, 9, 11] (N + 2) (fun gg v8 v9 v11 wr => ∃ (p : St Int) (i : Nat), v11 = .int .i64 (i : Int) ∧ Aside0 (i ≤ p.1.length) ∧ Aside0 (N + 2 ≤ gg + i) ∧ Aside0 (bfs good nx gg p i = r) ∧ Aside0 (Bf.Fit dom N p) ∧ Aside0 (Mem w wr v8 v9 gm p))
  case atStart => exact ⟨([x0], [(⟨#[]⟩ : ByteArray)]), 0, rfl, ⟨Nat.zero_le _⟩, ⟨by omega⟩, HR, HF, HMEM⟩
  case round =>
    clear HMEM HF HR
    obtain ⟨p, i, rfl, HI, HG, HR, HF, HMEM⟩ := hrel
    cases gk with
    | zero => exact absurd HF.out.le (by have := HI.out; have := HG.out; omega)
    | succ g =>
      obtain ⟨A8, c8, e8⟩ := Kd.R_slice HMEM.out.list
      subst e8
      obtain ⟨A9, c9, e9⟩ := Kd.R_slice HMEM.out.words
      subst e9
      by_cases hi : i < p.1.length
      · obtain ⟨ad8, ea8, hx8⟩ := Kd.at_int (Kd.R_reads' HMEM.out.list).2.2 (i : Int) (by omega) (by omega)
        subst ea8
        have hl2 := HF.out.len
        obtain ⟨ad9, ea9, hx9⟩ := Kd.at_string (Kd.R_reads' HMEM.out.words).2.2 (i : Int) (by omega) (by omega)
        subst ea9
        rw [rd_get p.1 i hi, Int.toNat_natCast] at hx8
        rw [rdOf_get _ p.2 i (by omega), Int.toNat_natCast] at hx9
        have hr := HR.out
        rw [bfs, dif_pos hi] at hr
        have hdx := HF.out.all _ (List.getElem_mem hi)
        have hP1 : p.1[i]? = some p.1[i] := List.getElem?_eq_getElem hi
        have hP2 : p.2[i]? = some p.2[i] := List.getElem?_eq_getElem (by omega)
        have hsz : p.2[i].size ≤ i := by
          have := HF.out.size i
          rw [List.getD_eq_getElem?_getD, hP2] at this
          exact this
        have egd : p.2.getD i ByteArray.empty = p.2[i] := by rw [List.getD_eq_getElem?_getD, hP2]; rfl
        rw [egd] at hr
        generalize p.1[i] = x at hx8 hr hdx hP1
        generalize p.2[i] = wd at hx9 hr hP2 hsz
        have HC := am_ (H1.out x hdx)
        have HDX := am_ hdx
        have HP1 := am_ hP1
        have HP2 := am_ hP2
        have HSZ := am_ hsz
        have HL2 := am_ hl2
        clear hdx hP1 hP2 hsz egd hl2 HR
        have d1 : decide ((i : Int) < (p.1.length : Int)) = true := decide_eq_true (by omega)
        have p1 : ((0 : Int) ≤ (i : Int)) = True := eq_true (by omega)
        have q1 : ((i : Int) < (p.1.length : Int)) = True := eq_true (by omega)
        have q2 : ((i : Int) < (p.2.length : Int)) = True := eq_true (by have := HL2.out; omega)
        have HI2 := am_ hi
        clear hi
        cases hgd : good x with
        | true =>
          rw [hgd, if_pos rfl] at hr
          rw [hgd] at HC
          have HRR := am_ hr
          clear hr hgd
          go_wp2_with (go_at_fn g1; refine (HC.out _ (by exact HMEM.out.bel)).mono ?_; rintro e W1 ⟨rfl, hb⟩; have hx9 := (hb.cell (World.block_lt_of_cell? _ _ hx9)).trans hx9; have HB1 := am_ hb; clear hb)
          go_ret2
          have e1 := HRR.out
          subst e1
          exact ⟨rfl, below_then HMEM.out.bel HMEM.out.bel.size HB1.out⟩
        | false =>
          rw [hgd, if_neg (by decide)] at hr
          rw [hgd] at HC
          generalize hpf : ex nx x wd 3 0 p = pf at hr
          have HRR := am_ hr
          have HPF := am_ hpf
          clear hr hgd hpf
          go_wp2_with (go_at_fn g1; refine (HC.out _ (by exact HMEM.out.bel)).mono ?_; rintro e W1 ⟨rfl, hb⟩; have HM1 := am_ (HMEM.out.below hb); clear hb)
          clear HMEM HC hx8 hx9 q1 q2 d1
          go_loopg [8, 9, 38] 3 (fun gg v8 v9 v38 w2 => ∃ (p2 : St Int) (j : Nat) (jz : Int), v38 = .int .i64 jz ∧ Aside0 (jz = (j : Int)) ∧ Aside0 (j ≤ 3) ∧ Aside0 (3 ≤ gg + j) ∧ Aside0 (ex nx x wd (3 - j) j p2 = pf) ∧ Aside0 (Bf.Fit dom N p2) ∧ Aside0 (p2.1[i]? = some x) ∧ Aside0 (p2.2[i]? = some wd) ∧ Aside0 (Mem w w2 v8 v9 gm p2))
          case atStart => exact ⟨p, 0, 0, rfl, ⟨rfl⟩, ⟨by omega⟩, ⟨by omega⟩, HPF, HF, HP1, HP2, HM1⟩
          case round =>
            clear HM1 HF HP1 HP2 HPF
            obtain ⟨p2, j, jz, rfl, HJZ, HJ, HGJ, HPF, HF, HP1, HP2, HMEM⟩ := hrel
            obtain ⟨A8, c8, e8⟩ := Kd.R_slice HMEM.out.list
            subst e8
            obtain ⟨A9, c9, e9⟩ := Kd.R_slice HMEM.out.words
            subst e9
            by_cases hj : j < 3
            · cases gk with
              | zero => exact absurd HGJ.out (by omega)
              | succ g3 =>
              have hl2 := HF.out.len
              have hi2 : i < p2.1.length := (List.getElem?_eq_some_iff.mp HP1.out).1
              have hx1 : rd p2.1 i = x := by rw [rd_get p2.1 i hi2]; exact (List.getElem?_eq_some_iff.mp HP1.out).2
              have hw1 : rdOf ByteArray.empty p2.2 i = wd := by rw [rdOf_get _ p2.2 i (by omega)]; exact (List.getElem?_eq_some_iff.mp HP2.out).2
              obtain ⟨ad8, ea8, hx8⟩ := Kd.at_int (Kd.R_reads' HMEM.out.list).2.2 (i : Int) (by omega) (by omega)
              subst ea8
              rw [hx1, Int.toNat_natCast] at hx8
              have hle := HF.out.le
              have hc := H2.out x j HDX.out hj
              rw [← HJZ.out] at hc
              have HC := am_ hc
              clear hc
              have hdy := HD.out x j HDX.out hj
              have HWY := am_ (HW.out _ hdy)
              have hpf : ex nx x wd (3 - (j + 1)) (j + 1) (put (nx x j) (wd ++ pc j) p2) = pf := by
                have h0 := HPF.out
                rw [show 3 - j = (3 - (j + 1)) + 1 by omega, ex] at h0
                exact h0
              have hfit : Bf.Fit dom N (put (nx x j) (wd ++ pc j) p2) := fit_put HF.out hdy (by rw [ByteArray.size_append, size_pc j hj]; have := HSZ.out; omega)
              have q1 : ((i : Int) < (p2.1.length : Int)) = True := eq_true (by omega)
              have q2 : ((i : Int) < (p2.2.length : Int)) = True := eq_true (by omega)
              have hjz := HJZ.out
              have d1 : decide (jz < 3) = true := decide_eq_true (by omega)
              have HPF2 := am_ hpf
              have HFIT := am_ hfit
              have HJ3 := am_ hj
              have HI2 := am_ hi2
              have HLE := am_ hle
              have HL2 := am_ hl2
              have HW1 := am_ hw1
              have hsome := idx_some (s := p2.1) (y := nx x j)
              generalize hy : nx x j = y at HC hdy HWY hpf hfit HPF2 HFIT hsome
              have HY := am_ hy
              clear hpf hfit hdy hj hi2 hle hl2 hw1 hx1 hy HPF hjz
              by_cases hm : y ∈ p2.1
              · have ep : put y (wd ++ pc j) p2 = p2 := by unfold put; rw [if_pos hm]
                have HEP := am_ ep
                rw [decide_eq_true hm] at hsome
                clear ep
                go_wp2_with (first
                  | (go_at_fn g2; refine (HC.out _ (by exact HMEM.out.bel)).mono ?_; rintro e W1 ⟨rfl, hb⟩; have HM1 := am_ (HMEM.out.below hb); clear hb)
                  | ((with_reducible refine gate_dst (N := 51) rfl ?_); refine wp_look_ok mapInt rfl _ _ rfl _ _ _ HM1.out.map rfl y rfl HWY.out ?_; rw [hsome]))
                go_roundg g3
                case measure => omega
                case rel => exact ⟨p2, j + 1, wrap64 (jz + 1), rfl, ⟨by rw [HJZ.out, up1 (by have := HJ3.out; omega)]⟩, ⟨HJ3.out⟩, ⟨by have := HGJ.out; omega⟩, ⟨by have h0 := HPF2.out; rw [HEP.out] at h0; exact h0⟩, HF, HP1, HP2, HM1⟩
              · have ep : put y (wd ++ pc j) p2 = (p2.1 ++ [y], p2.2 ++ [wd ++ pc j]) := by unfold put; rw [if_neg hm]
                have HPF3 := am_ (ep ▸ HPF2.out)
                have HFIT3 := am_ (ep ▸ HFIT.out)
                have hu := idx_upd hm
                have HU := am_ hu
                rw [decide_eq_false hm] at hsome
                have hjz := HJZ.out
                have hj3 := HJ3.out
                have ew : wrap64 (jz + 1) = jz + 1 := w64 (by omega) (by omega)
                have c2 : ((0 : Int) ≤ jz) = True := eq_true (by omega)
                have c3 : decide (jz ≤ wrap64 (jz + 1)) = true := decide_eq_true (by omega)
                have c3b := eq_true (of_decide_eq_true c3)
                have c4 : decide (wrap64 (jz + 1) ≤ 3) = true := decide_eq_true (by omega)
                have c4b := eq_true (of_decide_eq_true c4)
                have epc : (⟨#[97, 98, 99]⟩ : ByteArray).extract jz.toNat (wrap64 (jz + 1)).toNat = pc j := by rw [ew, hjz, pc]; congr 1
                have c5 : wd.size + ((⟨#[97, 98, 99]⟩ : ByteArray).extract jz.toNat (wrap64 (jz + 1)).toNat).size ≤ 9223372036854775807 := by rw [epc, size_pc j hj3]; have := HSZ.out; have := HI2.out; have := HLE.out; have := hu_.out; omega
                have c5a := eq_true c5
                have c5b : decide (wd.size + ((⟨#[97, 98, 99]⟩ : ByteArray).extract jz.toNat (wrap64 (jz + 1)).toNat).size ≤ 9223372036854775807) = true := decide_eq_true c5
                have c5c : (9223372036854775807 < wd.size + ((⟨#[97, 98, 99]⟩ : ByteArray).extract jz.toNat (wrap64 (jz + 1)).toNat).size) = False := eq_false (Nat.not_lt.2 c5)
                have c5d : (9223372036854775807 < wd.size + ((wrap64 (jz + 1)).toNat - jz.toNat)) = False := eq_false (by rw [ew, hjz]; have := HSZ.out; have := HI2.out; have := HLE.out; have := hu_.out; omega)
                have EPC := am_ epc
                have HLEN : Aside0 ((p2.1.length : Int) ≤ 1000000) := ⟨by have := HLE.out; have := hu_.out; omega⟩
                obtain ⟨ad9, ea9, hx9⟩ := Kd.at_string (Kd.R_reads' HMEM.out.words).2.2 (i : Int) (by omega) (by have := HL2.out; have := HI2.out; omega)
                subst ea9
                clear hx9 hm ep hu hjz hj3 ew epc c5 c3 c4
                go_wp2_with (first
                  | (go_at_fn g2; refine (HC.out _ (by exact HMEM.out.bel)).mono ?_; rintro e W1 ⟨rfl, hb⟩; have HM1 := am_ (HMEM.out.below hb); clear hb)
                  | ((with_reducible refine gate_dst (N := 51) rfl ?_); refine wp_look_ok mapInt rfl _ _ rfl _ _ _ HM1.out.map rfl y rfl HWY.out ?_; rw [hsome])
                  | (at_builtin; refine Kd.R_append (Kd.int .i64) (w0 := w) w.heap.size rfl (.tmp 60) (.tmp 62) 67 3 (.int .i64 0) 8 rfl Try.underlying67 info3 rfl (by decide) (by omega) (.slice (some ad8) p2.1.length c8) p2.1 y [.int .i64 y] (fun _ => True) (fun _ => False) rfl rfl ?aP (fun _ hk => hk.elim) ?aF ?aO ?aB ?aS ?aL ?_; (case aP => exact rfl); (case aF => exact (fun _ _ => trivial)); (case aO => exact HL3.out); (case aB => exact HB3.out); (case aS => exact HB3.out.size); (case aL => have := HLEN.out; omega); intro v8n w3 ho hb hg hat; have HS4 := am_ (Kd.R_over' HS3.out (Kd.R_typed HL3.out) (by decide) hg); have HL4 := am_ ho; have HB4 := am_ hb; have HM4 := am_ (HM3.out.kept hg (HM3.out.not_row (Kd.R_typed HL3.out))); clear ho hb hg hat)
                  | (refine wp_update mapInt rfl _ _ _ rfl _ _ _ HM1.out.map (by have := HLEN.out; unfold maxLen; omega) rfl y rfl HWY.out (p2.1.length : Int) rfl (by have := HLEN.out; simp [Lit.wf, IntKind.min, IntKind.max, IntKind.signed, IntKind.bits]; omega) ?_; intro w2 hm hgr; rw [HU.out, if_neg (by rw [hsome]; decide)] at hm; have HL3 := am_ (R_over_map HM1.out.list HM1.out.map hgr); have HS3 := am_ (R_over_map HM1.out.words HM1.out.map hgr); have HB3 := am_ (below_map HM1.out.bel hgr HGM.out); have HM3 := am_ hm; clear hm hgr))
                have HS5 := am_ (Kd.R_drew HS4.out)
                have HL5 := am_ (Kd.R_drew HL4.out)
                have HB5 := am_ (below_drew1 HB4.out)
                have HM5 := am_ (HM4.out.below (below_drew1 (Below.refl _ _)))
                clear HS4 HL4 HB4 HM4 HL3 HS3 HB3 HM3 HM1
                obtain ⟨ad9', ea9, hx9⟩ := Kd.at_string (Kd.R_reads' HS5.out).2.2 (i : Int) (by omega) (by have := HL2.out; have := HI2.out; omega)
                cases ea9
                rw [HW1.out, Int.toNat_natCast] at hx9
                refine start_ (n := 13) (S := (fun w' => w'.cell? (ad9.add i) = some (.string wd))) (ds := [10, 11]) (bl 13 0) (by kernel_rfl) rfl rfl (hx9) (fun hHeld => ?_); refine with_tabW tab17 bits17 (fun HT_ HW_ => ?_)
                generalize w3.drew = w4 at HS5 HL5 HB5 HM5 hx9 hHeld ⊢
                refine ph_ 0 64 (bl 13 1) HT_ ?_
                refine ph_ 1 65 (bl 13 3) HT_ ?_
                refine ph_ 2 66 (bl 13 7) HT_ ?_
                refine ph_ 3 67 (bl 13 15) HT_ ?_
                refine ph_ 5 69 (bl 13 47) HT_ ?_
                refine ph_ 6 70 (bl 13 111) HT_ ?_
                refine ph_ 7 71 (bl 13 239) HT_ ?_
                refine ph_ 8 72 (bl 13 495) HT_ ?_
                refine th_ 4 68 (bl 13 511) HT_ HW_ hHeld ?_
                refine ph_ 9 73 (bl 13 1023) HT_ ?_
                refine last_ (i := 10) (N := some 74) (bl 13 2047) rfl rfl (one_of HT_.out (by kernel_rfl)) (by decide) (fun K hK => ?_)
                refine value_ (w1 := ?_) (v := ?_) (by rfl) rfl ?_ ?_
                rotate_left 2
                · go_simp
                  constructor
                  · rfl
                  · rfl
                refine hK.out _ _ ?_
                clear hK K
                refine norm_ (a' := ?_) ?_ ?_
                rotate_left
                · show Act.put _ (some 74) _ = _
                  simp only [Act.put, List.setIfInBounds_toArray, List.set_cons_zero, List.set_cons_succ, i64_w, i32_w]
                  rfl
                refine last_ (i := 11) (N := some 75) (bl 13 4095) rfl rfl (one_of HT_.out (by kernel_rfl)) (by decide) (fun K hK => ?_)
                refine Kd.R_append_step Kd.string (w0 := w) w.heap.size (by rfl) (.tmp 64) (.tmp 74) 52 9 (.string ⟨#[]⟩) 16 rfl Try.underlying52 info9 rfl (by decide) (by omega) (.slice (some ad9) p2.2.length c9) p2.2 (wd ++ ((⟨#[97, 98, 99]⟩ : ByteArray).extract jz.toNat (wrap64 (jz + 1)).toNat)) [.string (wd ++ ((⟨#[97, 98, 99]⟩ : ByteArray).extract jz.toNat (wrap64 (jz + 1)).toNat))] (fun _ => True) (fun _ => False) rfl rfl ?aP (fun _ hk => hk.elim) ?aF ?aO ?aB ?aS ?aL ?_
                (case aP => exact rfl)
                (case aF => exact (fun _ _ => trivial))
                (case aO => exact HS5.out)
                (case aB => exact HB5.out)
                (case aS => exact HB5.out.size)
                (case aL => have := HLEN.out; have := HL2.out; omega)
                intro v9n w5 ho hb hg hat
                rw [EPC.out] at ho
                have HMN : Aside0 (Mem w w5 v8n v9n gm (p2.1 ++ [y], p2.2 ++ [wd ++ pc j])) := ⟨⟨Kd.R_over' HL5.out (Kd.R_typed HS5.out) (by decide) hg, ho, by have h0 := HM5.out.kept hg (HM5.out.not_row (Kd.R_typed HS5.out)); rw [List.length_append]; exact h0, hb⟩⟩
                clear ho hb hg hat HS5 HL5 HB5 HM5
                refine hK.out _ _ ?_
                clear hK K
                refine norm_ (a' := ?_) ?_ ?_
                rotate_left
                · show Act.put _ (some 75) _ = _
                  simp only [Act.put, List.setIfInBounds_toArray, List.set_cons_zero, List.set_cons_succ, i64_w, i32_w]
                  rfl
                refine ph_ 12 9 (bl 13 8191) HT_ ?_
                refine done_ (done_of HT_.out (by kernel_rfl)) ?_
                go_wp2
                go_roundg g3
                case measure => omega
                case rel => exact ⟨(p2.1 ++ [y], p2.2 ++ [wd ++ pc j]), j + 1, wrap64 (jz + 1), rfl, ⟨by rw [HJZ.out, up1 (by have := HJ3.out; omega)]⟩, ⟨HJ3.out⟩, ⟨by have := HGJ.out; omega⟩, HPF3, HFIT3, ⟨by rw [List.getElem?_append_left HI2.out]; exact HP1.out⟩, ⟨by rw [List.getElem?_append_left (by have := HL2.out; have := HI2.out; omega)]; exact HP2.out⟩, HMN⟩
            · have ej : j = 3 := by have := HJ.out; omega
              subst ej
              have ejz := HJZ.out
              subst ejz
              have d3 : decide (((3 : Nat) : Int) < 3) = false := by decide
              go_wp2
              go_roundg g
              case measure => omega
              case rel => exact ⟨p2, i + 1, by rw [up1 (by have := (List.getElem?_eq_some_iff.mp HP1.out).1; have := HF.out.le; have := hu_.out; omega)], ⟨(List.getElem?_eq_some_iff.mp HP1.out).1⟩, ⟨by have := HG.out; omega⟩, ⟨by have h0 := HPF.out; rw [show 3 - 3 = 0 from rfl, ex] at h0; rw [h0]; exact HRR.out⟩, HF, HMEM⟩
      · have hr := HR.out
        rw [bfs, dif_neg hi] at hr
        subst hr
        have d1 : decide ((i : Int) < (p.1.length : Int)) = false := decide_eq_false (by omega)
        go_wp2
        go_ret2
        exact ⟨rfl, HMEM.out.bel⟩
end Go.Proofs.Ytogamkblkoobkaa.Wk
end
section
namespace Go.Proofs.Ytogamkblkoobkaa.Wk
open Go.RowKit Go.Shelf Go.Proofs.Ytogamkblkoobkaa.P Go.Proofs.Ytogamkblkoobkaa.Pl Go.Proofs.Ytogamkblkoobkaa.Mp Go.Proofs.Ytogamkblkoobkaa.Bf Go.Proofs.YtogamkblkoobkaaW.PrintWords Go.Proofs.YtogamkblkoobkaaW.PrintLast Go.Proofs.YtogamkblkoobkaaW.PrintMore
set_option linter.unusedVariables false
set_option linter.unusedSimpArgs false
abbrev Pr := Int × Int
def encP (x : Pr) : Value := .agg #[.int .i64 x.1, .int .i64 x.2]
abbrev wfP (x : Pr) : Prop := wfI x.1 ∧ wfI x.2
abbrev kdP : Kd Pr := Kd.pair (Kd.int .i64) (Kd.int .i64)
theorem laidOutP : laidOutB Try.prog = true := by kernel_rfl
theorem arrP : Go.WideMaps.ArrKey Try.prog 72 3 2 := ⟨Try.underlying72, by kernel_rfl, by kernel_rfl, by kernel_rfl⟩
theorem keyP (x : Pr) (h : wfP x) : ∃ l, keyOf Try.prog 72 (encP x) = some l := ⟨_, Go.WideMaps.keyOf_pair arrP Try.underlying3 ⟨Try.prog.types.size - 1, by have : 0 < Try.prog.types.size := of_decide_eq_true (by kernel_rfl); omega⟩ h.1 h.2⟩
theorem mapP : MapTy Try.prog 121 72 3 .i64 encP wfP where
  K := Go.Maps.Keyed.of_law (deep_law_laid laidOutP (m := 2) (by omega) (of_decide_eq_true (by kernel_rfl)) (by kernel_rfl) (by rw [Try.underlying72]))
  ht := Try.underlying121
  he := Try.underlying3
  hz := fun w => by kernel_rfl
  key := keyP
  inj := fun x y h => by
    unfold encP at h
    injection h with h
    have h1 := congrArg (fun z : Array Value => z[0]?) h
    have h2 := congrArg (fun z : Array Value => z[1]?) h
    simp at h1 h2
    exact Prod.ext h1 h2
theorem infoP : (Try.prog.info? 72).map (fun i => (i.zero, i.size, i.bytes)) = some (some (.agg #[.int .i64 0, .int .i64 0]), 2, 16) := by kernel_rfl
theorem cell_grown {w w' : World} {row : Option Nat} (hg : w.grownBy w' row) {a : Addr} (hlt : a.block < w.heap.size) (hne : some a.block ≠ row) {v : Value} (h : w.cell? a = some v) : w'.cell? a = some v := (World.cell?_of_block (hg.block _ hlt hne)).trans h
theorem at_pair {w : World} {A : Option Addr} {n : Nat} {xs : List Pr} (h : kdP.C w A n xs) (i : Nat) (hi : i < xs.length) (hn : n = xs.length) : ∃ ad, A = some ad ∧ w.cell? (ad.add (i * 2)) = some (.int .i64 xs[i].1) ∧ w.cell? ⟨(ad.add (i * 2)).block, (ad.add (i * 2)).off + 1, none⟩ = some (.int .i64 xs[i].2) := by
  obtain ⟨ad, c, hA, hl, hk, hc⟩ := Kd.C_get h (0, 0) (i : Int) (by omega) (by omega)
  rw [Int.toNat_natCast] at hk hc
  have e : xs.getD i (0, 0) = xs[i] := by rw [List.getD_eq_getElem?_getD, List.getElem?_eq_getElem hi]; rfl
  rw [e] at hk
  obtain ⟨c0, c1, rfl, h0, h1⟩ := hk
  have h0' : c0 = [.int .i64 xs[i].1] := h0
  have h1' : c1 = [.int .i64 xs[i].2] := h1
  subst h0'
  subst h1'
  have q0 := hc 0 _ rfl
  have q1 := hc 1 _ rfl
  refine ⟨ad, hA, q0, ?_⟩
  obtain ⟨b, o, sp⟩ := ad
  have hs : kdP.sz = 2 := rfl
  rw [hs] at q0 q1
  by_cases hi0 : i = 0
  · subst hi0
    have hsp : sp = none := by
      have := World.cell?_spot q0
      simpa [Addr.add] using this
    subst hsp
    simpa [Addr.add] using q1
  · have e1 : (⟨b, o, sp⟩ : Addr).add (i * 2) = ⟨b, o + i * 2, none⟩ := by simp [Addr.add] <;> omega
    have e2 : (⟨b, o, sp⟩ : Addr).add (i * 2 + 1) = ⟨b, o + i * 2 + 1, none⟩ := by simp [Addr.add] <;> omega
    rw [e1]
    rw [e2] at q1
    exact q1
abbrev IsMP (w : World) (b : Nat) (m : Pr → Option Int) (c : Nat) : Prop := MapIs Try.prog 72 3 .i64 encP wfP w b m c
structure MemP (w w' : World) (v6 v7 : Value) (gm : Nat) (p : St Pr) : Prop where
  list : Kd.R kdP 72 w' w.heap.size (fun _ => True) v6 p.1
  words : Kd.R Kd.string 9 w' w.heap.size (fun _ => True) v7 p.2
  map : IsMP w' gm (idx p.1) p.1.length
  bel : Below w.heap.size w w'
theorem MemP.below {w w' w2 : World} {v6 v7 : Value} {gm : Nat} {p : St Pr} (h : MemP w w' v6 v7 gm p) (hb : Below w'.heap.size w' w2) : MemP w w2 v6 v7 gm p :=
  ⟨Kd.R_below h.list hb, Kd.R_below h.words hb, h.map.below hb, below_then h.bel h.bel.size hb⟩
def T17p : Bool × List (List Nat × List Nat) := (true, [([], []), ([], []), ([], []), ([1, 2], [1, 2]), ([3], [3]), ([], []), ([], []), ([6], [6]), ([5, 7], [5, 7]), ([4, 8], [4, 8]), ([9], [9]), ([0, 10], [0, 10]), ([11, 11, 0, 1, 2, 3, 4, 5, 6, 7, 8, 9, 10, 11], [0, 1, 11])])
def B17p : List Nat := [0, 0, 0, 6, 14, 0, 0, 64, 224, 510, 1022, 2047, 4095]
theorem tab17p : rtab .any (opsOf Try.f123 17) = T17p := by kernel_rfl
theorem bits17p : waitsOk T17p.2 B17p = true := by kernel_rfl
set_option maxHeartbeats 4000000 in
set_option maxRecDepth 100000 in
theorem firstWord_pair {dom : Pr → Prop} (N : Nat) (hN : N ≤ 1000000) (good : Pr → Bool) (nx : Pr → Nat → Pr) (x0 : Pr) (g1 g2 : Nat) (lb1 lb2 : Array Value)
    (eg1 : ∀ args w, (callFunc g1 args).run Try.prog w = .ok (.enter g1 args) w) (eg2 : ∀ args w, (callFunc g2 args).run Try.prog w = .ok (.enter g2 args) w) (w : World)
    (hd0 : dom x0) (hdn : ∀ x j, dom x → j < 3 → dom (nx x j)) (hwf : ∀ x, dom x → wfP x) (hcard : ∀ s : List Pr, s.Nodup → (∀ x ∈ s, dom x) → s.length ≤ N)
    (h1 : ∀ x, dom x → ∀ W, Below w.heap.size w W → Calls Try.prog g1 (#[.agg #[.int .i64 (x).1, .int .i64 (x).2]] ++ lb1) W fun e W' => e = .returned (.bool (good x)) ∧ Below W.heap.size W W')
    (h2 : ∀ (x : Pr) (j : Nat), dom x → j < 3 → ∀ W, Below w.heap.size w W → Calls Try.prog g2 (#[.agg #[.int .i64 (x).1, .int .i64 (x).2], .int .i64 j] ++ lb2) W fun e W' => e = .returned (.agg #[.int .i64 (nx x j).1, .int .i64 (nx x j).2]) ∧ Below W.heap.size W W') :
    Calls Try.prog 123 #[.agg #[.int .i64 (x0).1, .int .i64 (x0).2], .func (.func g1) #[] lb1, .func (.func g2) #[] lb2] w fun e w' => e = .returned (.tuple #[.string (bfs good nx (N + 2) ([x0], [(⟨#[]⟩ : ByteArray)]) 0).1, .bool (bfs good nx (N + 2) ([x0], [(⟨#[]⟩ : ByteArray)]) 0).2]) ∧ Below w.heap.size w w' := by
  generalize hR : bfs good nx (N + 2) ([x0], [(⟨#[]⟩ : ByteArray)]) 0 = r
  have HR := am_ hR
  clear hR
  have H1 := am_ h1
  have H2 := am_ h2
  have HF := am_ (fit0 hd0 hcard)
  have HD := am_ hdn
  have HW := am_ hwf
  have HB := am_ (Below.refl w.heap.size w)
  have HX := am_ (hwf x0 hd0)
  clear h1 h2 hdn hcard hwf hd0
  have hu_ := am_ hN
  clear hN
  have HC0 : Aside0 (World.cell? (((w.alloc (Obj.cells #[Value.int IntKind.i64 x0.1, Value.int IntKind.i64 x0.2] 72)).alloc (Obj.cells #[Value.int IntKind.i64 x0.1, Value.int IntKind.i64 x0.2] 72)).alloc (Obj.cells #[Value.string ⟨#[]⟩] 9)) ⟨w.heap.size, 0, none⟩ = some (.int .i64 x0.1)) := ⟨pw_cell_below (below_alloc (below_alloc (Below.refl _ _) _) _) (by simp)⟩
  have HC1 : Aside0 (World.cell? (((w.alloc (Obj.cells #[Value.int IntKind.i64 x0.1, Value.int IntKind.i64 x0.2] 72)).alloc (Obj.cells #[Value.int IntKind.i64 x0.1, Value.int IntKind.i64 x0.2] 72)).alloc (Obj.cells #[Value.string ⟨#[]⟩] 9)) ⟨w.heap.size, 1, none⟩ = some (.int .i64 x0.2)) := ⟨pw_cell_below (below_alloc (below_alloc (Below.refl _ _) _) _) (by simp)⟩
  have HLW : Aside0 (Kd.R kdP 72 (((w.alloc (Obj.cells #[Value.int IntKind.i64 x0.1, Value.int IntKind.i64 x0.2] 72)).alloc (Obj.cells #[Value.int IntKind.i64 x0.1, Value.int IntKind.i64 x0.2] 72)).alloc (Obj.cells #[Value.string ⟨#[]⟩] 9)) w.heap.size (fun _ => True) (.slice (some ⟨w.heap.size + 1, 0, none⟩) 1 1) [x0]) := ⟨by
    have := R_here (okp := fun _ => True) (inner := [.int .i64 x0.1, .int .i64 x0.2]) kdP (w.alloc (Obj.cells #[Value.int IntKind.i64 x0.1, Value.int IntKind.i64 x0.2] 72)) w.heap.size 72 (xs := [x0]) (Reps.snoc (Reps.none _ _) (show Kd.M kdP _ _ _ x0 [.int .i64 x0.1, .int .i64 x0.2] from ⟨[.int .i64 x0.1], [.int .i64 x0.2], rfl, rfl, rfl⟩) rfl) (by simp) (by simp)
    have h2 := Kd.R_alloc this (Obj.cells #[Value.string ⟨#[]⟩] 9)
    simpa using h2⟩
  have HSW : Aside0 (Kd.R Kd.string 9 (((w.alloc (Obj.cells #[Value.int IntKind.i64 x0.1, Value.int IntKind.i64 x0.2] 72)).alloc (Obj.cells #[Value.int IntKind.i64 x0.1, Value.int IntKind.i64 x0.2] 72)).alloc (Obj.cells #[Value.string ⟨#[]⟩] 9)) w.heap.size (fun _ => True) (.slice (some ⟨w.heap.size + 1 + 1, 0, none⟩) 1 1) [(⟨#[]⟩ : ByteArray)]) := ⟨by
    have := R_here (okp := fun _ => True) (inner := [.string ⟨#[]⟩]) Kd.string ((w.alloc (Obj.cells #[Value.int IntKind.i64 x0.1, Value.int IntKind.i64 x0.2] 72)).alloc (Obj.cells #[Value.int IntKind.i64 x0.1, Value.int IntKind.i64 x0.2] 72)) w.heap.size 9 (xs := [(⟨#[]⟩ : ByteArray)]) (Reps.one (show Kd.M Kd.string _ _ _ (⟨#[]⟩ : ByteArray) [.string (⟨#[]⟩ : ByteArray)] from rfl) (Reps.none _ _)) (by simp; omega) (by simp)
    simpa using this⟩
  have HBW : Aside0 (Below w.heap.size w (((w.alloc (Obj.cells #[Value.int IntKind.i64 x0.1, Value.int IntKind.i64 x0.2] 72)).alloc (Obj.cells #[Value.int IntKind.i64 x0.1, Value.int IntKind.i64 x0.2] 72)).alloc (Obj.cells #[Value.string ⟨#[]⟩] 9))) := ⟨below_alloc (below_alloc (below_alloc (Below.refl w.heap.size w) _) _) _⟩
  have HSZ : Aside0 ((((w.alloc (Obj.cells #[Value.int IntKind.i64 x0.1, Value.int IntKind.i64 x0.2] 72)).alloc (Obj.cells #[Value.int IntKind.i64 x0.1, Value.int IntKind.i64 x0.2] 72)).alloc (Obj.cells #[Value.string ⟨#[]⟩] 9)).heap.size = w.heap.size + 1 + 1 + 1) := ⟨by simp⟩
  go_enter Try.func123, Try.ntmps123
  go_wp2_with (first
    | ((with_reducible refine gate_dst (N := 19) rfl ?_); refine wp_make (t := 121) (k := 72) (e := 3) (q := .i64) (enc := encP) (ok := wfP) rfl rfl ?_; intro w3 hm hb; have hm : IsMP w3 (w.heap.size + 1 + 1 + 1) (fun _ => none) 0 := HSZ.out ▸ hm; have hc0 := pw_cell_below hb HC0.out; have hc1 := pw_cell_below hb HC1.out; have HL := am_ (Kd.R_below HLW.out hb); have HS := am_ (Kd.R_below HSW.out hb); have HM := am_ hm; have HB3 := am_ (below_then HBW.out HBW.out.size hb); clear hm hb)
    | (refine wp_insert mapP rfl _ _ _ rfl _ _ _ HM.out (by unfold maxLen; omega) rfl x0 rfl HX.out 0 rfl (by decide) ?_; intro w4 hm hgr; have HM2 := am_ hm; have HG4 := am_ hgr; clear hm hgr))
  have hM0 : MemP w w4 (.slice (some ⟨w.heap.size + 1, 0, none⟩) 1 1) (.slice (some ⟨w.heap.size + 1 + 1, 0, none⟩) 1 1) (w.heap.size + 1 + 1 + 1) ([x0], [(⟨#[]⟩ : ByteArray)]) :=
    ⟨R_over_map HL.out HM.out HG4.out, R_over_map HS.out HM.out HG4.out, by have := HM2.out; rw [idx_one] at this; exact this, below_map HB3.out HG4.out (by omega)⟩
  have HMEM := am_ hM0
  have HGM : Aside0 (w.heap.size ≤ w.heap.size + 1 + 1 + 1) := ⟨by omega⟩
  clear HL HS HM HM2 HB3 HG4 hM0 HB HC0 HC1 HLW HSW HBW HSZ hc0 hc1
  generalize w.heap.size + 1 + 1 + 1 = gm at HMEM HGM ⊢
  go_loopg [8, 9, 11] (N + 2) (fun gg v8 v9 v11 wr => ∃ (p : St Pr) (i : Nat), v11 = .int .i64 (i : Int) ∧ Aside0 (i ≤ p.1.length) ∧ Aside0 (N + 2 ≤ gg + i) ∧ Aside0 (bfs good nx gg p i = r) ∧ Aside0 (Bf.Fit dom N p) ∧ Aside0 (MemP w wr v8 v9 gm p))
  case atStart => exact ⟨([x0], [(⟨#[]⟩ : ByteArray)]), 0, rfl, ⟨Nat.zero_le _⟩, ⟨by omega⟩, HR, HF, HMEM⟩
  case round =>
    clear HMEM HF HR
    obtain ⟨p, i, rfl, HI, HG, HR, HF, HMEM⟩ := hrel
    cases gk with
    | zero => exact absurd HF.out.le (by have := HI.out; have := HG.out; omega)
    | succ g =>
      obtain ⟨A8, c8, e8⟩ := Kd.R_slice HMEM.out.list
      subst e8
      obtain ⟨A9, c9, e9⟩ := Kd.R_slice HMEM.out.words
      subst e9
      by_cases hi : i < p.1.length
      · obtain ⟨ad8, ea8, hx8, hx8b⟩ := at_pair (Kd.R_reads' HMEM.out.list).2.2 i (by omega) rfl
        subst ea8
        have hl2 := HF.out.len
        obtain ⟨ad9, ea9, hx9⟩ := Kd.at_string (Kd.R_reads' HMEM.out.words).2.2 (i : Int) (by omega) (by omega)
        subst ea9
        rw [rdOf_get _ p.2 i (by omega), Int.toNat_natCast] at hx9
        have hr := HR.out
        rw [bfs, dif_pos hi] at hr
        have hdx := HF.out.all _ (List.getElem_mem hi)
        have hP1 : p.1[i]? = some p.1[i] := List.getElem?_eq_getElem hi
        have hP2 : p.2[i]? = some p.2[i] := List.getElem?_eq_getElem (by omega)
        have hsz : p.2[i].size ≤ i := by
          have := HF.out.size i
          rw [List.getD_eq_getElem?_getD, hP2] at this
          exact this
        have egd : p.2.getD i ByteArray.empty = p.2[i] := by rw [List.getD_eq_getElem?_getD, hP2]; rfl
        rw [egd] at hr
        generalize p.1[i] = x at hx8 hx8b hr hdx hP1
        generalize p.2[i] = wd at hx9 hr hP2 hsz
        have HC := am_ (H1.out x hdx)
        have HDX := am_ hdx
        have HP1 := am_ hP1
        have HP2 := am_ hP2
        have HSZ := am_ hsz
        have HL2 := am_ hl2
        clear hdx hP1 hP2 hsz egd hl2 HR
        have d1 : decide ((i : Int) < (p.1.length : Int)) = true := decide_eq_true (by omega)
        have p1 : ((0 : Int) ≤ (i : Int)) = True := eq_true (by omega)
        have q1 : ((i : Int) < (p.1.length : Int)) = True := eq_true (by omega)
        have q2 : ((i : Int) < (p.2.length : Int)) = True := eq_true (by have := HL2.out; omega)
        have HI2 := am_ hi
        clear hi
        cases hgd : good x with
        | true =>
          rw [hgd, if_pos rfl] at hr
          rw [hgd] at HC
          have HRR := am_ hr
          clear hr hgd
          go_wp2_with (go_at_fn g1; refine (HC.out _ (by exact HMEM.out.bel)).mono ?_; rintro e W1 ⟨rfl, hb⟩; have hx9 := (hb.cell (World.block_lt_of_cell? _ _ hx9)).trans hx9; have HB1 := am_ hb; clear hb)
          go_ret2
          have e1 := HRR.out
          subst e1
          exact ⟨rfl, below_then HMEM.out.bel HMEM.out.bel.size HB1.out⟩
        | false =>
          rw [hgd, if_neg (by decide)] at hr
          rw [hgd] at HC
          generalize hpf : ex nx x wd 3 0 p = pf at hr
          have HRR := am_ hr
          have HPF := am_ hpf
          clear hr hgd hpf
          go_wp2_with (go_at_fn g1; refine (HC.out _ (by exact HMEM.out.bel)).mono ?_; rintro e W1 ⟨rfl, hb⟩; have HM1 := am_ (HMEM.out.below hb); clear hb)
          clear HMEM HC hx8 hx8b hx9 q1 q2 d1
          go_loopg [8, 9, 38] 3 (fun gg v8 v9 v38 w2 => ∃ (p2 : St Pr) (j : Nat) (jz : Int), v38 = .int .i64 jz ∧ Aside0 (jz = (j : Int)) ∧ Aside0 (j ≤ 3) ∧ Aside0 (3 ≤ gg + j) ∧ Aside0 (ex nx x wd (3 - j) j p2 = pf) ∧ Aside0 (Bf.Fit dom N p2) ∧ Aside0 (p2.1[i]? = some x) ∧ Aside0 (p2.2[i]? = some wd) ∧ Aside0 (MemP w w2 v8 v9 gm p2))
          case atStart => exact ⟨p, 0, 0, rfl, ⟨rfl⟩, ⟨by omega⟩, ⟨by omega⟩, HPF, HF, HP1, HP2, HM1⟩
          case round =>
            clear HM1 HF HP1 HP2 HPF
            obtain ⟨p2, j, jz, rfl, HJZ, HJ, HGJ, HPF, HF, HP1, HP2, HMEM⟩ := hrel
            obtain ⟨A8, c8, e8⟩ := Kd.R_slice HMEM.out.list
            subst e8
            obtain ⟨A9, c9, e9⟩ := Kd.R_slice HMEM.out.words
            subst e9
            by_cases hj : j < 3
            · cases gk with
              | zero => exact absurd HGJ.out (by omega)
              | succ g3 =>
              have hl2 := HF.out.len
              have hi2 : i < p2.1.length := (List.getElem?_eq_some_iff.mp HP1.out).1
              have hx1 : p2.1[i] = x := (List.getElem?_eq_some_iff.mp HP1.out).2
              have hw1 : rdOf ByteArray.empty p2.2 i = wd := by rw [rdOf_get _ p2.2 i (by omega)]; exact (List.getElem?_eq_some_iff.mp HP2.out).2
              obtain ⟨ad8, ea8, hx8, hx8b⟩ := at_pair (Kd.R_reads' HMEM.out.list).2.2 i (by omega) rfl
              subst ea8
              rw [hx1] at hx8 hx8b
              have hle := HF.out.le
              have hc := H2.out x j HDX.out hj
              rw [← HJZ.out] at hc
              have HC := am_ hc
              clear hc
              have hdy := HD.out x j HDX.out hj
              have HWY := am_ (HW.out _ hdy)
              have hpf : ex nx x wd (3 - (j + 1)) (j + 1) (put (nx x j) (wd ++ pc j) p2) = pf := by
                have h0 := HPF.out
                rw [show 3 - j = (3 - (j + 1)) + 1 by omega, ex] at h0
                exact h0
              have hfit : Bf.Fit dom N (put (nx x j) (wd ++ pc j) p2) := fit_put HF.out hdy (by rw [ByteArray.size_append, size_pc j hj]; have := HSZ.out; omega)
              have q1 : ((i : Int) < (p2.1.length : Int)) = True := eq_true (by omega)
              have q2 : ((i : Int) < (p2.2.length : Int)) = True := eq_true (by omega)
              have hjz := HJZ.out
              have d1 : decide (jz < 3) = true := decide_eq_true (by omega)
              have HPF2 := am_ hpf
              have HFIT := am_ hfit
              have HJ3 := am_ hj
              have HI2 := am_ hi2
              have HLE := am_ hle
              have HL2 := am_ hl2
              have HW1 := am_ hw1
              have hsome := idx_some (s := p2.1) (y := nx x j)
              generalize hy : nx x j = y at HC hdy HWY hpf hfit HPF2 HFIT hsome
              have HY := am_ hy
              clear hpf hfit hdy hj hi2 hle hl2 hw1 hx1 hy HPF hjz
              by_cases hm : y ∈ p2.1
              · have ep : put y (wd ++ pc j) p2 = p2 := by unfold put; rw [if_pos hm]
                have HEP := am_ ep
                have hsome := idx_in hm
                clear ep
                go_wp2_with (first
                  | (go_at_fn g2; refine (HC.out _ (by exact HMEM.out.bel)).mono ?_; rintro e W1 ⟨rfl, hb⟩; have HM1 := am_ (HMEM.out.below hb); clear hb)
                  | ((with_reducible refine gate_dst (N := 51) rfl ?_); have HM2 := am_ (HM1.out.below (below_alloc (Below.refl _ _) (Obj.cells #[Value.int IntKind.i64 y.1, Value.int IntKind.i64 y.2] 72))); refine wp_look_ok mapP rfl _ _ rfl _ _ _ HM2.out.map rfl y rfl HWY.out ?_; rw [hsome]))
                go_roundg g3
                case measure => omega
                case rel => exact ⟨p2, j + 1, wrap64 (jz + 1), rfl, ⟨by rw [HJZ.out, up1 (by have := HJ3.out; omega)]⟩, ⟨HJ3.out⟩, ⟨by have := HGJ.out; omega⟩, ⟨by have h0 := HPF2.out; rw [HEP.out] at h0; exact h0⟩, HF, HP1, HP2, HM2⟩
              · have ep : put y (wd ++ pc j) p2 = (p2.1 ++ [y], p2.2 ++ [wd ++ pc j]) := by unfold put; rw [if_neg hm]
                have HPF3 := am_ (ep ▸ HPF2.out)
                have HFIT3 := am_ (ep ▸ HFIT.out)
                have hu := idx_upd hm
                have HU := am_ hu
                have hsome := idx_out hm
                have hjz := HJZ.out
                have hj3 := HJ3.out
                have ew : wrap64 (jz + 1) = jz + 1 := w64 (by omega) (by omega)
                have c2 : ((0 : Int) ≤ jz) = True := eq_true (by omega)
                have c3 : decide (jz ≤ wrap64 (jz + 1)) = true := decide_eq_true (by omega)
                have c3b := eq_true (of_decide_eq_true c3)
                have c4 : decide (wrap64 (jz + 1) ≤ 3) = true := decide_eq_true (by omega)
                have c4b := eq_true (of_decide_eq_true c4)
                have epc : (⟨#[97, 98, 99]⟩ : ByteArray).extract jz.toNat (wrap64 (jz + 1)).toNat = pc j := by rw [ew, hjz, pc]; congr 1
                have c5 : wd.size + ((⟨#[97, 98, 99]⟩ : ByteArray).extract jz.toNat (wrap64 (jz + 1)).toNat).size ≤ 9223372036854775807 := by rw [epc, size_pc j hj3]; have := HSZ.out; have := HI2.out; have := HLE.out; have := hu_.out; omega
                have c5a := eq_true c5
                have c5b : decide (wd.size + ((⟨#[97, 98, 99]⟩ : ByteArray).extract jz.toNat (wrap64 (jz + 1)).toNat).size ≤ 9223372036854775807) = true := decide_eq_true c5
                have c5c : (9223372036854775807 < wd.size + ((⟨#[97, 98, 99]⟩ : ByteArray).extract jz.toNat (wrap64 (jz + 1)).toNat).size) = False := eq_false (Nat.not_lt.2 c5)
                have c5d : (9223372036854775807 < wd.size + ((wrap64 (jz + 1)).toNat - jz.toNat)) = False := eq_false (by rw [ew, hjz]; have := HSZ.out; have := HI2.out; have := HLE.out; have := hu_.out; omega)
                have EPC := am_ epc
                have HLEN : Aside0 ((p2.1.length : Int) ≤ 1000000) := ⟨by have := HLE.out; have := hu_.out; omega⟩
                obtain ⟨ad9, ea9, hx9⟩ := Kd.at_string (Kd.R_reads' HMEM.out.words).2.2 (i : Int) (by omega) (by have := HL2.out; have := HI2.out; omega)
                subst ea9
                clear hx9 hm ep hu hjz hj3 ew epc c5 c3 c4
                go_wp2_with (first
                  | (go_at_fn g2; refine (HC.out _ (by exact HMEM.out.bel)).mono ?_; rintro e W1 ⟨rfl, hb⟩; have HM1 := am_ (HMEM.out.below hb); clear hb)
                  | ((with_reducible refine gate_dst (N := 51) rfl ?_); have HGN : Aside0 (gm ≠ W1.heap.size) := ⟨by have := HM1.out.map.lt; omega⟩; have HM2 := am_ (HM1.out.below (below_alloc (Below.refl _ _) (Obj.cells #[Value.int IntKind.i64 y.1, Value.int IntKind.i64 y.2] 72))); refine wp_look_ok mapP rfl _ _ rfl _ _ _ HM2.out.map rfl y rfl HWY.out ?_; rw [hsome])
                  | (at_builtin; refine Kd.R_append kdP (w0 := w) w.heap.size rfl (.tmp 60) (.tmp 62) 69 72 (.agg #[.int .i64 0, .int .i64 0]) 16 rfl Try.underlying69 infoP rfl (by decide) (by omega) (.slice (some ad8) p2.1.length c8) p2.1 y [.int .i64 y.1, .int .i64 y.2] (fun _ => True) (fun _ => False) rfl rfl ?aP (fun _ hk => hk.elim) ?aF ?aO ?aB ?aS ?aL ?_; (case aP => exact ⟨[.int .i64 y.1], [.int .i64 y.2], rfl, rfl, rfl⟩); (case aF => exact (fun _ _ => trivial)); (case aO => exact HL3.out); (case aB => exact HB3.out); (case aS => exact HB3.out.size); (case aL => have := HLEN.out; omega); intro v8n w3 ho hb hg hat; have HS4 := am_ (Kd.R_over' HS3.out (Kd.R_typed HL3.out) (by decide) hg); have HL4 := am_ ho; have HB4 := am_ hb; have HM4 := am_ (HM3.out.kept hg (HM3.out.not_row (Kd.R_typed HL3.out))); clear ho hb hg hat)
                  | (refine wp_update mapP rfl _ _ _ rfl _ _ _ HM2.out.map (by have := HLEN.out; unfold maxLen; omega) rfl y rfl HWY.out (p2.1.length : Int) rfl (by have := HLEN.out; simp [Lit.wf, IntKind.min, IntKind.max, IntKind.signed, IntKind.bits]; omega) ?_; intro w2 hm hgr; rw [HU.out, if_neg (by rw [hsome]; decide)] at hm; have hcy0 := cell_grown hgr (a := ⟨W1.heap.size, 0, none⟩) (by simp) (fun h_ => HGN.out (Option.some.inj h_).symm) (v := .int .i64 y.1) (by simp); have hcy1 := cell_grown hgr (a := ⟨W1.heap.size, 1, none⟩) (by simp) (fun h_ => HGN.out (Option.some.inj h_).symm) (v := .int .i64 y.2) (by simp); have HL3 := am_ (R_over_map HM2.out.list HM2.out.map hgr); have HS3 := am_ (R_over_map HM2.out.words HM2.out.map hgr); have HB3 := am_ (below_map HM2.out.bel hgr HGM.out); have HM3 := am_ hm; clear hm hgr))
                have HS5 := am_ (Kd.R_drew HS4.out)
                have HL5 := am_ (Kd.R_drew HL4.out)
                have HB5 := am_ (below_drew1 HB4.out)
                have HM5 := am_ (HM4.out.below (below_drew1 (Below.refl _ _)))
                clear HS4 HL4 HB4 HM4 HL3 HS3 HB3 HM3 HM1 HM2
                obtain ⟨ad9', ea9, hx9⟩ := Kd.at_string (Kd.R_reads' HS5.out).2.2 (i : Int) (by omega) (by have := HL2.out; have := HI2.out; omega)
                cases ea9
                rw [HW1.out, Int.toNat_natCast] at hx9
                refine start_ (n := 13) (S := (fun w' => w'.cell? (ad9.add i) = some (.string wd))) (ds := [10, 11]) (bl 13 0) (by kernel_rfl) rfl rfl (hx9) (fun hHeld => ?_); refine with_tabW tab17p bits17p (fun HT_ HW_ => ?_)
                generalize w3.drew = w4 at HS5 HL5 HB5 HM5 hx9 hHeld ⊢
                refine ph_ 0 64 (bl 13 1) HT_ ?_
                refine ph_ 1 65 (bl 13 3) HT_ ?_
                refine ph_ 2 66 (bl 13 7) HT_ ?_
                refine ph_ 3 67 (bl 13 15) HT_ ?_
                refine ph_ 5 69 (bl 13 47) HT_ ?_
                refine ph_ 6 70 (bl 13 111) HT_ ?_
                refine ph_ 7 71 (bl 13 239) HT_ ?_
                refine ph_ 8 72 (bl 13 495) HT_ ?_
                refine th_ 4 68 (bl 13 511) HT_ HW_ hHeld ?_
                refine ph_ 9 73 (bl 13 1023) HT_ ?_
                refine last_ (i := 10) (N := some 74) (bl 13 2047) rfl rfl (one_of HT_.out (by kernel_rfl)) (by decide) (fun K hK => ?_)
                refine value_ (w1 := ?_) (v := ?_) (by rfl) rfl ?_ ?_
                rotate_left 2
                · go_simp
                  constructor
                  · rfl
                  · rfl
                refine hK.out _ _ ?_
                clear hK K
                refine norm_ (a' := ?_) ?_ ?_
                rotate_left
                · show Act.put _ (some 74) _ = _
                  simp only [Act.put, List.setIfInBounds_toArray, List.set_cons_zero, List.set_cons_succ, i64_w, i32_w]
                  rfl
                refine last_ (i := 11) (N := some 75) (bl 13 4095) rfl rfl (one_of HT_.out (by kernel_rfl)) (by decide) (fun K hK => ?_)
                refine Kd.R_append_step Kd.string (w0 := w) w.heap.size (by rfl) (.tmp 64) (.tmp 74) 52 9 (.string ⟨#[]⟩) 16 rfl Try.underlying52 info9 rfl (by decide) (by omega) (.slice (some ad9) p2.2.length c9) p2.2 (wd ++ ((⟨#[97, 98, 99]⟩ : ByteArray).extract jz.toNat (wrap64 (jz + 1)).toNat)) [.string (wd ++ ((⟨#[97, 98, 99]⟩ : ByteArray).extract jz.toNat (wrap64 (jz + 1)).toNat))] (fun _ => True) (fun _ => False) rfl rfl ?aP (fun _ hk => hk.elim) ?aF ?aO ?aB ?aS ?aL ?_
                (case aP => exact rfl)
                (case aF => exact (fun _ _ => trivial))
                (case aO => exact HS5.out)
                (case aB => exact HB5.out)
                (case aS => exact HB5.out.size)
                (case aL => have := HLEN.out; have := HL2.out; omega)
                intro v9n w5 ho hb hg hat
                rw [EPC.out] at ho
                have HMN : Aside0 (MemP w w5 v8n v9n gm (p2.1 ++ [y], p2.2 ++ [wd ++ pc j])) := ⟨⟨Kd.R_over' HL5.out (Kd.R_typed HS5.out) (by decide) hg, ho, by have h0 := HM5.out.kept hg (HM5.out.not_row (Kd.R_typed HS5.out)); rw [List.length_append]; exact h0, hb⟩⟩
                clear ho hb hg hat HS5 HL5 HB5 HM5
                refine hK.out _ _ ?_
                clear hK K
                refine norm_ (a' := ?_) ?_ ?_
                rotate_left
                · show Act.put _ (some 75) _ = _
                  simp only [Act.put, List.setIfInBounds_toArray, List.set_cons_zero, List.set_cons_succ, i64_w, i32_w]
                  rfl
                refine ph_ 12 9 (bl 13 8191) HT_ ?_
                refine done_ (done_of HT_.out (by kernel_rfl)) ?_
                go_wp2
                go_roundg g3
                case measure => omega
                case rel => exact ⟨(p2.1 ++ [y], p2.2 ++ [wd ++ pc j]), j + 1, wrap64 (jz + 1), rfl, ⟨by rw [HJZ.out, up1 (by have := HJ3.out; omega)]⟩, ⟨HJ3.out⟩, ⟨by have := HGJ.out; omega⟩, HPF3, HFIT3, ⟨by rw [List.getElem?_append_left HI2.out]; exact HP1.out⟩, ⟨by rw [List.getElem?_append_left (by have := HL2.out; have := HI2.out; omega)]; exact HP2.out⟩, HMN⟩
            · have ej : j = 3 := by have := HJ.out; omega
              subst ej
              have ejz := HJZ.out
              subst ejz
              have d3 : decide (((3 : Nat) : Int) < 3) = false := by decide
              go_wp2
              go_roundg g
              case measure => omega
              case rel => exact ⟨p2, i + 1, by rw [up1 (by have := (List.getElem?_eq_some_iff.mp HP1.out).1; have := HF.out.le; have := hu_.out; omega)], ⟨(List.getElem?_eq_some_iff.mp HP1.out).1⟩, ⟨by have := HG.out; omega⟩, ⟨by have h0 := HPF.out; rw [show 3 - 3 = 0 from rfl, ex] at h0; rw [h0]; exact HRR.out⟩, HF, HMEM⟩
      · have hr := HR.out
        rw [bfs, dif_neg hi] at hr
        subst hr
        have d1 : decide ((i : Int) < (p.1.length : Int)) = false := decide_eq_false (by omega)
        go_wp2
        go_ret2
        exact ⟨rfl, HMEM.out.bel⟩
end Go.Proofs.Ytogamkblkoobkaa.Wk
end
section
namespace Go.Proofs.Ytogamkblkoobkaa.P
open Go.RowKit Go.Proofs.YtogamkblkoobkaaW.PrintWords Go.Proofs.YtogamkblkoobkaaW.PrintLast Go.Proofs.YtogamkblkoobkaaW.PrintMore
attribute [local go_sem] max2_int min2_int max_two min_two max_three min_three max_four min_four
set_option linter.unusedVariables false
set_option linter.unusedSimpArgs false
def impl_within.f (a0 : Int) (a1 : Int) (a2 : Int) : Option (Bool) := if a0 ≥ a1 then (some (decide (a0 ≤ a2))) else (some false)
set_option maxHeartbeats 8000000 in
set_option maxRecDepth 100000 in
theorem impl_within.calls (a0 : Int) (a1 : Int) (a2 : Int) (r : Bool) (w : World) (h : impl_within.f a0 a1 a2 = some r) :
    Calls Try.prog 101 #[.int .i64 a0, .int .i64 a1, .int .i64 a2] w fun e w' => e = .returned (.bool r) ∧ Drawn0 w w' := by
  have H : (if a0 ≥ a1 then (some (decide (a0 ≤ a2))) else (some false)) = some r := h
  clear h
  by_cases c4 : a0 ≥ a1
  · rw [if_pos c4] at H
    have c4b0 : decide (a1 ≤ a0) = true := decide_eq_true c4
    clear c4
    obtain rfl := Option.some.inj H
    simp only [Option.some.injEq, Prod.mk.injEq] at H
    obtain ⟨rfl⟩ := H
    go_enter Try.func101, Try.ntmps101
    go_wp2
    go_ret
    exact ⟨by first | rfl | (simp; done) | (simp [*]; done), by repeat (first | exact Drawn0.refl _ | apply Drawn0.step)⟩
  · rw [if_neg c4] at H
    have c4b0 : decide (a1 ≤ a0) = false := decide_eq_false c4
    clear c4
    obtain rfl := Option.some.inj H
    simp only [Option.some.injEq, Prod.mk.injEq] at H
    obtain ⟨rfl⟩ := H
    go_enter Try.func101, Try.ntmps101
    go_wp2
    go_ret
    exact ⟨by first | rfl | (simp; done) | (simp [*]; done), by repeat (first | exact Drawn0.refl _ | apply Drawn0.step)⟩
end Go.Proofs.Ytogamkblkoobkaa.P
end
section
namespace Go.Proofs.Ytogamkblkoobkaa.Wk
open Go.RowKit Go.Shelf Go.Proofs.Ytogamkblkoobkaa.P Go.Proofs.YtogamkblkoobkaaW.PrintWords Go.Proofs.YtogamkblkoobkaaW.PrintLast Go.Proofs.YtogamkblkoobkaaW.PrintMore
set_option linter.unusedVariables false
set_option linter.unusedSimpArgs false
def Hit (p : Nat → Bool) (n : Nat) (r : Int) : Prop := decide (0 ≤ r) = (List.range n).any p
def Told (P : Int → Prop) (w : World) (e : Ending) (w' : World) : Prop := ∃ r : Int, e = .returned (.int .i64 r) ∧ P r ∧ Below w.heap.size w w'
theorem hit_at {p : Nat → Bool} {n k : Nat} (h : k < n) (hp : p k = true) : Hit p n (k : Int) := by
  unfold Hit
  rw [decide_eq_true (by omega), eq_comm, List.any_eq_true]
  exact ⟨k, List.mem_range.mpr h, hp⟩
theorem hit_none {p : Nat → Bool} {n : Nat} (h : ∀ j, j < n → p j = false) : Hit p n (-1) := by
  unfold Hit
  rw [decide_eq_false (by omega), eq_comm, List.any_eq_false]
  intro x hx
  rw [h x (List.mem_range.mp hx)]
  simp
set_option maxHeartbeats 2000000 in
theorem indexRows {vals : Nat → Value} {p : Nat → Bool} (A : Option Addr) (n c g : Nat) (lb : Array Value) (eg : ∀ args w, (callFunc g args).run Try.prog w = .ok (.enter g args) w) (w : World) (hn : n ≤ 9223372036854775807)
    (hc : 0 < n → ∃ ad : Addr, A = some ad ∧ ∀ j, j < n → w.cell? (ad.add j) = some (vals j))
    (hp : ∀ j, j < n → ∀ W, Below w.heap.size w W → Calls Try.prog g (#[vals j] ++ lb) W fun e W' => e = .returned (.bool (p j)) ∧ Below W.heap.size W W') :
    Calls Try.prog 127 #[.slice A n c, .func (.func g) #[] lb] w (Told (Hit p n) w) := by
  rcases Nat.eq_zero_or_pos n with h0 | h0
  · subst h0
    clear hc hp
    go_enter Try.func127, Try.ntmps127
    go_wp2
    go_loopg [5, 8] 0 (fun _ _ s8 wr => s8 = .int .i64 0 ∧ wr = w)
    case atStart => exact ⟨rfl, rfl⟩
    case round =>
      obtain ⟨rfl, rfl⟩ := hrel
      go_wp2
      go_ret
      exact ⟨-1, rfl, hit_none (fun j hj => by omega), Below.refl _ _⟩
  · obtain ⟨ad, rfl, hcc⟩ := hc h0
    clear hc
    have HC := am_ hcc
    clear hcc
    have HP := am_ hp
    clear hp
    go_enter Try.func127, Try.ntmps127
    go_wp2
    go_loopg [5, 8] n (fun gg _ s8 wr => ∃ kk : Nat, s8 = .int .i64 kk ∧ Aside0 (kk ≤ n) ∧ Aside0 (n - kk ≤ gg) ∧ Aside0 (Below w.heap.size w wr) ∧ Aside0 (∀ j, j < kk → p j = false))
    case atStart => exact ⟨0, rfl, ⟨Nat.zero_le _⟩, ⟨by omega⟩, ⟨Below.refl _ _⟩, ⟨fun j hj => absurd hj (Nat.not_lt_zero _)⟩⟩
    case round =>
      obtain ⟨kk, rfl, HK, HG, HB, HQ⟩ := hrel
      by_cases hlt : kk < n
      · have hltz : (kk : Int) < (n : Int) := by omega
        have hcell : wr.cell? (ad.add kk) = some (vals kk) := pw_cell_below HB.out (HC.out kk hlt)
        have hcall := am_ (HP.out kk hlt)
        generalize hy : vals kk = y at hcell hcall
        clear hy
        cases hq : p kk with
        | true =>
          rw [hq] at hcall
          have HQ1 := am_ hq
          clear hq
          go_wp2_with (go_at_fn g; refine (hcall.out _ (by exact HB.out)).mono ?_; rintro e w' ⟨rfl, hb⟩; have HB2 := am_ hb; clear hb)
          go_ret
          exact ⟨kk, rfl, hit_at hlt HQ1.out, below_then HB.out HB.out.size HB2.out⟩
        | false =>
          rw [hq] at hcall
          have HQ1 := am_ hq
          clear hq
          go_wp2_with (go_at_fn g; refine (hcall.out _ (by exact HB.out)).mono ?_; rintro e w' ⟨rfl, hb⟩; have HB2 := am_ hb; clear hb)
          go_roundg (n - (kk + 1))
          case measure => have := HG.out; omega
          case rel =>
            refine ⟨kk + 1, by go_num, ⟨by omega⟩, ⟨by omega⟩, ⟨below_then HB.out HB.out.size HB2.out⟩, ⟨fun j hj => ?_⟩⟩
            by_cases e : j = kk
            · subst e; exact HQ1.out
            · exact HQ.out j (by omega)
      · have hltz : ¬ (kk : Int) < (n : Int) := by omega
        have e : kk = n := by have := HK.out; omega
        subst e
        go_wp2
        go_ret
        exact ⟨-1, rfl, hit_none HQ.out, HB.out⟩
set_option maxHeartbeats 2000000 in
theorem containsRows {vals : Nat → Value} {p : Nat → Bool} (A : Option Addr) (n c g : Nat) (lb : Array Value) (eg : ∀ args w, (callFunc g args).run Try.prog w = .ok (.enter g args) w) (w : World) (hn : n ≤ 9223372036854775807)
    (hc : 0 < n → ∃ ad : Addr, A = some ad ∧ ∀ j, j < n → w.cell? (ad.add j) = some (vals j))
    (hp : ∀ j, j < n → ∀ W, Below w.heap.size w W → Calls Try.prog g (#[vals j] ++ lb) W fun e W' => e = .returned (.bool (p j)) ∧ Below W.heap.size W W') :
    Calls Try.prog 102 #[.slice A n c, .func (.func g) #[] lb] w fun e w' => e = .returned (.bool ((List.range n).any p)) ∧ Below w.heap.size w w' := by
  have h := indexRows A n c g lb eg w hn hc hp
  clear hc hp eg
  have HC := am_ h
  clear h
  go_enter Try.func102, Try.ntmps102
  go_wp2_with (go_at_call 127; refine HC.out.mono ?_; rintro e w' ⟨r, rfl, hr, hb⟩; have HR := am_ hr; clear hr; have HB := am_ hb; clear hb)
  go_ret
  have e := HR.out
  unfold Hit at e
  rw [← e]
  exact ⟨rfl, HB.out⟩
set_option maxHeartbeats 2000000 in
theorem indexNums {vals : Nat → Value} {p : Nat → Bool} (A : Option Addr) (n c g : Nat) (lb : Array Value) (eg : ∀ args w, (callFunc g args).run Try.prog w = .ok (.enter g args) w) (w : World) (hn : n ≤ 9223372036854775807)
    (hc : 0 < n → ∃ ad : Addr, A = some ad ∧ ∀ j, j < n → w.cell? (ad.add j) = some (vals j))
    (hp : ∀ j, j < n → ∀ W, Below w.heap.size w W → Calls Try.prog g (#[vals j] ++ lb) W fun e W' => e = .returned (.bool (p j)) ∧ Below W.heap.size W W') :
    Calls Try.prog 128 #[.slice A n c, .func (.func g) #[] lb] w (Told (Hit p n) w) := by
  rcases Nat.eq_zero_or_pos n with h0 | h0
  · subst h0
    clear hc hp
    go_enter Try.func128, Try.ntmps128
    go_wp2
    go_loopg [5, 8] 0 (fun _ _ s8 wr => s8 = .int .i64 0 ∧ wr = w)
    case atStart => exact ⟨rfl, rfl⟩
    case round =>
      obtain ⟨rfl, rfl⟩ := hrel
      go_wp2
      go_ret
      exact ⟨-1, rfl, hit_none (fun j hj => by omega), Below.refl _ _⟩
  · obtain ⟨ad, rfl, hcc⟩ := hc h0
    clear hc
    have HC := am_ hcc
    clear hcc
    have HP := am_ hp
    clear hp
    go_enter Try.func128, Try.ntmps128
    go_wp2
    go_loopg [5, 8] n (fun gg _ s8 wr => ∃ kk : Nat, s8 = .int .i64 kk ∧ Aside0 (kk ≤ n) ∧ Aside0 (n - kk ≤ gg) ∧ Aside0 (Below w.heap.size w wr) ∧ Aside0 (∀ j, j < kk → p j = false))
    case atStart => exact ⟨0, rfl, ⟨Nat.zero_le _⟩, ⟨by omega⟩, ⟨Below.refl _ _⟩, ⟨fun j hj => absurd hj (Nat.not_lt_zero _)⟩⟩
    case round =>
      obtain ⟨kk, rfl, HK, HG, HB, HQ⟩ := hrel
      by_cases hlt : kk < n
      · have hltz : (kk : Int) < (n : Int) := by omega
        have hcell : wr.cell? (ad.add kk) = some (vals kk) := pw_cell_below HB.out (HC.out kk hlt)
        have hcall := am_ (HP.out kk hlt)
        generalize hy : vals kk = y at hcell hcall
        clear hy
        cases hq : p kk with
        | true =>
          rw [hq] at hcall
          have HQ1 := am_ hq
          clear hq
          go_wp2_with (go_at_fn g; refine (hcall.out _ (by exact HB.out)).mono ?_; rintro e w' ⟨rfl, hb⟩; have HB2 := am_ hb; clear hb)
          go_ret
          exact ⟨kk, rfl, hit_at hlt HQ1.out, below_then HB.out HB.out.size HB2.out⟩
        | false =>
          rw [hq] at hcall
          have HQ1 := am_ hq
          clear hq
          go_wp2_with (go_at_fn g; refine (hcall.out _ (by exact HB.out)).mono ?_; rintro e w' ⟨rfl, hb⟩; have HB2 := am_ hb; clear hb)
          go_roundg (n - (kk + 1))
          case measure => have := HG.out; omega
          case rel =>
            refine ⟨kk + 1, by go_num, ⟨by omega⟩, ⟨by omega⟩, ⟨below_then HB.out HB.out.size HB2.out⟩, ⟨fun j hj => ?_⟩⟩
            by_cases e : j = kk
            · subst e; exact HQ1.out
            · exact HQ.out j (by omega)
      · have hltz : ¬ (kk : Int) < (n : Int) := by omega
        have e : kk = n := by have := HK.out; omega
        subst e
        go_wp2
        go_ret
        exact ⟨-1, rfl, hit_none HQ.out, HB.out⟩
set_option maxHeartbeats 2000000 in
theorem containsNums {vals : Nat → Value} {p : Nat → Bool} (A : Option Addr) (n c g : Nat) (lb : Array Value) (eg : ∀ args w, (callFunc g args).run Try.prog w = .ok (.enter g args) w) (w : World) (hn : n ≤ 9223372036854775807)
    (hc : 0 < n → ∃ ad : Addr, A = some ad ∧ ∀ j, j < n → w.cell? (ad.add j) = some (vals j))
    (hp : ∀ j, j < n → ∀ W, Below w.heap.size w W → Calls Try.prog g (#[vals j] ++ lb) W fun e W' => e = .returned (.bool (p j)) ∧ Below W.heap.size W W') :
    Calls Try.prog 104 #[.slice A n c, .func (.func g) #[] lb] w fun e w' => e = .returned (.bool ((List.range n).any p)) ∧ Below w.heap.size w w' := by
  have h := indexNums A n c g lb eg w hn hc hp
  clear hc hp eg
  have HC := am_ h
  clear h
  go_enter Try.func104, Try.ntmps104
  go_wp2_with (go_at_call 128; refine HC.out.mono ?_; rintro e w' ⟨r, rfl, hr, hb⟩; have HR := am_ hr; clear hr; have HB := am_ hb; clear hb)
  go_ret
  have e := HR.out
  unfold Hit at e
  rw [← e]
  exact ⟨rfl, HB.out⟩
def badState (n q : Int) : Bool := !decide (0 ≤ q) || !decide (q ≤ n - 1)
def badRow (n : Int) (row : List Int) : Bool := decide (row.length ≠ 3) || row.any (badState n)
def validD (acc : List Bool) (nxt : List (List Int)) : Bool := decide (1 ≤ acc.length) && decide (acc.length ≤ 40) && decide (nxt.length = acc.length) && !(nxt.any (badRow acc.length))
set_option maxHeartbeats 2000000 in
theorem inner (q : Int) (n : Int) (B : Nat) (hn0 : 1 ≤ n) (hn : n ≤ 40) (w : World) (hc : w.cell? ⟨B, 0, none⟩ = some (.int .i64 n)) :
    Calls Try.prog 105 #[.int .i64 q, .pointer (some ⟨B, 0, none⟩)] w fun e w' => e = .returned (.bool (badState n q)) ∧ Below w.heap.size w w' := by
  have H1 := fun W => impl_within.calls q 0 (n - 1) (decide (0 ≤ q) && decide (q ≤ n - 1)) W (by unfold impl_within.f; by_cases h : q ≥ 0 <;> simp [h])
  have HC := am_ H1
  clear H1
  go_enter Try.func105, Try.ntmps105
  go_wp2_with (go_at_call 101; refine (HC.out _).mono ?_; rintro e w' ⟨rfl, ⟨m, rfl⟩⟩)
  go_ret
  exact ⟨rfl, (Drawn0.below ⟨⟨_, rfl⟩⟩)⟩
theorem cellsInt {k : IntKind} {w : World} {A : Option Addr} {n : Nat} {xs : List Int} (h : Kd.C (Kd.int k) w A n xs) : 0 < n → ∃ ad : Addr, A = some ad ∧ ∀ j, j < n → w.cell? (ad.add j) = some (.int k (xs.getD j 0)) := by
  intro h0
  obtain ⟨ad, e, hc⟩ := h.2.2 h0
  refine ⟨ad, e, fun j hj => ?_⟩
  have hl : j < xs.length := by rw [h.1]; exact hj
  obtain ⟨c, hs, hr, hcell⟩ := hc j xs[j] (List.getElem?_eq_getElem hl)
  have hr' : c = [.int k xs[j]] := hr
  subst hr'
  have := hcell 0 _ rfl
  rw [show (Kd.int k).sz = 1 from rfl, Nat.mul_one, Nat.add_zero] at this
  rw [this, List.getD_eq_getElem?_getD, List.getElem?_eq_getElem hl]
  rfl
theorem cellsRows {e : Nat} {w : World} {A : Option Addr} {n : Nat} {xs : List (List Int)} (h : Kd.C (Kd.slice e (Kd.int .i64)) w A n xs) : 0 < n → ∃ ad : Addr, A = some ad ∧ ∀ j, j < n → ∃ A0 c0, w.cell? (ad.add j) = some (.slice A0 (xs.getD j []).length c0) ∧ Kd.C (Kd.int .i64) w A0 (xs.getD j []).length (xs.getD j []) := by
  intro h0
  obtain ⟨ad, ea, hc⟩ := h.2.2 h0
  refine ⟨ad, ea, fun j hj => ?_⟩
  have hl : j < xs.length := by rw [h.1]; exact hj
  obtain ⟨c, hs, hr, hcell⟩ := hc j xs[j] (List.getElem?_eq_getElem hl)
  obtain ⟨A0, c0, rfl, h1, h2⟩ := hr
  have := hcell 0 _ rfl
  rw [show (Kd.slice e (Kd.int .i64)).sz = 1 from rfl, Nat.mul_one, Nat.add_zero] at this
  rw [List.getD_eq_getElem?_getD, List.getElem?_eq_getElem hl]
  exact ⟨A0, c0, this, h2⟩
theorem any_range {α : Type} (z : α) (xs : List α) (f : α → Bool) : (List.range xs.length).any (fun j => f (xs.getD j z)) = xs.any f := by
  rw [Bool.eq_iff_iff, List.any_eq_true, List.any_eq_true]
  constructor
  · rintro ⟨j, hj, h⟩
    have hl := List.mem_range.mp hj
    rw [List.getD_eq_getElem?_getD, List.getElem?_eq_getElem hl] at h
    exact ⟨xs[j], List.getElem_mem _, h⟩
  · rintro ⟨x, hx, h⟩
    obtain ⟨j, hj, rfl⟩ := List.mem_iff_getElem.mp hx
    refine ⟨j, List.mem_range.mpr hj, ?_⟩
    rw [List.getD_eq_getElem?_getD, List.getElem?_eq_getElem hj]
    exact h
set_option maxHeartbeats 2000000 in
theorem outer (row : List Int) (A : Option Addr) (c : Nat) (n : Int) (B : Nat) (hn0 : 1 ≤ n) (hn : n ≤ 40) (w : World) (hB : B < w.heap.size) (hc : w.cell? ⟨B, 0, none⟩ = some (.int .i64 n)) (hr : Kd.C (Kd.int .i64) w A row.length row) :
    Calls Try.prog 103 #[.slice A row.length c, .pointer (some ⟨B, 0, none⟩)] w fun e w' => e = .returned (.bool (badRow n row)) ∧ Below w.heap.size w w' := by
  have hlen := hr.2.1
  by_cases h3 : row.length = 3
  · have hp : ∀ j, j < row.length → ∀ W, Below w.heap.size w W → Calls Try.prog 105 (#[.int .i64 (row.getD j 0)] ++ #[.pointer (some ⟨B, 0, none⟩)]) W fun e W' => e = .returned (.bool (badState n (row.getD j 0))) ∧ Below W.heap.size W W' :=
      fun j hj W hb => inner _ n B hn0 hn W ((hb.cell (p := ⟨B, 0, none⟩) hB).trans hc)
    have hcon := fun W (hb : Below w.heap.size w W) => containsNums (vals := fun j => .int .i64 (row.getD j 0)) (p := fun j => badState n (row.getD j 0)) A row.length c 105 #[.pointer (some ⟨B, 0, none⟩)]
      (enters_of Try.func105 (by kernel_rfl) rfl) W hlen (cellsInt (Kd.C_below hr hb)) (fun j hj W' hb' => hp j hj W' (below_then hb hb.size hb'))
    have HC := am_ hcon
    have e3 : badRow n row = (List.range row.length).any (fun j => badState n (row.getD j 0)) := by
      rw [any_range 0 row (badState n)]
      simp [badRow, h3]
    have E3 := am_ e3
    clear hcon hp hr hc e3
    have t3 : ((row.length : Int) != 3) = false := by rw [bne_eq_false_iff_eq]; omega
    clear h3 hlen
    go_enter Try.func103, Try.ntmps103
    go_wp2_with (go_at_call 104; refine (HC.out _ (by exact Below.refl _ _)).mono ?_; rintro e w' ⟨rfl, hb⟩; have HB := am_ hb; clear hb)
    go_ret
    rw [E3.out]
    exact ⟨rfl, HB.out⟩
  · have e3 : badRow n row = true := by simp [badRow, h3]
    have E3 := am_ e3
    have t3 : ((row.length : Int) != 3) = true := by rw [bne_iff_ne]; omega
    clear h3 e3 hr
    go_enter Try.func103, Try.ntmps103
    go_wp2
    go_ret
    rw [E3.out]
    exact ⟨rfl, Below.refl _ _⟩
theorem rowsContain (A1 : Option Addr) (c1 : Nat) (l1 : List (List Int)) (n : Int) (hn0 : 1 ≤ n) (hn : n ≤ 40) (w : World) (hr1 : Kd.C (Kd.slice 3 (Kd.int .i64)) w A1 l1.length l1) (B : Nat) (W : World) (hb : Below w.heap.size w W) (hB : B < W.heap.size) (hc : W.cell? ⟨B, 0, none⟩ = some (.int .i64 n)) :
    Calls Try.prog 102 #[.slice A1 l1.length c1, .func (.func 103) #[] #[.pointer (some ⟨B, 0, none⟩)]] W fun e w' => e = .returned (.bool (l1.any (badRow n))) ∧ Below W.heap.size W w' := by
  have hl := hr1.2.1
  have hW := Kd.C_below hr1 hb
  rw [← any_range [] l1 (badRow n)]
  rcases Nat.eq_zero_or_pos l1.length with h0 | h0
  · refine containsRows (vals := fun _ => .bool false) (p := fun j => badRow n (l1.getD j [])) A1 l1.length c1 103 _ (enters_of Try.func103 (by kernel_rfl) rfl) W hl (fun h => by omega) (fun j hj => by omega)
  · obtain ⟨ad, rfl, hcell⟩ := cellsRows hW h0
    refine containsRows (vals := fun j => (W.cell? (ad.add j)).getD (.bool false)) (p := fun j => badRow n (l1.getD j [])) _ l1.length c1 103 _ (enters_of Try.func103 (by kernel_rfl) rfl) W hl (fun _ => ⟨ad, rfl, fun j hj => ?_⟩) (fun j hj W' hb' => ?_)
    · obtain ⟨Aj, cj, h1, _⟩ := hcell j hj
      rw [h1]
      rfl
    · obtain ⟨Aj, cj, h1, h2⟩ := hcell j hj
      simp only [h1, Option.getD_some]
      exact outer (l1.getD j []) Aj cj n B hn0 hn W' (Nat.lt_of_lt_of_le hB hb'.size) ((hb'.cell (p := ⟨B, 0, none⟩) hB).trans hc) (Kd.C_below h2 hb')
set_option maxHeartbeats 2000000 in
theorem validCalls (A0 : Option Addr) (c0 : Nat) (l0 : List Bool) (A1 : Option Addr) (c1 : Nat) (l1 : List (List Int)) (w : World) (hr0 : Kd.C Kd.bool w A0 l0.length l0) (hr1 : Kd.C (Kd.slice 3 (Kd.int .i64)) w A1 l1.length l1) :
    Calls Try.prog 39 #[.agg #[.slice A0 l0.length c0, .slice A1 l1.length c1]] w fun e w' => e = .returned (.bool (validD l0 l1)) ∧ Below w.heap.size w w' := by
  have hu := Try.underlying27
  have hl0 := hr0.2.1
  have hl1 := hr1.2.1
  have hwi := fun W => impl_within.calls (l0.length : Int) 1 40 (decide (1 ≤ l0.length) && decide (l0.length ≤ 40)) W (by
    unfold impl_within.f
    by_cases h : 1 ≤ l0.length
    · rw [if_pos (show (l0.length : Int) ≥ 1 by omega), decide_eq_true h, Bool.true_and]
      exact congrArg some (decide_eq_decide.mpr (by omega))
    · rw [if_neg (show ¬ (l0.length : Int) ≥ 1 by omega), decide_eq_false h, Bool.false_and])
  have hV := validD.eq_def l0 l1
  by_cases h1 : (decide (1 ≤ l0.length) && decide (l0.length ≤ 40)) = true
  · rw [h1] at hwi
    by_cases h2 : l1.length = l0.length
    · have hcon := rowsContain A1 c1 l1 (l0.length : Int) (by simp at h1; omega) (by simp at h1; omega) w hr1
      have t2 : ((l1.length : Int) != (l0.length : Int)) = false := by rw [bne_eq_false_iff_eq]; omega
      rw [h1, decide_eq_true h2, Bool.true_and, Bool.true_and] at hV
      have HW := am_ hwi
      have HC := am_ hcon
      have HV := am_ hV
      clear hwi hcon h1 h2 hr0 hr1 hl0 hl1 hV
      go_enter Try.func39, Try.ntmps39
      go_wp2_with (first | (go_at_call 101; refine (HW.out _).mono ?_; rintro e w' ⟨rfl, ⟨m, rfl⟩⟩) | (go_at_call 102; refine (HC.out (w.heap.size + 1) _ ?q1 ?q2 ?q3).mono ?_; (case q1 => exact pw_below_drewN (below_alloc (below_alloc (Below.refl _ _) _) _) _); (case q2 => simp); (case q3 => simp); rintro e w' ⟨rfl, hb⟩; have HB := am_ hb; clear hb))
      go_ret
      rw [HV.out]
      exact ⟨rfl, below_then (pw_below_drewN (below_alloc (below_alloc (Below.refl _ _) _) _) _) (by simp; omega) HB.out⟩
    · have t2 : ((l1.length : Int) != (l0.length : Int)) = true := by rw [bne_iff_ne]; omega
      rw [h1, decide_eq_false h2, Bool.true_and, Bool.false_and] at hV
      have HW := am_ hwi
      have HV := am_ hV
      clear hwi h1 h2 hr0 hr1 hl0 hl1 hV
      go_enter Try.func39, Try.ntmps39
      go_wp2_with (go_at_call 101; refine (HW.out _).mono ?_; rintro e w' ⟨rfl, ⟨m, rfl⟩⟩)
      go_ret
      rw [HV.out]
      exact ⟨rfl, pw_below_drewN (below_alloc (below_alloc (Below.refl _ _) _) _) _⟩
  · have h1' : (decide (1 ≤ l0.length) && decide (l0.length ≤ 40)) = false := by simpa using h1
    rw [h1'] at hwi
    rw [h1', Bool.false_and, Bool.false_and] at hV
    have HW := am_ hwi
    have HV := am_ hV
    clear hwi h1 h1' hr0 hr1 hl0 hl1 hV
    go_enter Try.func39, Try.ntmps39
    go_wp2_with (go_at_call 101; refine (HW.out _).mono ?_; rintro e w' ⟨rfl, ⟨m, rfl⟩⟩)
    go_ret
    rw [HV.out]
    exact ⟨rfl, pw_below_drewN (below_alloc (below_alloc (Below.refl _ _) _) _) _⟩
end Go.Proofs.Ytogamkblkoobkaa.Wk
end
section
namespace Go.Proofs.Ytogamkblkoobkaa.Bf
open Go.Proofs.Ytogamkblkoobkaa.Pl
theorem nodup_le {α : Type} [DecidableEq α] : ∀ (s t : List α), s.Nodup → (∀ x ∈ s, x ∈ t) → s.length ≤ t.length
  | [], t, _, _ => Nat.zero_le _
  | a :: s, t, hn, hs => by
    rw [List.nodup_cons] at hn
    have hm := hs a List.mem_cons_self
    have h1 := nodup_le s (t.erase a) hn.2 (fun x hx => by
      have hne : x ≠ a := by rintro rfl; exact hn.1 hx
      exact (List.mem_erase_of_ne hne).mpr (hs x (List.mem_cons_of_mem _ hx)))
    rw [List.length_erase_of_mem hm] at h1
    have := List.length_pos_of_mem hm
    simp only [List.length_cons]
    omega
theorem card_range (n : Nat) (s : List Int) (hn : s.Nodup) (h : ∀ x ∈ s, 0 ≤ x ∧ x < n) : s.length ≤ n := by
  have := nodup_le s ((List.range n).map fun (i : Nat) => (i : Int)) hn (fun x hx => by
    have := h x hx
    exact List.mem_map.mpr ⟨x.toNat, List.mem_range.mpr (by omega), by omega⟩)
  simpa using this
end Go.Proofs.Ytogamkblkoobkaa.Bf
namespace Go.Proofs.Ytogamkblkoobkaa.Wk
open Go.RowKit Go.Shelf Go.Proofs.Ytogamkblkoobkaa.P Go.Proofs.Ytogamkblkoobkaa.Pl Go.Proofs.Ytogamkblkoobkaa.Mp Go.Proofs.Ytogamkblkoobkaa.Bf Go.Proofs.YtogamkblkoobkaaW.PrintWords Go.Proofs.YtogamkblkoobkaaW.PrintLast Go.Proofs.YtogamkblkoobkaaW.PrintMore
set_option linter.unusedVariables false
set_option linter.unusedSimpArgs false
set_option maxHeartbeats 2000000 in
theorem shGood (A0 : Option Addr) (c0 : Nat) (l0 : List Bool) (B : Nat) (x : Int) (W : World) (hx0 : 0 ≤ x) (hx1 : x < l0.length) (hb0 : W.cell? ⟨B, 0, none⟩ = some (.slice A0 l0.length c0)) (hr0 : Kd.C Kd.bool W A0 l0.length l0) :
    Calls Try.prog 113 (#[.int .i64 x] ++ #[.pointer (some ⟨B, 0, none⟩)]) W fun e W' => e = .returned (.bool (rdOf false l0 x)) ∧ Below W.heap.size W W' := by
  obtain ⟨ad, rfl, hx⟩ := Kd.at_bool hr0 x hx0 hx1
  generalize rdOf false l0 x = y at hx ⊢
  have p1 := eq_true hx0
  have q1 := eq_true hx1
  clear hx0 hx1 hr0
  go_enter Try.func113, Try.ntmps113
  go_wp2
  go_ret
  exact ⟨rfl, Below.refl _ _⟩
set_option maxHeartbeats 2000000 in
theorem shNext (A1 : Option Addr) (c1 : Nat) (l1 : List (List Int)) (B : Nat) (x : Int) (j : Nat) (W : World) (hx0 : 0 ≤ x) (hx1 : x < l1.length) (hj : j < (l1.getD x.toNat []).length) (hb1 : W.cell? ⟨B, 1, none⟩ = some (.slice A1 l1.length c1)) (hr1 : Kd.C (Kd.slice 3 (Kd.int .i64)) W A1 l1.length l1) :
    Calls Try.prog 114 (#[.int .i64 x, .int .i64 j] ++ #[.pointer (some ⟨B, 0, none⟩)]) W fun e W' => e = .returned (.int .i64 (rd (l1.getD x.toNat []) j)) ∧ Below W.heap.size W W' := by
  obtain ⟨ad, rfl, hcell⟩ := cellsRows hr1 (by omega)
  obtain ⟨Aj, cj, hx, hrow⟩ := hcell x.toNat (by omega)
  generalize l1.getD x.toNat [] = row at hj hx hrow ⊢
  obtain ⟨ad2, rfl, hy⟩ := Kd.at_int hrow (j : Int) (by omega) (by omega)
  generalize rd row j = y at hy ⊢
  rw [Int.toNat_natCast] at hy
  have p1 := eq_true hx0
  have q1 := eq_true hx1
  have p2 : ((0 : Int) ≤ (j : Int)) = True := eq_true (by omega)
  have q2 : ((j : Int) < (row.length : Int)) = True := eq_true (by omega)
  clear hx0 hx1 hr1 hcell hrow hj
  go_enter Try.func114, Try.ntmps114
  go_wp2
  go_ret
  exact ⟨rfl, Below.refl _ _⟩
def nxD (l1 : List (List Int)) (x : Int) (j : Nat) : Int := rd (l1.getD x.toNat []) j
def shW (l0 : List Bool) (l1 : List (List Int)) : ByteArray × Bool := if validD l0 l1 = true then bfs (fun x => rdOf false l0 x) (nxD l1) 42 ([0], [(⟨#[]⟩ : ByteArray)]) 0 else (⟨#[]⟩, false)
theorem badState_eq2 (n q : Int) : badState n q = !(decide (0 ≤ q) && decide (q ≤ n - 1)) := by
  unfold badState
  cases decide (0 ≤ q) <;> cases decide (q ≤ n - 1) <;> rfl
theorem validD_facts {l0 : List Bool} {l1 : List (List Int)} (h : validD l0 l1 = true) : 1 ≤ l0.length ∧ l0.length ≤ 40 ∧ l1.length = l0.length ∧ ∀ r ∈ l1, r.length = 3 ∧ ∀ q ∈ r, 0 ≤ q ∧ q < l0.length := by
  simp only [validD, Bool.and_eq_true, decide_eq_true_eq, Bool.not_eq_true', List.any_eq_false] at h
  obtain ⟨⟨⟨h1, h2⟩, h3⟩, h4⟩ := h
  refine ⟨h1, h2, h3, fun r hr => ?_⟩
  have := h4 r hr
  simp only [badRow, Bool.or_eq_true, decide_eq_true_eq, not_or, List.any_eq_true, not_exists, not_and] at this
  refine ⟨by omega, fun x hx => ?_⟩
  have hb := this.2 x hx
  rw [badState_eq2] at hb
  simp at hb
  omega
set_option maxHeartbeats 2000000 in
theorem shCalls (A0 : Option Addr) (c0 : Nat) (l0 : List Bool) (A1 : Option Addr) (c1 : Nat) (l1 : List (List Int)) (w : World) (hr0 : Kd.C Kd.bool w A0 l0.length l0) (hr1 : Kd.C (Kd.slice 3 (Kd.int .i64)) w A1 l1.length l1) :
    Calls Try.prog 47 #[.agg #[.slice A0 l0.length c0, .slice A1 l1.length c1]] w fun e w' => e = .returned (.tuple #[.string (shW l0 l1).1, .bool (shW l0 l1).2]) ∧ Below w.heap.size w w' := by
  have hu := Try.underlying27
  have HV := am_ (fun W (hb : Below w.heap.size w W) => validCalls A0 c0 l0 A1 c1 l1 W (Kd.C_below hr0 hb) (Kd.C_below hr1 hb))
  cases hv : validD l0 l1 with
  | false =>
    rw [hv] at HV
    have e : shW l0 l1 = (⟨#[]⟩, false) := by unfold shW; rw [hv]; rfl
    rw [e]
    clear hv e hr0 hr1
    go_enter Try.func47, Try.ntmps47
    go_wp2_with (go_at_call 39; refine (HV.out _ (by exact below_alloc (Below.refl _ _) _)).mono ?_; rintro e w' ⟨rfl, hb⟩; have HB := am_ hb; clear hb)
    go_ret2
    exact ⟨rfl, below_then (below_alloc (Below.refl _ _) _) (by simp) HB.out⟩
  | true =>
    obtain ⟨n1, n2, n3, n4⟩ := validD_facts hv
    rw [hv] at HV
    have e : shW l0 l1 = bfs (fun x => rdOf false l0 x) (nxD l1) 42 ([0], [(⟨#[]⟩ : ByteArray)]) 0 := by unfold shW; rw [hv]; rfl
    rw [e]
    have hrow : ∀ x : Int, 0 ≤ x ∧ x < l0.length → (l1.getD x.toNat []).length = 3 ∧ ∀ q ∈ l1.getD x.toNat [], 0 ≤ q ∧ q < l0.length := fun x hx => by
      have hlt : x.toNat < l1.length := by omega
      rw [List.getD_eq_getElem?_getD, List.getElem?_eq_getElem hlt]
      exact n4 _ (List.getElem_mem hlt)
    have HFW := am_ (fun (B : Nat) (W : World) (hb : Below w.heap.size w W) (h0 : W.cell? ⟨B, 0, none⟩ = some (.slice A0 l0.length c0)) (h1 : W.cell? ⟨B, 1, none⟩ = some (.slice A1 l1.length c1)) =>
      firstWord_int (dom := fun x => 0 ≤ x ∧ x < (l0.length : Int)) 40 (by omega) (fun x => rdOf false l0 x) (nxD l1) 0 113 114 #[.pointer (some ⟨B, 0, none⟩)] #[.pointer (some ⟨B, 0, none⟩)] (enters_of Try.func113 (by kernel_rfl) rfl) (enters_of Try.func114 (by kernel_rfl) rfl) W
        ⟨by omega, by omega⟩ (fun x j hx hj => by
          obtain ⟨r1, r2⟩ := hrow x hx
          unfold nxD
          rw [rd_get _ _ (by omega)]
          exact r2 _ (List.getElem_mem _)) (fun x hx => by simp [wfI, Lit.wf, IntKind.min, IntKind.max, IntKind.signed, IntKind.bits]; omega) (fun s hn hs => Nat.le_trans (card_range l0.length s hn hs) n2)
        (fun x hx W' hb' => shGood A0 c0 l0 B x W' hx.1 hx.2 (pw_cell_below hb' h0) (Kd.C_below (Kd.C_below hr0 hb) hb'))
        (fun x j hx hj W' hb' => shNext A1 c1 l1 B x j W' hx.1 (by omega) (by rw [(hrow x hx).1]; exact hj) (pw_cell_below hb' h1) (Kd.C_below (Kd.C_below hr1 hb) hb')))
    clear hv e hr0 hr1 n1 n2 n3 n4 hrow
    go_enter Try.func47, Try.ntmps47
    go_wp2_with (first | (go_at_call 39; refine (HV.out _ (by exact below_alloc (Below.refl _ _) _)).mono ?_; rintro e w' ⟨rfl, hb⟩; have HB := am_ hb; clear hb) | (go_at_call 112; refine (HFW.out w.heap.size _ ?q1 ?q2 ?q3).mono ?_; (case q1 => exact below_then (below_alloc (Below.refl _ _) _) (by simp) HB.out); (case q2 => exact pw_cell_below HB.out (by simp)); (case q3 => exact pw_cell_below HB.out (by simp)); rintro e w' ⟨rfl, hb⟩; have HB2 := am_ hb; clear hb))
    go_ret2
    exact ⟨rfl, below_then (below_then (below_alloc (Below.refl _ _) _) (by simp) HB.out) (Nat.le_trans (by simp) HB.out.size) HB2.out⟩
end Go.Proofs.Ytogamkblkoobkaa.Wk
end
section
namespace Go.Proofs.Ytogamkblkoobkaa.Wk
open Go.RowKit Go.Shelf Go.Proofs.Ytogamkblkoobkaa.P Go.Proofs.Ytogamkblkoobkaa.Pl Go.Proofs.Ytogamkblkoobkaa.Mp Go.Proofs.Ytogamkblkoobkaa.Bf Go.Proofs.YtogamkblkoobkaaW.PrintWords Go.Proofs.YtogamkblkoobkaaW.PrintLast Go.Proofs.YtogamkblkoobkaaW.PrintMore
set_option linter.unusedVariables false
set_option linter.unusedSimpArgs false
section
variable {P : Program} {md : Region.Mode} {ops : Array Oper} {Q : Exit → Act → World → Prop}
theorem goesFn_ {oi : Oper} {N : Option Tmp} {a : Act} {w : World} {K : Act → World → Prop} (g : FuncId) (lb : Array Value) (t : Operand) {ar : Array Operand} {ts : Array TypeId} (args : Array Value) (eg : ∀ args w, (callFunc g args).run P w = .ok (.enter g args) w)
    (hw : Region.wanted oi (yielded ops a.tmps) = true) (hN : oi.dst = N) (hop : oi.op = .call { callee := .value t, args := ar, argTypes := ts }) (ht : a.eval t = .func (.func g) #[] lb) (hargs : ar.map a.eval = args)
    (h : Calls P g (args ++ lb) w fun e w' => ∃ v, e = .returned v ∧ K (a.put N v) w') : if Region.wanted oi (yielded ops a.tmps) = true then Oper.wp P oi a w K Q else K (a.put N undef) w := by
  refine call_ g (args ++ lb) hw hN ?_ h
  unfold execOp
  simp [hop, resolve, Deferred.ofValue, invoke, ht, hargs, eg]
end
def Tg1 : Bool × List (List Nat × List Nat) := (true, [([], []), ([], []), ([1], [1]), ([], []), ([3], [3]), ([2, 4], [2, 4]), ([5], [5]), ([], []), ([7], [7]), ([], []), ([9], [9]), ([8, 10], [8, 10]), ([11], [11]), ([0, 6, 12], [0, 6, 12]), ([13, 13, 0, 1, 2, 3, 4, 5, 6, 7, 8, 9, 10, 11, 12, 13], [13])])
def Bg1 : List Nat := [0, 0, 2, 0, 8, 30, 62, 0, 128, 0, 512, 1920, 3968, 8191, 16383]
theorem tabg1 : rtab .any (opsOf Try.f124 1) = Tg1 := by kernel_rfl
theorem bitsg1 : waitsOk Tg1.2 Bg1 = true := by kernel_rfl
def Tn1 : Bool × List (List Nat × List Nat) := (true, [([], []), ([0], [0]), ([], []), ([2], [2]), ([1, 3], [1, 3]), ([4], [4]), ([], []), ([5, 6], [5, 6]), ([7], [7]), ([], []), ([9], [9]), ([], []), ([11], [11]), ([10, 12], [10, 12]), ([13], [13]), ([], []), ([14, 15], [14, 15]), ([16], [16]), ([8, 17], [8, 17]), ([18, 0, 1, 2, 3, 4, 5, 6, 7, 8, 9, 10, 11, 12, 13, 14, 15, 16, 17, 18], [18])])
def Bn1 : List Nat := [0, 1, 0, 4, 15, 31, 0, 127, 255, 0, 512, 0, 2048, 7680, 15872, 0, 65024, 130560, 262143, 524287]
theorem tabn1 : rtab .any (opsOf Try.f125 1) = Tn1 := by kernel_rfl
theorem bitsn1 : waitsOk Tn1.2 Bn1 = true := by kernel_rfl
set_option maxHeartbeats 4000000 in
set_option maxRecDepth 100000 in
theorem fpGood (A0 : Option Addr) (c0 : Nat) (l0 : List Bool) (A1 : Option Addr) (c1 : Nat) (l1 : List Bool) (G Ga Gb gg : Nat) (good : Bool → Bool → Bool) (egg : ∀ args w, (callFunc gg args).run Try.prog w = .ok (.enter gg args) w)
    (hgood : ∀ (p q : Bool) (W : World), Calls Try.prog gg #[.bool p, .bool q] W fun e W' => e = .returned (.bool (good p q)) ∧ W = W') (x : Pr) (W : World)
    (hx0 : 0 ≤ x.1) (hx1 : x.1 < l0.length) (hy0 : 0 ≤ x.2) (hy1 : x.2 < l1.length) (hG : W.cell? ⟨G, 0, none⟩ = some (.func (.func gg) #[] #[])) (ha : W.cell? ⟨Ga, 0, none⟩ = some (.slice A0 l0.length c0)) (hb : W.cell? ⟨Gb, 0, none⟩ = some (.slice A1 l1.length c1))
    (hr0 : Kd.C Kd.bool W A0 l0.length l0) (hr1 : Kd.C Kd.bool W A1 l1.length l1) :
    Calls Try.prog 124 (#[.agg #[.int .i64 x.1, .int .i64 x.2]] ++ #[.pointer (some ⟨G, 0, none⟩), .pointer (some ⟨Ga, 0, none⟩), .pointer (some ⟨Gb, 0, none⟩)]) W fun e W' => e = .returned (.bool (good (rdOf false l0 x.1) (rdOf false l1 x.2))) ∧ Below W.heap.size W W' := by
  obtain ⟨a0, rfl, hu⟩ := Kd.at_bool hr0 x.1 hx0 hx1
  obtain ⟨a1, rfl, hv⟩ := Kd.at_bool hr1 x.2 hy0 hy1
  generalize rdOf false l0 x.1 = u at hu ⊢
  generalize rdOf false l1 x.2 = v at hv ⊢
  have HB := am_ (below_alloc (Below.refl W.heap.size W) (Obj.cells #[Value.int IntKind.i64 x.1, Value.int IntKind.i64 x.2] 72))
  have kG := pw_cell_below HB.out hG
  have ka := pw_cell_below HB.out ha
  have kb := pw_cell_below HB.out hb
  have ku := pw_cell_below HB.out hu
  have kv := pw_cell_below HB.out hv
  have p1 := eq_true hx0
  have q1 := eq_true hx1
  have p2 := eq_true hy0
  have q2 := eq_true hy1
  clear hx0 hx1 hy0 hy1 hr0 hr1 hG ha hb hu hv
  go_enter Try.func124, Try.ntmps124
  go_wp2
  have s0 : World.cell? (W.alloc (Obj.cells #[Value.int IntKind.i64 x.1, Value.int IntKind.i64 x.2] 72)) ⟨W.heap.size, 0, none⟩ = some (.int .i64 x.1) := by simp
  have s1 : World.cell? (W.alloc (Obj.cells #[Value.int IntKind.i64 x.1, Value.int IntKind.i64 x.2] 72)) ⟨W.heap.size, 1, none⟩ = some (.int .i64 x.2) := by simp
  have HBD := am_ (below_drew HB.out)
  refine start_ (n := 15) (S := (fun w' => w'.cell? ⟨G, 0, none⟩ = some (.func (.func gg) #[] #[]) ∧ w'.cell? ⟨Ga, 0, none⟩ = some (.slice (some a0) l0.length c0) ∧ w'.cell? ⟨Gb, 0, none⟩ = some (.slice (some a1) l1.length c1) ∧ w'.cell? ⟨W.heap.size, 0, none⟩ = some (.int .i64 x.1) ∧ w'.cell? ⟨W.heap.size, 1, none⟩ = some (.int .i64 x.2) ∧ w'.cell? (a0.add x.1.toNat) = some (.bool u) ∧ w'.cell? (a1.add x.2.toNat) = some (.bool v))) (ds := [13]) (bl 15 0) (by kernel_rfl) rfl rfl (⟨kG, ka, kb, s0, s1, ku, kv⟩) (fun hHeld => ?_); refine with_tabW tabg1 bitsg1 (fun HT_ HW_ => ?_)
  generalize World.drew (W.alloc (Obj.cells #[Value.int IntKind.i64 x.1, Value.int IntKind.i64 x.2] 72)) = W1 at HBD hHeld ⊢
  refine ph_ 1 7 (bl 15 2) HT_ ?_
  refine ph_ 3 9 (bl 15 10) HT_ ?_
  refine ph_ 7 13 (bl 15 138) HT_ ?_
  refine ph_ 9 15 (bl 15 650) HT_ ?_
  refine th_ 0 6 (bl 15 651) HT_ HW_ hHeld ?_
  refine th_ 2 8 (bl 15 655) HT_ HW_ hHeld ?_
  refine th_ 4 10 (bl 15 671) HT_ HW_ hHeld ?_
  refine ph_ 5 11 (bl 15 703) HT_ ?_
  refine th_ 6 12 (bl 15 767) HT_ HW_ hHeld ?_
  refine th_ 8 14 (bl 15 1023) HT_ HW_ hHeld ?_
  refine th_ 10 16 (bl 15 2047) HT_ HW_ hHeld ?_
  refine ph_ 11 17 (bl 15 4095) HT_ ?_
  refine th_ 12 18 (bl 15 8191) HT_ HW_ hHeld ?_
  refine last_ (i := 13) (N := some 19) (bl 15 16383) rfl rfl (one_of HT_.out (by kernel_rfl)) (by decide) (fun K hK => ?_)
  refine goesFn_ gg #[] (.tmp 6) #[.bool u, .bool v] egg (by rfl) rfl (by rfl) (by rfl) (by (try simp only [List.map_toArray, List.map_cons, List.map_nil]); first | done | rfl) ?_
  refine (hgood u v _).mono ?_
  rintro e W2 ⟨rfl, rfl⟩
  refine ⟨_, rfl, ?_⟩
  refine hK.out _ _ ?_
  clear hK K
  refine norm_ (a' := ?_) ?_ ?_
  rotate_left
  · show Act.put _ (some 19) _ = _
    simp only [Act.put, List.setIfInBounds_toArray, List.set_cons_zero, List.set_cons_succ, i64_w, i32_w]
    rfl
  refine ph_ 14 5 (bl 15 32767) HT_ ?_
  refine done_ (done_of HT_.out (by kernel_rfl)) ?_
  go_wp2
  go_ret
  exact ⟨rfl, HBD.out⟩
set_option maxRecDepth 100000 in
set_option maxHeartbeats 4000000 in
theorem fpNext (A0 : Option Addr) (c0 : Nat) (l0 : List (List Int)) (A1 : Option Addr) (c1 : Nat) (l1 : List (List Int)) (Ga Gb : Nat) (x : Pr) (j : Nat) (W : World)
    (hx0 : 0 ≤ x.1) (hx1 : x.1 < l0.length) (hy0 : 0 ≤ x.2) (hy1 : x.2 < l1.length) (hj0 : j < (l0.getD x.1.toNat []).length) (hj1 : j < (l1.getD x.2.toNat []).length) (ha : W.cell? ⟨Ga, 1, none⟩ = some (.slice A0 l0.length c0)) (hb : W.cell? ⟨Gb, 1, none⟩ = some (.slice A1 l1.length c1))
    (hr0 : Kd.C (Kd.slice 3 (Kd.int .i64)) W A0 l0.length l0) (hr1 : Kd.C (Kd.slice 3 (Kd.int .i64)) W A1 l1.length l1) :
    Calls Try.prog 125 (#[.agg #[.int .i64 x.1, .int .i64 x.2], .int .i64 j] ++ #[.pointer (some ⟨Ga, 0, none⟩), .pointer (some ⟨Gb, 0, none⟩)]) W fun e W' => e = .returned (.agg #[.int .i64 (nxD l0 x.1 j), .int .i64 (nxD l1 x.2 j)]) ∧ Below W.heap.size W W' := by
  obtain ⟨a0, rfl, hcell0⟩ := cellsRows hr0 (by omega)
  obtain ⟨Aj0, cj0, hu, hrow0⟩ := hcell0 x.1.toNat (by omega)
  obtain ⟨a1, rfl, hcell1⟩ := cellsRows hr1 (by omega)
  obtain ⟨Aj1, cj1, hv, hrow1⟩ := hcell1 x.2.toNat (by omega)
  unfold nxD
  generalize l0.getD x.1.toNat [] = row0 at hj0 hu hrow0 ⊢
  generalize l1.getD x.2.toNat [] = row1 at hj1 hv hrow1 ⊢
  obtain ⟨b0, rfl, hs⟩ := Kd.at_int hrow0 (j : Int) (by omega) (by omega)
  obtain ⟨b1, rfl, ht⟩ := Kd.at_int hrow1 (j : Int) (by omega) (by omega)
  generalize rd row0 j = y0 at hs ⊢
  generalize rd row1 j = y1 at ht ⊢
  rw [Int.toNat_natCast] at hs ht
  have p1 := eq_true hx0
  have q1 := eq_true hx1
  have p2 := eq_true hy0
  have q2 := eq_true hy1
  have p3 : ((0 : Int) ≤ (j : Int)) = True := eq_true (by omega)
  have q3 : ((j : Int) < (row0.length : Int)) = True := eq_true (by omega)
  have q4 : ((j : Int) < (row1.length : Int)) = True := eq_true (by omega)
  have HB := am_ (below_alloc (below_alloc (Below.refl W.heap.size W) (Obj.cells #[Value.int IntKind.i64 x.1, Value.int IntKind.i64 x.2] 72)) (Obj.cells #[Value.int IntKind.i64 0, Value.int IntKind.i64 0] 72))
  have ka := pw_cell_below HB.out ha
  have kb := pw_cell_below HB.out hb
  have ku := pw_cell_below HB.out hu
  have kv := pw_cell_below HB.out hv
  have ks := pw_cell_below HB.out hs
  have kt := pw_cell_below HB.out ht
  clear hx0 hx1 hy0 hy1 hr0 hr1 ha hb hu hv hs ht hcell0 hcell1 hrow0 hrow1 hj0 hj1
  go_enter Try.func125, Try.ntmps125
  go_wp2
  have s0 : World.cell? ((W.alloc (Obj.cells #[Value.int IntKind.i64 x.1, Value.int IntKind.i64 x.2] 72)).alloc (Obj.cells #[Value.int IntKind.i64 0, Value.int IntKind.i64 0] 72)) ⟨W.heap.size, 0, none⟩ = some (.int .i64 x.1) := pw_cell_below (below_alloc (Below.refl _ _) _) (by simp)
  have s1 : World.cell? ((W.alloc (Obj.cells #[Value.int IntKind.i64 x.1, Value.int IntKind.i64 x.2] 72)).alloc (Obj.cells #[Value.int IntKind.i64 0, Value.int IntKind.i64 0] 72)) ⟨W.heap.size, 1, none⟩ = some (.int .i64 x.2) := pw_cell_below (below_alloc (Below.refl _ _) _) (by simp)
  have HBD := am_ (below_drew HB.out)
  refine start_ (n := 20) (S := (fun w' => w'.cell? ⟨Ga, 1, none⟩ = some (.slice (some a0) l0.length c0) ∧ w'.cell? ⟨Gb, 1, none⟩ = some (.slice (some a1) l1.length c1) ∧ w'.cell? ⟨W.heap.size, 0, none⟩ = some (.int .i64 x.1) ∧ w'.cell? ⟨W.heap.size, 1, none⟩ = some (.int .i64 x.2) ∧ w'.cell? (a0.add x.1.toNat) = some (.slice (some b0) row0.length cj0) ∧ w'.cell? (a1.add x.2.toNat) = some (.slice (some b1) row1.length cj1) ∧ w'.cell? (b0.add j) = some (.int .i64 y0) ∧ w'.cell? (b1.add j) = some (.int .i64 y1))) (ds := [19]) (bl 20 0) (by kernel_rfl) rfl rfl (⟨ka, kb, s0, s1, ku, kv, ks, kt⟩) (fun hHeld => ?_); refine with_tabW tabn1 bitsn1 (fun HT_ HW_ => ?_)
  refine ph_ 0 7 (bl 20 1) HT_ ?_
  refine ph_ 2 9 (bl 20 5) HT_ ?_
  refine ph_ 6 13 (bl 20 69) HT_ ?_
  refine ph_ 9 16 (bl 20 581) HT_ ?_
  refine ph_ 11 18 (bl 20 2629) HT_ ?_
  refine ph_ 15 22 (bl 20 35397) HT_ ?_
  refine th_ 1 8 (bl 20 35399) HT_ HW_ hHeld ?_
  refine th_ 3 10 (bl 20 35407) HT_ HW_ hHeld ?_
  refine ph_ 4 11 (bl 20 35423) HT_ ?_
  refine th_ 5 12 (bl 20 35455) HT_ HW_ hHeld ?_
  refine ph_ 7 14 (bl 20 35583) HT_ ?_
  refine th_ 8 15 (bl 20 35839) HT_ HW_ hHeld ?_
  refine th_ 10 17 (bl 20 36863) HT_ HW_ hHeld ?_
  refine th_ 12 19 (bl 20 40959) HT_ HW_ hHeld ?_
  refine ph_ 13 20 (bl 20 49151) HT_ ?_
  refine th_ 14 21 (bl 20 65535) HT_ HW_ hHeld ?_
  refine ph_ 16 23 (bl 20 131071) HT_ ?_
  refine th_ 17 24 (bl 20 262143) HT_ HW_ hHeld ?_
  refine ph_ 18 25 (bl 20 524287) HT_ ?_
  refine last_ (i := 19) (N := none) (bl 20 1048575) rfl rfl (one_of HT_.out (by kernel_rfl)) (by decide) (fun K hK => ?_)
  refine skip_ (w1 := ?_) (by rfl) rfl ?_ ?_
  rotate_left
  · go_simp
    rfl
  refine hK.out _ _ ?_
  clear hK K
  refine done_ (done_of HT_.out (by kernel_rfl)) ?_
  clear HT_ HW_ hHeld ka kb ku kv ks kt s0 s1 HBD
  go_wp2
  refine bodyPost_ret (v := .agg #[.int .i64 y0, .int .i64 y1]) (by simp [results, Try.results125, go_sem]) rfl ⟨rfl, ?_⟩
  exact below_drew (below_alloc (below_alloc (Below.refl _ _) _) _)
def nxP (l1 m1 : List (List Int)) (x : Pr) (j : Nat) : Pr := (nxD l1 x.1 j, nxD m1 x.2 j)
def gdP (good : Bool → Bool → Bool) (l0 m0 : List Bool) (x : Pr) : Bool := good (rdOf false l0 x.1) (rdOf false m0 x.2)
def fpR (good : Bool → Bool → Bool) (l0 : List Bool) (l1 : List (List Int)) (m0 : List Bool) (m1 : List (List Int)) : ByteArray × Bool :=
  if validD l0 l1 = true ∧ validD m0 m1 = true then bfs (gdP good l0 m0) (nxP l1 m1) 1602 ([((0 : Int), (0 : Int))], [(⟨#[]⟩ : ByteArray)]) 0 else (⟨#[]⟩, false)
theorem card_pairs (n m : Nat) (s : List Pr) (hn : s.Nodup) (h : ∀ x ∈ s, (0 ≤ x.1 ∧ x.1 < n) ∧ 0 ≤ x.2 ∧ x.2 < m) : s.length ≤ n * m := by
  have h1 := nodup_le s ((List.range (n * m)).map fun (i : Nat) => (((i / m : Nat) : Int), ((i % m : Nat) : Int))) hn (fun x hx => by
    obtain ⟨⟨a1, a2⟩, b1, b2⟩ := h x hx
    obtain ⟨p, hp⟩ := Int.eq_ofNat_of_zero_le a1
    obtain ⟨q, hq⟩ := Int.eq_ofNat_of_zero_le b1
    have hq2 : q < m := by omega
    have hp2 : p < n := by omega
    refine List.mem_map.mpr ⟨p * m + q, List.mem_range.mpr ?_, ?_⟩
    · calc p * m + q < p * m + m := by omega
        _ = (p + 1) * m := by rw [Nat.succ_mul]
        _ ≤ n * m := Nat.mul_le_mul_right m hp2
    · have e1 : (p * m + q) / m = p := by rw [Nat.mul_comm, Nat.mul_add_div (by omega), Nat.div_eq_of_lt hq2, Nat.add_zero]
      have e2 : (p * m + q) % m = q := by rw [Nat.mul_comm, Nat.mul_add_mod, Nat.mod_eq_of_lt hq2]
      rw [e1, e2]
      exact Prod.ext hp.symm hq.symm)
  simpa using h1
set_option maxHeartbeats 800000 in
set_option maxRecDepth 100000 in
theorem fpCalls (A0 : Option Addr) (c0 : Nat) (l0 : List Bool) (A1 : Option Addr) (c1 : Nat) (l1 : List (List Int)) (B0 : Option Addr) (d0 : Nat) (m0 : List Bool) (B1 : Option Addr) (d1 : Nat) (m1 : List (List Int)) (gg : Nat) (good : Bool → Bool → Bool) (egg : ∀ args w, (callFunc gg args).run Try.prog w = .ok (.enter gg args) w)
    (hgood : ∀ (p q : Bool) (W : World), Calls Try.prog gg #[.bool p, .bool q] W fun e W' => e = .returned (.bool (good p q)) ∧ W = W') (w : World) (hr0 : Kd.C Kd.bool w A0 l0.length l0) (hr1 : Kd.C (Kd.slice 3 (Kd.int .i64)) w A1 l1.length l1) (hs0 : Kd.C Kd.bool w B0 m0.length m0) (hs1 : Kd.C (Kd.slice 3 (Kd.int .i64)) w B1 m1.length m1) :
    Calls Try.prog 89 #[.agg #[.slice A0 l0.length c0, .slice A1 l1.length c1], .agg #[.slice B0 m0.length d0, .slice B1 m1.length d1], .func (.func gg) #[] #[]] w fun e w' => e = .returned (.tuple #[.string (fpR good l0 l1 m0 m1).1, .bool (fpR good l0 l1 m0 m1).2]) ∧ Below w.heap.size w w' := by
  have hu := Try.underlying27
  have HV := am_ (fun W (hb : Below w.heap.size w W) => validCalls A0 c0 l0 A1 c1 l1 W (Kd.C_below hr0 hb) (Kd.C_below hr1 hb))
  have HV2 := am_ (fun W (hb : Below w.heap.size w W) => validCalls B0 d0 m0 B1 d1 m1 W (Kd.C_below hs0 hb) (Kd.C_below hs1 hb))
  have HB0 := am_ (below_alloc (below_alloc (below_alloc (Below.refl w.heap.size w) (Obj.cells #[.slice A0 l0.length c0, .slice A1 l1.length c1] 27)) (Obj.cells #[.slice B0 m0.length d0, .slice B1 m1.length d1] 27)) (Obj.cells #[.func (.func gg) #[] #[]] 101))
  have KA0 : Aside0 (World.cell? (((w.alloc (Obj.cells #[.slice A0 l0.length c0, .slice A1 l1.length c1] 27)).alloc (Obj.cells #[.slice B0 m0.length d0, .slice B1 m1.length d1] 27)).alloc (Obj.cells #[.func (.func gg) #[] #[]] 101)) ⟨w.heap.size, 0, none⟩ = some (.slice A0 l0.length c0)) := ⟨pw_cell_below (below_alloc (below_alloc (Below.refl _ _) _) _) (by simp)⟩
  have KA1 : Aside0 (World.cell? (((w.alloc (Obj.cells #[.slice A0 l0.length c0, .slice A1 l1.length c1] 27)).alloc (Obj.cells #[.slice B0 m0.length d0, .slice B1 m1.length d1] 27)).alloc (Obj.cells #[.func (.func gg) #[] #[]] 101)) ⟨w.heap.size, 1, none⟩ = some (.slice A1 l1.length c1)) := ⟨pw_cell_below (below_alloc (below_alloc (Below.refl _ _) _) _) (by simp)⟩
  have KB0 : Aside0 (World.cell? (((w.alloc (Obj.cells #[.slice A0 l0.length c0, .slice A1 l1.length c1] 27)).alloc (Obj.cells #[.slice B0 m0.length d0, .slice B1 m1.length d1] 27)).alloc (Obj.cells #[.func (.func gg) #[] #[]] 101)) ⟨w.heap.size + 1, 0, none⟩ = some (.slice B0 m0.length d0)) := ⟨pw_cell_below (below_alloc (Below.refl _ _) _) (by simp)⟩
  have KB1 : Aside0 (World.cell? (((w.alloc (Obj.cells #[.slice A0 l0.length c0, .slice A1 l1.length c1] 27)).alloc (Obj.cells #[.slice B0 m0.length d0, .slice B1 m1.length d1] 27)).alloc (Obj.cells #[.func (.func gg) #[] #[]] 101)) ⟨w.heap.size + 1, 1, none⟩ = some (.slice B1 m1.length d1)) := ⟨pw_cell_below (below_alloc (Below.refl _ _) _) (by simp)⟩
  have KG0 : Aside0 (World.cell? (((w.alloc (Obj.cells #[.slice A0 l0.length c0, .slice A1 l1.length c1] 27)).alloc (Obj.cells #[.slice B0 m0.length d0, .slice B1 m1.length d1] 27)).alloc (Obj.cells #[.func (.func gg) #[] #[]] 101)) ⟨w.heap.size + 1 + 1, 0, none⟩ = some (.func (.func gg) #[] #[])) := ⟨by rw [show w.heap.size + 1 + 1 = Array.size (World.heap ((w.alloc (Obj.cells #[.slice A0 l0.length c0, .slice A1 l1.length c1] 27)).alloc (Obj.cells #[.slice B0 m0.length d0, .slice B1 m1.length d1] 27))) from by simp] <;> first | exact (blk_cell (blk_new _ _) 0).trans rfl | skip⟩
  cases hv : validD l0 l1 with
  | false =>
    rw [hv] at HV
    have e : fpR good l0 l1 m0 m1 = (⟨#[]⟩, false) := by unfold fpR; rw [hv]; rfl
    rw [e]
    clear hv e hr0 hr1 hs0 hs1 HV2 hgood egg
    go_enter Try.func89, Try.ntmps89
    go_wp2_with (go_at_call 39; refine (HV.out _ (by exact HB0.out)).mono ?_; rintro e w' ⟨rfl, hb⟩; have HB := am_ hb; clear hb)
    go_ret2
    exact ⟨rfl, below_then HB0.out HB0.out.size HB.out⟩
  | true =>
    rw [hv] at HV
    cases hv2 : validD m0 m1 with
    | false =>
      rw [hv2] at HV2
      have e : fpR good l0 l1 m0 m1 = (⟨#[]⟩, false) := by unfold fpR; rw [if_neg]; rintro ⟨_, h⟩; rw [hv2] at h; cases h
      rw [e]
      clear hv hv2 e hr0 hr1 hs0 hs1 hgood egg
      go_enter Try.func89, Try.ntmps89
      go_wp2_with (first | (go_at_call 39; (with_reducible refine (HV.out _ ?hq0).mono ?_); (case hq0 => exact HB0.out); rintro e w1 ⟨rfl, hb⟩; have ha0 := pw_cell_below hb KB0.out; have ha1 := pw_cell_below hb KB1.out; have HB := am_ (below_then HB0.out HB0.out.size hb); clear hb) | (go_at_call 39; (with_reducible refine (HV2.out _ ?hq1).mono ?_); (case hq1 => exact HB.out); rintro e w2 ⟨rfl, hb⟩; have HB2 := am_ hb; clear hb))
      go_ret2
      exact ⟨rfl, below_then HB.out HB.out.size HB2.out⟩
    | true =>
      rw [hv2] at HV2
      obtain ⟨n1, n2, n3, n4⟩ := validD_facts hv
      obtain ⟨k1, k2, k3, k4⟩ := validD_facts hv2
      have e : fpR good l0 l1 m0 m1 = bfs (gdP good l0 m0) (nxP l1 m1) 1602 ([((0 : Int), (0 : Int))], [(⟨#[]⟩ : ByteArray)]) 0 := by unfold fpR; rw [if_pos ⟨hv, hv2⟩]
      rw [e]
      have hrow : ∀ x : Int, 0 ≤ x ∧ x < l0.length → (l1.getD x.toNat []).length = 3 ∧ ∀ q ∈ l1.getD x.toNat [], 0 ≤ q ∧ q < l0.length := fun x hx => by
        have hlt : x.toNat < l1.length := by omega
        rw [List.getD_eq_getElem?_getD, List.getElem?_eq_getElem hlt]
        exact n4 _ (List.getElem_mem hlt)
      have hrow2 : ∀ x : Int, 0 ≤ x ∧ x < m0.length → (m1.getD x.toNat []).length = 3 ∧ ∀ q ∈ m1.getD x.toNat [], 0 ≤ q ∧ q < m0.length := fun x hx => by
        have hlt : x.toNat < m1.length := by omega
        rw [List.getD_eq_getElem?_getD, List.getElem?_eq_getElem hlt]
        exact k4 _ (List.getElem_mem hlt)
      have HFW := am_ (fun (Ga Gb G : Nat) (W : World) (hb : Below w.heap.size w W) (h0 : W.cell? ⟨Ga, 0, none⟩ = some (.slice A0 l0.length c0)) (h1 : W.cell? ⟨Ga, 1, none⟩ = some (.slice A1 l1.length c1)) (h2 : W.cell? ⟨Gb, 0, none⟩ = some (.slice B0 m0.length d0)) (h3 : W.cell? ⟨Gb, 1, none⟩ = some (.slice B1 m1.length d1)) (h4 : W.cell? ⟨G, 0, none⟩ = some (.func (.func gg) #[] #[])) =>
        firstWord_pair (dom := fun x => (0 ≤ x.1 ∧ x.1 < (l0.length : Int)) ∧ 0 ≤ x.2 ∧ x.2 < (m0.length : Int)) 1600 (by omega) (gdP good l0 m0) (nxP l1 m1) ((0 : Int), (0 : Int)) 124 125 #[.pointer (some ⟨G, 0, none⟩), .pointer (some ⟨Ga, 0, none⟩), .pointer (some ⟨Gb, 0, none⟩)] #[.pointer (some ⟨Ga, 0, none⟩), .pointer (some ⟨Gb, 0, none⟩)] (enters_of Try.func124 (by kernel_rfl) rfl) (enters_of Try.func125 (by kernel_rfl) rfl) W
          ⟨⟨by show (0 : Int) ≤ 0; omega, by show (0 : Int) < _; omega⟩, by show (0 : Int) ≤ 0; omega, by show (0 : Int) < _; omega⟩ (fun x j hx hj => by
            obtain ⟨r1, r2⟩ := hrow x.1 hx.1
            obtain ⟨r3, r4⟩ := hrow2 x.2 hx.2
            refine ⟨?_, ?_⟩
            · show 0 ≤ nxD l1 x.1 j ∧ nxD l1 x.1 j < _
              unfold nxD
              rw [rd_get _ _ (by omega)]
              exact r2 _ (List.getElem_mem _)
            · show 0 ≤ nxD m1 x.2 j ∧ nxD m1 x.2 j < _
              unfold nxD
              rw [rd_get _ _ (by omega)]
              exact r4 _ (List.getElem_mem _)) (fun x hx => by
            obtain ⟨⟨x1, x2⟩, x3, x4⟩ := hx
            exact ⟨by simp [wfI, Lit.wf, IntKind.min, IntKind.max, IntKind.signed, IntKind.bits]; omega, by simp [wfI, Lit.wf, IntKind.min, IntKind.max, IntKind.signed, IntKind.bits]; omega⟩) (fun s hn hs => Nat.le_trans (card_pairs l0.length m0.length s hn hs) (Nat.le_trans (Nat.mul_le_mul n2 k2) (by omega)))
          (fun x hx W' hb' => fpGood A0 c0 l0 B0 d0 m0 G Ga Gb gg good egg hgood x W' hx.1.1 hx.1.2 hx.2.1 hx.2.2 (pw_cell_below hb' h4) (pw_cell_below hb' h0) (pw_cell_below hb' h2) (Kd.C_below (Kd.C_below hr0 hb) hb') (Kd.C_below (Kd.C_below hs0 hb) hb'))
          (fun x j hx hj W' hb' => fpNext A1 c1 l1 B1 d1 m1 Ga Gb x j W' hx.1.1 (by have := hx.1.2; omega) hx.2.1 (by have := hx.2.2; omega) (by rw [(hrow x.1 hx.1).1]; exact hj) (by rw [(hrow2 x.2 hx.2).1]; exact hj) (pw_cell_below hb' h1) (pw_cell_below hb' h3) (Kd.C_below (Kd.C_below hr1 hb) hb') (Kd.C_below (Kd.C_below hs1 hb) hb')))
      clear hv hv2 e hr0 hr1 hs0 hs1 n1 n2 n3 n4 k1 k2 k3 k4 hrow hrow2 hgood egg
      go_enter Try.func89, Try.ntmps89
      go_wp2_with (first | (go_at_call 39; (with_reducible refine (HV.out _ ?hq0).mono ?_); (case hq0 => exact HB0.out); rintro e w1 ⟨rfl, hb⟩; have ha0 := pw_cell_below hb KB0.out; have ha1 := pw_cell_below hb KB1.out; have hz0 := am_ (pw_cell_below hb KA0.out); have hz1 := am_ (pw_cell_below hb KA1.out); have hz2 := am_ (pw_cell_below hb KG0.out); have HB := am_ (below_then HB0.out HB0.out.size hb); clear hb) | (go_at_call 39; (with_reducible refine (HV2.out _ ?hq1).mono ?_); (case hq1 => exact HB.out); rintro e w2 ⟨rfl, hb⟩; have HA0 := am_ (pw_cell_below hb ha0); have HA1 := am_ (pw_cell_below hb ha1); have HZ0 := am_ (pw_cell_below hb hz0.out); have HZ1 := am_ (pw_cell_below hb hz1.out); have HZ2 := am_ (pw_cell_below hb hz2.out); have HB2 := am_ (below_then HB.out HB.out.size hb); clear hb) | (go_at_call 123; refine (HFW.out w.heap.size (w.heap.size + 1) (w.heap.size + 1 + 1) _ HB2.out HZ0.out HZ1.out HA0.out HA1.out HZ2.out).mono ?_; rintro e w3 ⟨rfl, hb⟩; have HB3 := am_ hb; clear hb))
      go_ret2
      exact ⟨rfl, below_then HB2.out HB2.out.size HB3.out⟩
theorem inGood (p q : Bool) (W : World) : Calls Try.prog 115 #[.bool p, .bool q] W fun e W' => e = .returned (.bool (p && !q)) ∧ W = W' := by
  cases p <;> cases q
  all_goals
    go_enter Try.func115, Try.ntmps115
    go_wp2
    go_ret
    exact ⟨rfl, rfl⟩
def inR (l0 : List Bool) (l1 : List (List Int)) (m0 : List Bool) (m1 : List (List Int)) : Bool := (validD l0 l1 && validD m0 m1) && !(fpR (fun p q => p && !q) l0 l1 m0 m1).2
set_option maxHeartbeats 1600000 in
theorem inCalls (A0 : Option Addr) (c0 : Nat) (l0 : List Bool) (A1 : Option Addr) (c1 : Nat) (l1 : List (List Int)) (B0 : Option Addr) (d0 : Nat) (m0 : List Bool) (B1 : Option Addr) (d1 : Nat) (m1 : List (List Int)) (w : World) (hr0 : Kd.C Kd.bool w A0 l0.length l0) (hr1 : Kd.C (Kd.slice 3 (Kd.int .i64)) w A1 l1.length l1) (hs0 : Kd.C Kd.bool w B0 m0.length m0) (hs1 : Kd.C (Kd.slice 3 (Kd.int .i64)) w B1 m1.length m1) :
    Calls Try.prog 51 #[.agg #[.slice A0 l0.length c0, .slice A1 l1.length c1], .agg #[.slice B0 m0.length d0, .slice B1 m1.length d1]] w fun e w' => e = .returned (.bool (inR l0 l1 m0 m1)) ∧ Below w.heap.size w w' := by
  have hu := Try.underlying27
  have HF := am_ (fun W (hb : Below w.heap.size w W) => fpCalls A0 c0 l0 A1 c1 l1 B0 d0 m0 B1 d1 m1 115 (fun p q => p && !q) (enters_of Try.func115 (by kernel_rfl) rfl) inGood W (Kd.C_below hr0 hb) (Kd.C_below hr1 hb) (Kd.C_below hs0 hb) (Kd.C_below hs1 hb))
  have HV := am_ (fun W (hb : Below w.heap.size w W) => validCalls A0 c0 l0 A1 c1 l1 W (Kd.C_below hr0 hb) (Kd.C_below hr1 hb))
  have HV2 := am_ (fun W (hb : Below w.heap.size w W) => validCalls B0 d0 m0 B1 d1 m1 W (Kd.C_below hs0 hb) (Kd.C_below hs1 hb))
  have HB0 := am_ (below_alloc (below_alloc (Below.refl w.heap.size w) (Obj.cells #[.slice A0 l0.length c0, .slice A1 l1.length c1] 27)) (Obj.cells #[.slice B0 m0.length d0, .slice B1 m1.length d1] 27))
  have KA0 : Aside0 (World.cell? ((w.alloc (Obj.cells #[.slice A0 l0.length c0, .slice A1 l1.length c1] 27)).alloc (Obj.cells #[.slice B0 m0.length d0, .slice B1 m1.length d1] 27)) ⟨w.heap.size, 0, none⟩ = some (.slice A0 l0.length c0)) := ⟨pw_cell_below (below_alloc (Below.refl _ _) _) (by simp)⟩
  have KA1 : Aside0 (World.cell? ((w.alloc (Obj.cells #[.slice A0 l0.length c0, .slice A1 l1.length c1] 27)).alloc (Obj.cells #[.slice B0 m0.length d0, .slice B1 m1.length d1] 27)) ⟨w.heap.size, 1, none⟩ = some (.slice A1 l1.length c1)) := ⟨pw_cell_below (below_alloc (Below.refl _ _) _) (by simp)⟩
  have KB0 : Aside0 (World.cell? ((w.alloc (Obj.cells #[.slice A0 l0.length c0, .slice A1 l1.length c1] 27)).alloc (Obj.cells #[.slice B0 m0.length d0, .slice B1 m1.length d1] 27)) ⟨w.heap.size + 1, 0, none⟩ = some (.slice B0 m0.length d0)) := ⟨by simp⟩
  have KB1 : Aside0 (World.cell? ((w.alloc (Obj.cells #[.slice A0 l0.length c0, .slice A1 l1.length c1] 27)).alloc (Obj.cells #[.slice B0 m0.length d0, .slice B1 m1.length d1] 27)) ⟨w.heap.size + 1, 1, none⟩ = some (.slice B1 m1.length d1)) := ⟨by simp⟩
  clear hr0 hr1 hs0 hs1
  unfold inR
  generalize fpR (fun p q => p && !q) l0 l1 m0 m1 = r at HF ⊢
  obtain ⟨r1, r2⟩ := r
  generalize validD l0 l1 = v1 at HV ⊢
  generalize validD m0 m1 = v2 at HV2 ⊢
  cases v1 <;> cases v2 <;> cases r2
  all_goals
    go_enter Try.func51, Try.ntmps51
    go_wp2_with (first | (go_at_call 89; refine (HF.out _ (by exact HB0.out)).mono ?_; rintro e w1 ⟨rfl, hb⟩; have ha0 := pw_cell_below hb KA0.out; have ha1 := pw_cell_below hb KA1.out; have hb0 := pw_cell_below hb KB0.out; have hb1 := pw_cell_below hb KB1.out; have HB := am_ (below_then HB0.out HB0.out.size hb); clear hb) | (go_at_call 39; (with_reducible refine (HV.out _ ?hq0).mono ?_); (case hq0 => exact HB.out); rintro e w2 ⟨rfl, hb⟩; have hc0 := pw_cell_below hb hb0; have hc1 := pw_cell_below hb hb1; have HB2 := am_ (below_then HB.out HB.out.size hb); clear hb) | (go_at_call 39; (with_reducible refine (HV2.out _ ?hq1).mono ?_); (case hq1 => exact HB2.out); rintro e w3 ⟨rfl, hb⟩; have HB3 := am_ (below_then HB2.out HB2.out.size hb); clear hb))
    go_ret
    first | exact ⟨rfl, HB3.out⟩ | exact ⟨rfl, HB2.out⟩
end Go.Proofs.Ytogamkblkoobkaa.Wk
end
section
namespace Go.Proofs.Ytogamkblkoobkaa.Lg
set_option linter.unusedVariables false
set_option linter.unusedSectionVars false
theorem nodup_len {α : Type} [DecidableEq α] : ∀ (s t : List α), s.Nodup → (∀ x ∈ s, x ∈ t) → s.length ≤ t.length
  | [], t, _, _ => Nat.zero_le _
  | a :: s, t, hn, hs => by
    rw [List.nodup_cons] at hn
    have hm := hs a List.mem_cons_self
    have h1 := nodup_len s (t.erase a) hn.2 (fun x hx => by
      have hne : x ≠ a := by rintro rfl; exact hn.1 hx
      exact (List.mem_erase_of_ne hne).mpr (hs x (List.mem_cons_of_mem _ hx)))
    rw [List.length_erase_of_mem hm] at h1
    have := List.length_pos_of_mem hm
    simp only [List.length_cons]
    omega
section
variable {α : Type} [DecidableEq α]
def add (L : List α) (y : α) : List α := if y ∈ L then L else L ++ [y]
def adds (L ys : List α) : List α := ys.foldl add L
inductive Runs (succ : α → List α) : List α → Nat → List α → Prop
  | stop {L : List α} {i : Nat} (h : L.length ≤ i) : Runs succ L i L
  | step {L R : List α} {i : Nat} (h : i < L.length) (hr : Runs succ (adds L (succ L[i])) (i + 1) R) : Runs succ L i R
theorem mem_add {L : List α} {y z : α} : z ∈ add L y ↔ z ∈ L ∨ z = y := by
  unfold add
  split
  · rename_i h
    constructor
    · exact Or.inl
    · rintro (q | rfl)
      · exact q
      · exact h
  · simp
theorem mem_adds {ys : List α} : ∀ {L : List α} {z : α}, z ∈ adds L ys ↔ z ∈ L ∨ z ∈ ys := by
  induction ys with
  | nil => intro L z; simp [adds]
  | cons y ys ih =>
    intro L z
    show z ∈ adds (add L y) ys ↔ _
    rw [ih, mem_add]
    simp only [List.mem_cons]
    constructor
    · rintro ((h | h) | h) <;> simp [h]
    · rintro (h | h | h) <;> simp [h]
theorem adds_nil (L : List α) : adds L [] = L := rfl
theorem adds_cons (L : List α) (y : α) (ys : List α) : adds L (y :: ys) = adds (add L y) ys := rfl
theorem adds_append (L ys zs : List α) : adds L (ys ++ zs) = adds (adds L ys) zs := by simp [adds, List.foldl_append]
theorem add_in {L : List α} {y : α} (h : y ∈ L) : add L y = L := by unfold add; rw [if_pos h]
theorem add_out {L : List α} {y : α} (h : y ∉ L) : add L y = L ++ [y] := by unfold add; rw [if_neg h]
theorem adds_in {ys : List α} : ∀ {L : List α}, (∀ y ∈ ys, y ∈ L) → adds L ys = L := by
  induction ys with
  | nil => intro L _; rfl
  | cons y ys ih =>
    intro L h
    rw [adds_cons, add_in (h y List.mem_cons_self)]
    exact ih fun z hz => h z (List.mem_cons_of_mem _ hz)
theorem add_pre (L : List α) (y : α) : L <+: add L y := by
  unfold add
  split
  · exact List.prefix_refl _
  · exact List.prefix_append _ _
theorem adds_pre (ys : List α) : ∀ L : List α, L <+: adds L ys := by
  induction ys with
  | nil => intro L; exact List.prefix_refl _
  | cons y ys ih => intro L; exact (add_pre L y).trans (ih _)
theorem nodup_add {L : List α} (h : L.Nodup) (y : α) : (add L y).Nodup := by
  unfold add
  split
  · exact h
  · rename_i hn
    rw [List.nodup_append]
    refine ⟨h, by simp, ?_⟩
    rintro a ha b hb rfl
    rw [List.mem_singleton] at hb
    subst hb
    exact hn ha
theorem nodup_adds (ys : List α) : ∀ {L : List α}, L.Nodup → (adds L ys).Nodup := by
  induction ys with
  | nil => intro L h; exact h
  | cons y ys ih => intro L h; exact ih (nodup_add h y)
theorem Runs.det {succ : α → List α} {L R R' : List α} {i : Nat} (h : Runs succ L i R) (h' : Runs succ L i R') : R = R' := by
  induction h with
  | stop h =>
    cases h' with
    | stop _ => rfl
    | step h2 _ => omega
  | step h _ ih =>
    cases h' with
    | stop h2 => omega
    | step _ hr => exact ih hr
theorem Runs.pre {succ : α → List α} {L R : List α} {i : Nat} (h : Runs succ L i R) : L <+: R := by
  induction h with
  | stop h => exact List.prefix_refl _
  | step h _ ih => exact (adds_pre _ _).trans ih
theorem Runs.nodup {succ : α → List α} {L R : List α} {i : Nat} (h : Runs succ L i R) : L.Nodup → R.Nodup := by
  induction h with
  | stop h => exact id
  | step h _ ih => exact fun hn => ih (nodup_adds _ hn)
theorem Runs.all {succ : α → List α} {L R : List α} {i : Nat} (h : Runs succ L i R) {p : α → Prop} (hp : ∀ x, p x → ∀ y ∈ succ x, p y) : (∀ x ∈ L, p x) → ∀ x ∈ R, p x := by
  induction h with
  | stop h => exact id
  | step h _ ih =>
    refine fun ha => ih fun x hx => ?_
    rcases mem_adds.mp hx with q | q
    · exact ha x q
    · exact hp _ (ha _ (List.getElem_mem h)) x q
theorem Runs.closed {succ : α → List α} {L R : List α} {i : Nat} (h : Runs succ L i R) (hc : ∀ j (hj : j < L.length), j < i → ∀ y ∈ succ L[j], y ∈ L) : ∀ x ∈ R, ∀ y ∈ succ x, y ∈ R := by
  induction h with
  | stop h =>
    intro x hx y hy
    obtain ⟨j, hj, rfl⟩ := List.mem_iff_getElem.mp hx
    exact hc j hj (by omega) y hy
  | @step L R i h _ ih =>
    refine ih fun j hj hji y hy => ?_
    have hpre := adds_pre (succ L[i]) L
    by_cases hjl : j < L.length
    · have e : (adds L (succ L[i]))[j] = L[j] := (hpre.getElem hjl).symm
      rw [e] at hy
      by_cases hj2 : j < i
      · exact hpre.subset (hc j hjl hj2 y hy)
      · obtain rfl : j = i := by omega
        exact mem_adds.mpr (Or.inr hy)
    · omega
theorem Runs.ends {succ : α → List α} {dom : α → Prop} {N : Nat} (hd : ∀ x, dom x → ∀ y ∈ succ x, dom y) (hcard : ∀ s : List α, s.Nodup → (∀ x ∈ s, dom x) → s.length ≤ N) : ∀ (d : Nat) (L : List α) (i : Nat), L.Nodup → (∀ x ∈ L, dom x) → i ≤ L.length → N ≤ d + i → ∃ R, Runs succ L i R
  | 0, L, i, hn, ha, hi, hd0 => ⟨L, .stop (by have := hcard L hn ha; omega)⟩
  | d + 1, L, i, hn, ha, hi, hd0 => by
    by_cases h : i < L.length
    · have ha2 : ∀ x ∈ adds L (succ L[i]), dom x := fun x hx => by
        rcases mem_adds.mp hx with q | q
        · exact ha x q
        · exact hd _ (ha _ (List.getElem_mem h)) x q
      obtain ⟨R, hR⟩ := Runs.ends hd hcard d (adds L (succ L[i])) (i + 1) (nodup_adds _ hn) ha2 (by have := (adds_pre (succ L[i]) L).length_le; omega) (by omega)
      exact ⟨R, .step h hR⟩
    · exact ⟨L, .stop (by omega)⟩
end
section
variable {α β : Type} [DecidableEq α] [DecidableEq β]
def dd (l : List β) : List β := adds [] l
theorem dd_snoc (l : List β) (y : β) : dd (l ++ [y]) = add (dd l) y := by unfold dd; rw [adds_append]; rfl
theorem mem_dd {l : List β} {y : β} : y ∈ dd l ↔ y ∈ l := by unfold dd; rw [mem_adds]; simp
theorem dd_append (l m : List β) : dd (l ++ m) = adds (dd l) m := adds_append _ _ _
theorem dd_nodup (l : List β) : (dd l).Nodup := nodup_adds _ (by simp)
theorem dd_id {l : List β} (h : l.Nodup) : dd l = l := by
  suffices H : ∀ (m k : List β), (k ++ m).Nodup → adds k m = k ++ m from H l [] (by simpa using h)
  intro m
  induction m with
  | nil => intro k _; simp [adds_nil]
  | cons y m ih =>
    intro k hk
    have hny : y ∉ k := by
      intro hm
      rw [List.nodup_append] at hk
      exact hk.2.2 y hm y List.mem_cons_self rfl
    rw [adds_cons, add_out hny, ih]
    · simp
    · simpa using hk
theorem dd_adds (f : α → β) (xs : List α) : ∀ L : List α, dd ((adds L xs).map f) = adds (dd (L.map f)) (xs.map f) := by
  induction xs with
  | nil => intro L; rfl
  | cons x xs ih =>
    intro L
    rw [adds_cons, ih, List.map_cons, adds_cons]
    congr 1
    by_cases h : x ∈ L
    · rw [add_in h, add_in (mem_dd.mpr (List.mem_map_of_mem h))]
    · rw [add_out h, List.map_append, List.map_singleton, dd_snoc]
theorem Runs.map {succ : α → List α} {succ' : β → List β} {f : α → β} {dom : α → Prop} (hd : ∀ x, dom x → ∀ y ∈ succ x, dom y) (hf : ∀ x, dom x → (succ x).map f = succ' (f x)) {L R : List α} {i : Nat} (h : Runs succ L i R)
    (hall : ∀ x ∈ L, dom x) (hi : i ≤ L.length) (hc : ∀ j (hj : j < L.length), j < i → ∀ y ∈ succ L[j], y ∈ L) : Runs succ' (dd (L.map f)) (dd ((L.take i).map f)).length (dd (R.map f)) := by
  induction h with
  | @stop L i h =>
    have e : L.take i = L := List.take_of_length_le h
    rw [e]
    exact .stop (Nat.le_refl _)
  | @step L R i h hr ih =>
    have hpre := adds_pre (succ L[i]) L
    have hdi := hall _ (List.getElem_mem h)
    have ha2 : ∀ x ∈ adds L (succ L[i]), dom x := fun x hx => by
      rcases mem_adds.mp hx with q | q
      · exact hall x q
      · exact hd _ hdi x q
    have hc2 : ∀ j (hj : j < (adds L (succ L[i])).length), j < i + 1 → ∀ y ∈ succ (adds L (succ L[i]))[j], y ∈ adds L (succ L[i]) := fun j hj hji y hy => by
      have hjl : j < L.length := by omega
      have e : (adds L (succ L[i]))[j] = L[j] := (hpre.getElem hjl).symm
      rw [e] at hy
      by_cases hj2 : j < i
      · exact hpre.subset (hc j hjl hj2 y hy)
      · obtain rfl : j = i := by omega
        exact mem_adds.mpr (Or.inr hy)
    have IH := ih ha2 (by have := hpre.length_le; omega) hc2
    rw [dd_adds, hf _ hdi] at IH
    have et : (adds L (succ L[i])).take (i + 1) = L.take i ++ [L[i]] := by
      obtain ⟨t, ht⟩ := hpre
      have h2 : (adds L (succ L[i])).take (i + 1) = L.take (i + 1) := by rw [← ht, List.take_append_of_le_length (by omega)]
      rw [h2, List.take_succ_eq_append_getElem h]
    rw [et, List.map_append, List.map_singleton, dd_snoc] at IH
    have hpm : dd ((L.take i).map f ++ [f L[i]]) <+: dd (L.map f) := by
      have e2 : L.map f = ((L.take i).map f ++ [f L[i]]) ++ (L.drop (i + 1)).map f := by
        rw [← List.map_singleton, ← List.map_append, ← List.map_append, ← List.take_succ_eq_append_getElem h, List.take_append_drop]
      have h3 := adds_pre ((L.drop (i + 1)).map f) (dd ((L.take i).map f ++ [f L[i]]))
      rw [← dd_append, ← e2] at h3
      exact h3
    rw [dd_snoc] at hpm
    by_cases hm : f L[i] ∈ dd ((L.take i).map f)
    · rw [add_in hm] at IH
      obtain ⟨x, hx, hxe⟩ := List.mem_map.mp (mem_dd.mp hm)
      obtain ⟨j, hj, rfl⟩ := List.mem_iff_getElem.mp hx
      have hj' : j < i := by simp only [List.length_take] at hj; omega
      have hjl : j < L.length := by omega
      have eL : (L.take i)[j] = L[j] := List.getElem_take
      have : adds (dd (L.map f)) (succ' (f L[i])) = dd (L.map f) := by
        refine adds_in fun y hy => ?_
        rw [← hxe, eL, ← hf _ (hall _ (List.getElem_mem hjl))] at hy
        obtain ⟨z, hz, rfl⟩ := List.mem_map.mp hy
        exact mem_dd.mpr (List.mem_map_of_mem (hc j hjl hj' z hz))
      rw [this] at IH
      exact IH
    · rw [add_out hm] at IH hpm
      have hlt : (dd ((L.take i).map f)).length < (dd (L.map f)).length := by
        have := hpm.length_le
        simp only [List.length_append, List.length_singleton] at this
        omega
      have eg : (dd (L.map f))[(dd ((L.take i).map f)).length] = f L[i] := by
        rw [← hpm.getElem (by simp)]
        simp
      refine .step hlt ?_
      rw [eg]
      rw [List.length_append, List.length_singleton] at IH
      exact IH
theorem Runs.map0 {succ : α → List α} {succ' : β → List β} {f : α → β} {dom : α → Prop} (hd : ∀ x, dom x → ∀ y ∈ succ x, dom y) (hf : ∀ x, dom x → (succ x).map f = succ' (f x)) {x0 : α} {R : List α} (h : Runs succ [x0] 0 R) (h0 : dom x0) : Runs succ' [f x0] 0 (dd (R.map f)) := by
  have := h.map hd hf (fun x hx => by rw [List.mem_singleton] at hx; subst hx; exact h0) (Nat.zero_le _) (fun j _ hj => by omega)
  simpa [dd, adds, add] using this
end
end Go.Proofs.Ytogamkblkoobkaa.Lg
end
section
namespace Go.Proofs.Ytogamkblkoobkaa.Mn
open Go.RowKit Go.Proofs.Ytogamkblkoobkaa Go.Proofs.Ytogamkblkoobkaa.Lg Go.Proofs.Ytogamkblkoobkaa.Pl Go.Proofs.Ytogamkblkoobkaa.Mp Go.Proofs.Ytogamkblkoobkaa.Bf Go.Proofs.YtogamkblkoobkaaW.PrintWords Go.Proofs.YtogamkblkoobkaaW.PrintLast Go.Proofs.YtogamkblkoobkaaW.PrintMore
set_option linter.unusedVariables false
set_option linter.unusedSimpArgs false
set_option linter.unusedSectionVars false
theorem set_mid {α : Type} (A : List α) (z y : α) (B : List α) : (A ++ z :: B).set A.length y = A ++ [y] ++ B := by
  induction A with
  | nil => rfl
  | cons a A ih => simp
def rowOf (l1 : List (List Int)) (q : Int) : List Int := l1.getD q.toNat []
def ordF (l1 : List (List Int)) : Nat → List Int → Nat → List Int
  | 0, os, _ => os
  | d + 1, os, i => if h : i < os.length then ordF l1 d (adds os (rowOf l1 os[i])) (i + 1) else os
def cls0 (l0 : List Bool) (q : Int) : Int := if rdOf false l0 q = true then 1 else 0
def pl (os : List Int) (x : Int) : Int := (idx os x).getD 0
abbrev K4 := Int × Int × Int × Int
def keyAt (l1 : List (List Int)) (os cl : List Int) (i : Nat) : K4 :=
  (cl.getD i 0, rd cl (pl os (rd (rowOf l1 (os.getD i 0)) 0)), rd cl (pl os (rd (rowOf l1 (os.getD i 0)) 1)), rd cl (pl os (rd (rowOf l1 (os.getD i 0)) 2)))
def keys (l1 : List (List Int)) (os cl : List Int) : List K4 := (List.range os.length).map (keyAt l1 os cl)
def nmF {α : Type} [DecidableEq α] : List α → List α → List Int → List α × List Int
  | [], ks, out => (ks, out)
  | k :: r, ks, out => nmF r (add ks k) (out ++ [((add ks k).idxOf k : Int)])
def refF (l1 : List (List Int)) (os : List Int) : Nat → List Int → Nat → List Int
  | 0, cl, _ => cl
  | d + 1, cl, c => if (nmF (keys l1 os cl) [] []).1.length = c then (nmF (keys l1 os cl) [] []).2 else refF l1 os d (nmF (keys l1 os cl) [] []).2 (nmF (keys l1 os cl) [] []).1.length
def ldF : List Int → Nat → List Int → List Int → List Int × List Int
  | [], _, ns, ls => (ns, ls)
  | c :: r, i, ns, ls => if c ∈ ns then ldF r (i + 1) ns ls else ldF r (i + 1) (ns ++ [c]) (ls ++ [(i : Int)])
def outRow (l1 : List (List Int)) (os cl ns : List Int) (i : Int) : List Int := (rowOf l1 (rd os i)).map fun x => (idx ns (rd cl (pl os x))).getD 0
def outD (l0 : List Bool) (l1 : List (List Int)) (os cl : List Int) : List Bool × List (List Int) :=
  ((ldF cl 0 [] []).2.map (fun i => rdOf false l0 (rd os i)), (ldF cl 0 [] []).2.map (outRow l1 os cl (ldF cl 0 [] []).1))
def minT (l0 : List Bool) (l1 : List (List Int)) (os : List Int) : List Bool × List (List Int) := outD l0 l1 os (refF l1 os (os.length + 2) (os.map (cls0 l0)) 0)
def minD (l0 : List Bool) (l1 : List (List Int)) (st : Int) : List Bool × List (List Int) := minT l0 l1 (ordF l1 (l0.length + 2) [st] 0)
theorem idx_val {α : Type} [DecidableEq α] {s : List α} {x : α} (h : x ∈ s) : ((s.idxOf x : Nat) : Int) = (idx s x).getD 0 := by
  unfold idx
  rw [if_pos h]
  rfl
section
variable {α β : Type} [DecidableEq α] [DecidableEq β]
theorem idxOf_pre {L R : List α} (h : L <+: R) {x : α} (hx : x ∈ L) : R.idxOf x = L.idxOf x := by
  obtain ⟨t, rfl⟩ := h
  rw [List.idxOf_append, if_pos hx]
theorem dd_map_le (f : α → β) (l : List α) : (dd (l.map f)).length ≤ (dd l).length := by
  have := nodup_len (dd (l.map f)) ((dd l).map f) (dd_nodup _) (fun x hx => by
    obtain ⟨y, hy, rfl⟩ := List.mem_map.mp (mem_dd.mp hx)
    exact List.mem_map_of_mem (mem_dd.mpr hy))
  simpa using this
theorem dd_len_le (l : List α) : (dd l).length ≤ l.length := nodup_len _ _ (dd_nodup l) (fun x hx => mem_dd.mp hx)
end
theorem nmF_eq {α : Type} [DecidableEq α] : ∀ (K ks : List α) (out : List Int), nmF K ks out = (adds ks K, out ++ K.map (fun k => ((adds ks K).idxOf k : Int)))
  | [], ks, out => by simp [nmF, adds_nil]
  | k :: r, ks, out => by
    rw [nmF, nmF_eq r, adds_cons, List.map_cons]
    have hp := adds_pre r (add ks k)
    rw [idxOf_pre hp (mem_add.mpr (Or.inr rfl))]
    simp
theorem nm_eq {α : Type} [DecidableEq α] (K : List α) : nmF K [] [] = (dd K, K.map (fun k => ((dd K).idxOf k : Int))) := by rw [nmF_eq]; simp [dd]
theorem keys_more {l1 : List (List Int)} {os cl : List Int} (h : cl.length = os.length) : (dd cl).length ≤ (dd (keys l1 os cl)).length := by
  have e : (keys l1 os cl).map (fun k => k.1) = cl := by
    apply List.ext_getElem
    · simp [keys, h]
    · intro i h1 h2
      simp [keys, keyAt, List.getD_eq_getElem?_getD, List.getElem?_eq_getElem h2]
  have := dd_map_le (fun k : K4 => k.1) (keys l1 os cl)
  rw [e] at this
  exact this
theorem nm_classes {α : Type} [DecidableEq α] [Inhabited α] (K : List α) : (dd (nmF K [] []).2).length = (dd K).length := by
  rw [nm_eq]
  dsimp only
  refine Nat.le_antisymm (dd_map_le _ K) ?_
  have e : (K.map (fun k => ((dd K).idxOf k : Int))).map (fun z : Int => (dd K)[z.toNat]?) = K.map some := by
    rw [List.map_map]
    apply List.map_congr_left
    intro k hk
    have hm : k ∈ dd K := mem_dd.mpr hk
    have hl := List.idxOf_lt_length_of_mem hm
    simp only [Function.comp, Int.toNat_natCast]
    rw [List.getElem?_eq_getElem hl, List.getElem_idxOf]
  have h1 := dd_map_le (fun z : Int => (dd K)[z.toNat]?) (K.map (fun k => ((dd K).idxOf k : Int)))
  rw [e] at h1
  have h2 : (dd K).length ≤ (dd (K.map some)).length := by
    have := dd_map_le (fun o : Option α => o.getD default) (K.map some)
    rw [List.map_map, show ((fun o : Option α => o.getD default) ∘ some) = id from rfl, List.map_id] at this
    exact this
  omega
end Go.Proofs.Ytogamkblkoobkaa.Mn
end
section
namespace Go.Proofs.Ytogamkblkoobkaa.Wk
open Go.RowKit Go.Shelf Go.Proofs.Ytogamkblkoobkaa.P Go.Proofs.Ytogamkblkoobkaa.Lg Go.Proofs.Ytogamkblkoobkaa.Pl Go.Proofs.Ytogamkblkoobkaa.Mp Go.Proofs.Ytogamkblkoobkaa.Bf Go.Proofs.Ytogamkblkoobkaa.Mn Go.Proofs.YtogamkblkoobkaaW.PrintWords Go.Proofs.YtogamkblkoobkaaW.PrintLast Go.Proofs.YtogamkblkoobkaaW.PrintMore
set_option linter.unusedVariables false
set_option linter.unusedSimpArgs false
theorem gb_refl (w : World) (row : Option Nat) : w.grownBy w row := ⟨rfl, rfl, rfl, Nat.le_refl _, fun _ _ _ => rfl⟩
theorem gb_set {a w : World} {b : Nat} (h : a.grownBy w (some b)) (i : Nat) (v : Value) : a.grownBy (w.setCell ⟨b, i, none⟩ v) (some b) :=
  ⟨h.os, h.tape, h.output, by simpa [World.setCell] using h.size, fun k hk hne => (Below.heap_setCell w ⟨b, i, none⟩ v k (fun e => hne (congrArg some e))).trans (h.block k hk hne)⟩
end Go.Proofs.Ytogamkblkoobkaa.Wk
end
section
namespace Go.Proofs.Ytogamkblkoobkaa.Bf
open Go.RowKit Go.Proofs.Ytogamkblkoobkaa.Pl Go.Proofs.Ytogamkblkoobkaa.Mp Go.Proofs.YtogamkblkoobkaaW.PrintWords Go.Proofs.YtogamkblkoobkaaW.PrintLast Go.Proofs.YtogamkblkoobkaaW.PrintMore
set_option linter.unusedVariables false
set_option linter.unusedSimpArgs false
set_option linter.unusedSectionVars false
section
variable {α : Type} [DecidableEq α]
def exRow (nx : α → Nat → α) (most : Nat) (x : α) : Nat → Nat → List α → List Int → Option (List α × List Int)
  | 0, _, L, row => some (L, row)
  | d + 1, j, L, row => if nx x j ∈ L then exRow nx most x d (j + 1) L (row ++ [(idx L (nx x j)).getD 0]) else if most < L.length + 1 then none else exRow nx most x d (j + 1) (L ++ [nx x j]) (row ++ [(L.length : Int)])
abbrev Ex (α : Type) := List α × List Bool × List (List Int)
def expl (acc : α → Bool) (nx : α → Nat → α) (most : Nat) : Nat → Ex α → Nat → Option (Ex α)
  | 0, p, _ => some p
  | d + 1, p, i => if h : i < p.1.length then (exRow nx most p.1[i] 3 0 p.1 []).bind (fun q => expl acc nx most d (q.1, p.2.1 ++ [acc p.1[i]], p.2.2 ++ [q.2]) (i + 1)) else some p
end
end Go.Proofs.Ytogamkblkoobkaa.Bf
end
section
namespace Go.Proofs.Ytogamkblkoobkaa.Wk
open Go.RowKit Go.Shelf Go.Proofs.Ytogamkblkoobkaa.P Go.Proofs.Ytogamkblkoobkaa.Pl Go.Proofs.Ytogamkblkoobkaa.Mp Go.Proofs.Ytogamkblkoobkaa.Bf Go.Proofs.Ytogamkblkoobkaa.Mn Go.Proofs.YtogamkblkoobkaaW.PrintWords Go.Proofs.YtogamkblkoobkaaW.PrintLast Go.Proofs.YtogamkblkoobkaaW.PrintMore
set_option linter.unusedVariables false
set_option linter.unusedSimpArgs false
section
variable {w w' w2 : World} {ok : Nat → Prop} {vl : Value} {gm g8 g13 : Nat} {L Lm : List Pr} {A : List Bool} {M : List (List Int)} {u0 u1 b0 b1 : Value}
theorem own_at {W : World} {v v1 : Value} {N : Nat} (hat : v1.ownBlock = v.ownBlock ∨ ∃ b, v1.ownBlock = some b ∧ W.heap.size ≤ b) (ho : ∀ k, v.ownBlock = some k → N ≤ k) (hs : N ≤ W.heap.size) : ∀ k, v1.ownBlock = some k → N ≤ k := fun k hk => by
  rcases hat with h | ⟨b, hb, hle⟩
  · exact ho k (h ▸ hk)
  · rw [hb] at hk
    injection hk with hk
    omega
end
end Go.Proofs.Ytogamkblkoobkaa.Wk
end
section
namespace Go.Proofs.Ytogamkblkoobkaa.Can
open Go.RowKit Go.Proofs.Ytogamkblkoobkaa Go.Proofs.Ytogamkblkoobkaa.Lg Go.Proofs.Ytogamkblkoobkaa.Pl Go.Proofs.Ytogamkblkoobkaa.Mp Go.Proofs.Ytogamkblkoobkaa.Bf Go.Proofs.Ytogamkblkoobkaa.Mn Go.Proofs.YtogamkblkoobkaaW.PrintWords Go.Proofs.YtogamkblkoobkaaW.PrintLast Go.Proofs.YtogamkblkoobkaaW.PrintMore
set_option linter.unusedVariables false
set_option linter.unusedSimpArgs false
set_option linter.unusedSectionVars false
def Lan := List (Fin 3) → Bool
noncomputable instance decLan : DecidableEq Lan := fun _ _ => Classical.propDecidable _
instance : Inhabited Lan := ⟨fun _ => false⟩
def der (L : Lan) (k : Fin 3) : Lan := fun w => L (k :: w)
def lsucc (L : Lan) : List Lan := [der L 0, der L 1, der L 2]
def eps (L : Lan) : Bool := L []
noncomputable def outL (R : List Lan) : List Bool × List (List Int) := (R.map eps, R.map (fun X => (lsucc X).map (fun Y => (R.idxOf Y : Int))))
def IsCan (L : Lan) (out : List Bool × List (List Int)) : Prop := ∃ R, Runs lsucc [L] 0 R ∧ out = outL R
theorem IsCan.det {L : Lan} {a b : List Bool × List (List Int)} (h : IsCan L a) (h' : IsCan L b) : a = b := by
  obtain ⟨R, hR, rfl⟩ := h
  obtain ⟨R', hR', rfl⟩ := h'
  rw [hR.det hR']
structure Fits (acc : List Bool) (nx : List (List Int)) : Prop where
  len : nx.length = acc.length
  row : ∀ q : Int, 0 ≤ q ∧ q < (acc.length : Int) → (rowOf nx q).length = 3 ∧ ∀ x ∈ rowOf nx q, 0 ≤ x ∧ x < (acc.length : Int)
def run (acc : List Bool) (nx : List (List Int)) : List (Fin 3) → Int → Bool
  | [], q => rdOf false acc q
  | k :: w, q => run acc nx w (rd (rowOf nx q) (k.val : Int))
def lang (acc : List Bool) (nx : List (List Int)) (q : Int) : Lan := fun w => run acc nx w q
theorem three {r : List Int} (h : r.length = 3) : r = [rd r 0, rd r 1, rd r 2] := by
  match r, h with
  | [a, b, c], _ => rfl
theorem succ_lang {acc : List Bool} {nx : List (List Int)} (hf : Fits acc nx) {q : Int} (hq : 0 ≤ q ∧ q < (acc.length : Int)) : (rowOf nx q).map (lang acc nx) = lsucc (lang acc nx q) := by
  rw [three (hf.row q hq).1]
  rfl
section
variable {α β : Type} [DecidableEq α] [DecidableEq β]
theorem dd_map2 (f : α → β) (l : List α) : dd (l.map f) = dd ((dd l).map f) := (dd_adds f l []).symm
theorem dd_inj (g : α → β) (A : List α) (hg : ∀ a ∈ A, ∀ b ∈ A, g a = g b → a = b) : dd (A.map g) = (dd A).map g := by
  rw [dd_map2]
  refine dd_id ?_
  rw [List.nodup_iff_pairwise_ne, List.pairwise_map]
  refine (List.nodup_iff_pairwise_ne.mp (dd_nodup A)).imp_of_mem ?_
  intro a b ha hb hne h
  exact hne (hg a (mem_dd.mp ha) b (mem_dd.mp hb) h)
theorem idxOf_inj (g : α → β) : ∀ (R : List α) (a : α), (∀ b ∈ R, g b = g a → b = a) → (R.map g).idxOf (g a) = R.idxOf a
  | [], a, _ => rfl
  | b :: R, a, h => by
    rw [List.map_cons, List.idxOf_cons, List.idxOf_cons]
    rw [idxOf_inj g R a (fun c hc => h c (List.mem_cons_of_mem _ hc))]
    by_cases e : b = a
    · subst e
      rw [beq_self_eq_true, beq_self_eq_true]
    · have e2 : g b ≠ g a := fun h2 => e (h b List.mem_cons_self h2)
      rw [beq_eq_false_iff_ne.mpr e, beq_eq_false_iff_ne.mpr e2]
theorem nodup_of_dd : ∀ (l : List α), (dd l).length = l.length → l.Nodup := by
  intro l
  suffices H : ∀ (m k : List α), (adds k m).length = k.length + m.length → m.Nodup ∧ ∀ x ∈ m, x ∉ k by
    intro h
    exact (H l [] (by simpa [dd] using h)).1
  intro m
  induction m with
  | nil => intro k _; simp
  | cons y m ih =>
    intro k hk
    rw [adds_cons] at hk
    have hle : ∀ (m k : List α), (adds k m).length ≤ k.length + m.length := by
      intro m
      induction m with
      | nil => intro k; simp [adds_nil]
      | cons z m ih2 =>
        intro k
        rw [adds_cons]
        have := ih2 (add k z)
        have h2 : (add k z).length ≤ k.length + 1 := by unfold add; split <;> simp
        simp only [List.length_cons]
        omega
    by_cases hy : y ∈ k
    · rw [add_in hy] at hk
      have := hle m k
      simp only [List.length_cons] at hk
      omega
    · rw [add_out hy] at hk
      obtain ⟨h1, h2⟩ := ih (k ++ [y]) (by rw [hk]; simp; omega)
      refine ⟨List.nodup_cons.mpr ⟨fun hm => h2 y hm (by simp), h1⟩, fun x hx => ?_⟩
      rcases List.mem_cons.mp hx with rfl | hx
      · exact hy
      · exact fun hk => h2 x hx (by simp [hk])
theorem inj_of_len (f : α → β) (K : List α) (h : (dd (K.map f)).length = (dd K).length) : ∀ a ∈ K, ∀ b ∈ K, f a = f b → a = b := by
  rw [dd_map2] at h
  have h2 := nodup_of_dd ((dd K).map f) (by rw [h, List.length_map])
  intro a ha b hb hab
  obtain ⟨i, hi, rfl⟩ := List.mem_iff_getElem.mp (mem_dd.mpr ha)
  obtain ⟨j, hj, rfl⟩ := List.mem_iff_getElem.mp (mem_dd.mpr hb)
  have e1 := h2.idxOf_getElem i (by simpa using hi)
  have e2 := h2.idxOf_getElem j (by simpa using hj)
  rw [List.getElem_map] at e1 e2
  rw [hab, e2] at e1
  subst e1
  rfl
end
def Cf (os cl : List Int) (x : Int) : Int := rd cl (pl os x)
theorem pl_at {os : List Int} (hn : os.Nodup) (i : Nat) (hi : i < os.length) : pl os os[i] = (i : Int) := by
  have hm : os[i] ∈ os := List.getElem_mem hi
  show (idx os os[i]).getD 0 = _
  rw [← idx_val hm, hn.idxOf_getElem]
theorem Cf_at {os cl : List Int} (hn : os.Nodup) (hl : cl.length = os.length) (i : Nat) (hi : i < os.length) : Cf os cl os[i] = cl[i] := by
  unfold Cf
  rw [pl_at hn i hi, rd_get cl i (by omega)]
theorem cl_map {os cl : List Int} (hn : os.Nodup) (hl : cl.length = os.length) : os.map (Cf os cl) = cl := by
  apply List.ext_getElem
  · simp [hl]
  · intro i h1 h2
    rw [List.getElem_map, Cf_at hn hl]
def Kx (l1 : List (List Int)) (os cl : List Int) (x : Int) : K4 := (Cf os cl x, Cf os cl (rd (rowOf l1 x) 0), Cf os cl (rd (rowOf l1 x) 1), Cf os cl (rd (rowOf l1 x) 2))
theorem keys_map {l1 : List (List Int)} {os cl : List Int} (hn : os.Nodup) (hl : cl.length = os.length) : keys l1 os cl = os.map (Kx l1 os cl) := by
  apply List.ext_getElem
  · simp [keys]
  · intro i h1 h2
    have hi : i < os.length := by simpa [keys] using h1
    simp only [keys, List.getElem_map, List.getElem_range, keyAt, Kx]
    rw [Cf_at hn hl i hi]
    simp only [List.getD_eq_getElem?_getD, List.getElem?_eq_getElem hi, List.getElem?_eq_getElem (show i < cl.length by omega), Option.getD_some]
    rfl
def nmOf {α : Type} [DecidableEq α] (D : List α) (k : α) : Int := (D.idxOf k : Int)
theorem nm_snd {α : Type} [DecidableEq α] (K : List α) : (nmF K [] []).2 = K.map (nmOf (dd K)) := by rw [nm_eq]; rfl
theorem nm_fst {α : Type} [DecidableEq α] (K : List α) : (nmF K [] []).1 = dd K := by rw [nm_eq]
theorem idxOf_eq_iff {α : Type} [DecidableEq α] {l : List α} {a b : α} (ha : a ∈ l) (hb : b ∈ l) : l.idxOf a = l.idxOf b ↔ a = b := by
  constructor
  · intro h
    have h1 := List.getElem_idxOf (List.idxOf_lt_length_of_mem ha)
    have h2 := List.getElem_idxOf (List.idxOf_lt_length_of_mem hb)
    rw [← h1, ← h2]
    congr 1
  · rintro rfl; rfl
theorem nmOf_iff {α : Type} [DecidableEq α] {l : List α} {a b : α} (ha : a ∈ l) (hb : b ∈ l) : nmOf l a = nmOf l b ↔ a = b := by
  rw [← idxOf_eq_iff ha hb]
  unfold nmOf
  omega
theorem Cf_next {l1 : List (List Int)} {os cl : List Int} (hn : os.Nodup) (hl : cl.length = os.length) {x : Int} (hx : x ∈ os) : Cf os (nmF (keys l1 os cl) [] []).2 x = nmOf (dd (os.map (Kx l1 os cl))) (Kx l1 os cl x) := by
  obtain ⟨i, hi, rfl⟩ := List.mem_iff_getElem.mp hx
  rw [Cf_at hn (by rw [nm_snd]; simp [keys]) i hi]
  simp only [nm_snd, keys_map hn hl, List.getElem_map]
theorem next_iff {l1 : List (List Int)} {os cl : List Int} (hn : os.Nodup) (hl : cl.length = os.length) {x y : Int} (hx : x ∈ os) (hy : y ∈ os) :
    Cf os (nmF (keys l1 os cl) [] []).2 x = Cf os (nmF (keys l1 os cl) [] []).2 y ↔ Kx l1 os cl x = Kx l1 os cl y := by
  rw [Cf_next hn hl hx, Cf_next hn hl hy]
  exact nmOf_iff (mem_dd.mpr (List.mem_map_of_mem hx)) (mem_dd.mpr (List.mem_map_of_mem hy))
theorem ref_good {acc : List Bool} {l1 : List (List Int)} {os : List Int} (hf : Fits acc l1) (hn : os.Nodup) (hpos : 1 ≤ os.length) (hdom : ∀ x ∈ os, 0 ≤ x ∧ x < (acc.length : Int)) (hcl : ∀ x ∈ os, ∀ y ∈ rowOf l1 x, y ∈ os) :
    ∀ (d : Nat) (cl : List Int) (c : Nat), cl.length = os.length → (∀ x ∈ os, ∀ y ∈ os, lang acc l1 x = lang acc l1 y → Cf os cl x = Cf os cl y) → (∀ x ∈ os, ∀ y ∈ os, Cf os cl x = Cf os cl y → rdOf false acc x = rdOf false acc y) →
      (c = 0 ∨ c = (dd cl).length) → os.length + 2 ≤ d + c → ∀ cf, refF l1 os d cl c = cf → cf.length = os.length ∧ ∀ x ∈ os, ∀ y ∈ os, (Cf os cf x = Cf os cf y ↔ lang acc l1 x = lang acc l1 y) := by
  intro d
  induction d with
  | zero =>
    intro cl c hl h1 h2 hc hd cf
    have := dd_len_le cl
    omega
  | succ d ih =>
    intro cl c hl h1 h2 hc hd cf hcf
    have mem3 : ∀ x ∈ os, rd (rowOf l1 x) 0 ∈ os ∧ rd (rowOf l1 x) 1 ∈ os ∧ rd (rowOf l1 x) 2 ∈ os := fun x hx => by
      have h3 := three (hf.row x (hdom x hx)).1
      have := hcl x hx
      rw [h3] at this
      exact ⟨this _ (by simp), this _ (by simp), this _ (by simp)⟩
    have g1 : ∀ x ∈ os, ∀ y ∈ os, lang acc l1 x = lang acc l1 y → Cf os (nmF (keys l1 os cl) [] []).2 x = Cf os (nmF (keys l1 os cl) [] []).2 y := fun x hx y hy h => by
      rw [next_iff hn hl hx hy]
      unfold Kx
      rw [h1 x hx y hy h, h1 _ (mem3 x hx).1 _ (mem3 y hy).1 (congrArg (fun L => der L 0) h), h1 _ (mem3 x hx).2.1 _ (mem3 y hy).2.1 (congrArg (fun L => der L 1) h), h1 _ (mem3 x hx).2.2 _ (mem3 y hy).2.2 (congrArg (fun L => der L 2) h)]
    have g2 : ∀ x ∈ os, ∀ y ∈ os, Cf os (nmF (keys l1 os cl) [] []).2 x = Cf os (nmF (keys l1 os cl) [] []).2 y → rdOf false acc x = rdOf false acc y := fun x hx y hy h => by
      rw [next_iff hn hl hx hy] at h
      exact h2 x hx y hy (congrArg (fun k : K4 => k.1) h)
    have gl : (nmF (keys l1 os cl) [] []).2.length = os.length := by rw [nm_snd]; simp [keys]
    have hK1 : (nmF (keys l1 os cl) [] []).1.length = (dd (os.map (Kx l1 os cl))).length := by rw [nm_fst, keys_map hn hl]
    rw [refF] at hcf
    by_cases he : (nmF (keys l1 os cl) [] []).1.length = c
    · rw [if_pos he] at hcf
      subst hcf
      refine ⟨gl, fun x hx y hy => ⟨fun h => ?_, g1 x hx y hy⟩⟩
      have hpos2 : 0 < (dd (os.map (Kx l1 os cl))).length := by
        have : os ≠ [] := fun e => by rw [e] at hpos; simp at hpos
        obtain ⟨a, ha⟩ := List.exists_mem_of_ne_nil os this
        exact List.length_pos_of_mem (mem_dd.mpr (List.mem_map_of_mem ha))
      have hcd : c = (dd cl).length := by
        rcases hc with hc | hc
        · omega
        · exact hc
      have hfst : (os.map (Kx l1 os cl)).map (fun k : K4 => k.1) = cl := by
        rw [List.map_map]
        exact cl_map hn hl
      have hinj := inj_of_len (fun k : K4 => k.1) (os.map (Kx l1 os cl)) (by rw [hfst]; omega)
      have hst : ∀ x ∈ os, ∀ y ∈ os, Cf os cl x = Cf os cl y → Kx l1 os cl x = Kx l1 os cl y := fun x hx y hy h => hinj _ (List.mem_map_of_mem hx) _ (List.mem_map_of_mem hy) h
      have hrun : ∀ w : List (Fin 3), ∀ x ∈ os, ∀ y ∈ os, Cf os cl x = Cf os cl y → run acc l1 w x = run acc l1 w y := by
        intro w
        induction w with
        | nil => exact h2
        | cons k w ihw =>
          intro x hx y hy hxy
          have hk := hst x hx y hy hxy
          unfold Kx at hk
          injection hk with _ hk
          injection hk with hk0 hk
          injection hk with hk1 hk2
          match k with
          | 0 => exact ihw _ (mem3 x hx).1 _ (mem3 y hy).1 hk0
          | 1 => exact ihw _ (mem3 x hx).2.1 _ (mem3 y hy).2.1 hk1
          | 2 => exact ihw _ (mem3 x hx).2.2 _ (mem3 y hy).2.2 hk2
      rw [next_iff hn hl hx hy] at h
      have h0 : Cf os cl x = Cf os cl y := congrArg (fun k : K4 => k.1) h
      exact funext fun w => hrun w x hx y hy h0
    · rw [if_neg he] at hcf
      have hmore := keys_more (l1 := l1) hl
      rw [keys_map hn hl] at hmore
      have hlen2 : (nmF (keys l1 os cl) [] []).1.length = (dd (nmF (keys l1 os cl) [] []).2).length := by rw [nm_classes, nm_fst]
      refine ih _ _ gl g1 g2 (Or.inr hlen2) ?_ cf hcf
      rcases hc with hc | hc
      · have hpos2 : 0 < (dd (os.map (Kx l1 os cl))).length := by
          have : os ≠ [] := fun e => by rw [e] at hpos; simp at hpos
          obtain ⟨a, ha⟩ := List.exists_mem_of_ne_nil os this
          exact List.length_pos_of_mem (mem_dd.mpr (List.mem_map_of_mem ha))
        omega
      · omega
theorem card_n (n : Nat) (s : List Int) (hn : s.Nodup) (h : ∀ x ∈ s, 0 ≤ x ∧ x < n) : s.length ≤ n := by
  have := nodup_len s ((List.range n).map fun (i : Nat) => (i : Int)) hn (fun x hx => by
    have := h x hx
    exact List.mem_map.mpr ⟨x.toNat, List.mem_range.mpr (by omega), by omega⟩)
  simpa using this
theorem ord_runs {acc : List Bool} {l1 : List (List Int)} (hf : Fits acc l1) : ∀ (d : Nat) (L : List Int) (i : Nat), L.Nodup → (∀ x ∈ L, 0 ≤ x ∧ x < (acc.length : Int)) → acc.length ≤ d + i → Runs (rowOf l1) L i (ordF l1 d L i)
  | 0, L, i, hn, ha, hd => .stop (by have := card_n acc.length L hn ha; omega)
  | d + 1, L, i, hn, ha, hd => by
    rw [ordF]
    by_cases h : i < L.length
    · rw [dif_pos h]
      refine .step h (ord_runs hf d _ _ (nodup_adds _ hn) (fun x hx => ?_) (by omega))
      rcases mem_adds.mp hx with q | q
      · exact ha x q
      · exact (hf.row _ (ha _ (List.getElem_mem h))).2 x q
    · rw [dif_neg h]
      exact .stop (by omega)
theorem ld_good (cl : List Int) : ∀ (m : List Int) (i : Nat) (ns ls : List Int), m = cl.drop i → ns = dd (cl.take i) → ls.map (rd cl) = ns → (∀ x ∈ ls, 0 ≤ x ∧ x < (cl.length : Int)) →
    (ldF m i ns ls).1 = dd cl ∧ (ldF m i ns ls).2.map (rd cl) = dd cl ∧ ∀ x ∈ (ldF m i ns ls).2, 0 ≤ x ∧ x < (cl.length : Int)
  | [], i, ns, ls, hm, hns, hls, hb => by
    have hi : cl.length ≤ i := by
      have := congrArg List.length hm
      simp only [List.length_nil, List.length_drop] at this
      omega
    rw [List.take_of_length_le hi] at hns
    rw [ldF, ← hns]
    exact ⟨rfl, hls, hb⟩
  | c :: m, i, ns, ls, hm, hns, hls, hb => by
    have hi : i < cl.length := by
      have := congrArg List.length hm
      simp only [List.length_cons, List.length_drop] at this
      omega
    rw [List.drop_eq_getElem_cons hi] at hm
    injection hm with hc hm
    have ht : dd (cl.take (i + 1)) = add ns c := by rw [List.take_succ_eq_append_getElem hi, dd_snoc, ← hns, hc]
    rw [ldF]
    by_cases h : c ∈ ns
    · rw [if_pos h]
      exact ld_good cl m (i + 1) ns ls hm (by rw [ht, add_in h]) hls hb
    · rw [if_neg h]
      refine ld_good cl m (i + 1) _ _ hm (by rw [ht, add_out h]) ?_ ?_
      · rw [List.map_append, hls, List.map_singleton, rd_get cl i hi, hc]
      · intro x hx
        rcases List.mem_append.mp hx with q | q
        · exact hb x q
        · rw [List.mem_singleton] at q; subst q; omega
theorem min_can {acc : List Bool} {l1 : List (List Int)} (hf : Fits acc l1) {st : Int} (hst : 0 ≤ st ∧ st < (acc.length : Int)) : IsCan (lang acc l1 st) (minD acc l1 st) := by
  have h0 : ∀ x ∈ [st], 0 ≤ x ∧ x < (acc.length : Int) := fun x hx => by rw [List.mem_singleton] at hx; subst hx; exact hst
  have hR := ord_runs hf (acc.length + 2) [st] 0 (by simp) h0 (by omega)
  unfold minD minT
  generalize ordF l1 (acc.length + 2) [st] 0 = os at hR
  have hn : os.Nodup := hR.nodup (by simp)
  have hdom := hR.all (p := fun x => 0 ≤ x ∧ x < (acc.length : Int)) (fun x hx y hy => (hf.row x hx).2 y hy) h0
  have hcl := hR.closed (fun j _ hj => by omega)
  have hpos : 1 ≤ os.length := hR.pre.length_le
  have hcan := hR.map0 (dom := fun x => 0 ≤ x ∧ x < (acc.length : Int)) (succ' := lsucc) (f := lang acc l1) (fun x hx y hy => (hf.row x hx).2 y hy) (fun x hx => succ_lang hf hx) hst
  have hl0 : (os.map (cls0 acc)).length = os.length := by simp
  have hc0 : ∀ x ∈ os, Cf os (os.map (cls0 acc)) x = cls0 acc x := fun x hx => by
    obtain ⟨i, hi, rfl⟩ := List.mem_iff_getElem.mp hx
    rw [Cf_at hn hl0 i hi, List.getElem_map]
  obtain ⟨hcl2, hiff⟩ := ref_good hf hn hpos hdom hcl (os.length + 2) (os.map (cls0 acc)) 0 hl0 (fun x hx y hy h => by
    rw [hc0 x hx, hc0 y hy]
    have : rdOf false acc x = rdOf false acc y := congrFun h []
    unfold cls0
    rw [this]) (fun x hx y hy h => by
    rw [hc0 x hx, hc0 y hy] at h
    unfold cls0 at h
    cases hx : rdOf false acc x <;> cases hy : rdOf false acc y <;> simp [hx, hy] at h ⊢) (Or.inl rfl) (by omega) _ rfl
  generalize refF l1 os (os.length + 2) (os.map (cls0 acc)) 0 = cf at hcl2 hiff
  obtain ⟨e1, e2, e3⟩ := ld_good cf cf 0 [] [] rfl rfl rfl (fun x hx => by cases hx)
  unfold outD
  generalize hns : (ldF cf 0 [] []).1 = ns at e1
  generalize hls : (ldF cf 0 [] []).2 = ls at e2 e3
  have hg : ∃ g : Int → Lan, ∀ x ∈ os, g (Cf os cf x) = lang acc l1 x := by
    refine ⟨fun c => lang acc l1 (rd os ((cf.idxOf c : Nat) : Int)), fun x hx => ?_⟩
    obtain ⟨i, hi, rfl⟩ := List.mem_iff_getElem.mp hx
    rw [Cf_at hn hcl2 i hi]
    have hm : cf[i] ∈ cf := List.getElem_mem (by omega)
    have hlt := List.idxOf_lt_length_of_mem hm
    have hat : cf[cf.idxOf cf[i]] = cf[i] := List.getElem_idxOf hlt
    show lang acc l1 (rd os ((cf.idxOf cf[i] : Nat) : Int)) = _
    rw [rd_get os _ (by omega)]
    refine (hiff _ (List.getElem_mem _) _ (List.getElem_mem hi)).mp ?_
    rw [Cf_at hn hcl2, Cf_at hn hcl2 i hi, hat]
  obtain ⟨g, hg⟩ := hg
  have hgc : cf.map g = os.map (lang acc l1) := by
    conv => lhs; rw [← cl_map hn hcl2]
    rw [List.map_map]
    exact List.map_congr_left fun x hx => hg x hx
  have hmem : ∀ c ∈ cf, ∃ x ∈ os, c = Cf os cf x := fun c hc => by
    rw [← cl_map hn hcl2] at hc
    obtain ⟨x, hx, rfl⟩ := List.mem_map.mp hc
    exact ⟨x, hx, rfl⟩
  have hinj : ∀ a ∈ cf, ∀ b ∈ cf, g a = g b → a = b := fun a ha b hb h => by
    obtain ⟨x, hx, rfl⟩ := hmem a ha
    obtain ⟨y, hy, rfl⟩ := hmem b hb
    rw [hg x hx, hg y hy] at h
    exact (hiff x hx y hy).mpr h
  have hdd : dd (os.map (lang acc l1)) = (dd cf).map g := by rw [← hgc]; exact dd_inj g cf hinj
  have hgi : ∀ i ∈ ls, rd os i ∈ os ∧ g (rd cf i) = lang acc l1 (rd os i) := fun i hi => by
    have hb := e3 i hi
    have ht : i.toNat < os.length := by omega
    have h1 := rd_get os i.toNat ht
    have h2 := rd_get cf i.toNat (by omega)
    rw [Int.toNat_of_nonneg hb.1] at h1 h2
    rw [h1, h2, ← Cf_at hn hcl2 i.toNat ht]
    exact ⟨List.getElem_mem ht, hg _ (List.getElem_mem ht)⟩
  have hR2 : dd (os.map (lang acc l1)) = ls.map (fun i => lang acc l1 (rd os i)) := by
    rw [hdd, ← e2, List.map_map]
    exact List.map_congr_left fun i hi => (hgi i hi).2
  refine ⟨_, hcan, ?_⟩
  unfold outL
  refine Prod.ext ?_ ?_
  · show ls.map _ = _
    rw [hR2, List.map_map]
    rfl
  · have hh : ∀ F : Lan → List Int, (dd (os.map (lang acc l1))).map F = ls.map (fun i => F (lang acc l1 (rd os i))) := fun F => by rw [hR2, List.map_map]; rfl
    show ls.map (outRow l1 os cf ns) = (dd (os.map (lang acc l1))).map _
    rw [hh]
    refine List.map_congr_left fun i hi => ?_
    have hx := (hgi i hi).1
    show outRow l1 os cf ns i = (lsucc (lang acc l1 (rd os i))).map _
    rw [← succ_lang hf (hdom _ hx), List.map_map]
    unfold outRow
    refine List.map_congr_left fun y hy => ?_
    have hyo := hcl _ hx y hy
    show (idx ns (Cf os cf y)).getD 0 = ((dd (os.map (lang acc l1))).idxOf (lang acc l1 y) : Int)
    have hcm : Cf os cf y ∈ cf := by
      have h1 : Cf os cf y ∈ os.map (Cf os cf) := List.mem_map_of_mem hyo
      rw [cl_map hn hcl2] at h1
      exact h1
    rw [e1, ← idx_val (mem_dd.mpr hcm), hdd, ← hg y hyo, idxOf_inj g (dd cf) _ (fun b hb h => hinj b (mem_dd.mp hb) _ hcm h)]
end Go.Proofs.Ytogamkblkoobkaa.Can
end
section
namespace Go.Proofs.Ytogamkblkoobkaa.Can
open Go.RowKit Go.Proofs.Ytogamkblkoobkaa Go.Proofs.Ytogamkblkoobkaa.Lg Go.Proofs.Ytogamkblkoobkaa.Pl Go.Proofs.Ytogamkblkoobkaa.Mp Go.Proofs.Ytogamkblkoobkaa.Bf Go.Proofs.Ytogamkblkoobkaa.Mn Go.Proofs.YtogamkblkoobkaaW.PrintWords Go.Proofs.YtogamkblkoobkaaW.PrintLast Go.Proofs.YtogamkblkoobkaaW.PrintMore
set_option linter.unusedVariables false
set_option linter.unusedSimpArgs false
set_option linter.unusedSectionVars false
def trunc (r : Nat) (L : Lan) : Lan := fun w => if w.length ≤ r then L w else false
theorem trunc_trunc (r : Nat) (L : Lan) : trunc r (trunc (r + 1) L) = trunc r L := by
  funext w
  unfold trunc
  by_cases h : w.length ≤ r
  · rw [if_pos h, if_pos h, if_pos (by omega)]
  · rw [if_neg h, if_neg h]
theorem trunc_zero {L M : Lan} : trunc 0 L = trunc 0 M ↔ eps L = eps M := by
  constructor
  · intro h
    exact congrFun h []
  · intro h
    funext w
    unfold trunc
    by_cases hw : w.length ≤ 0
    · rw [if_pos hw, if_pos hw]
      have : w = [] := List.length_eq_zero_iff.mp (by omega)
      subst this
      exact h
    · rw [if_neg hw, if_neg hw]
theorem trunc_succ {r : Nat} {L M : Lan} : trunc (r + 1) L = trunc (r + 1) M ↔ eps L = eps M ∧ ∀ k, trunc r (der L k) = trunc r (der M k) := by
  constructor
  · intro h
    refine ⟨congrFun h [], fun k => funext fun w => ?_⟩
    have := congrFun h (k :: w)
    unfold trunc at this ⊢
    by_cases hw : w.length ≤ r
    · rw [if_pos (by simp; omega), if_pos (by simp; omega)] at this
      rw [if_pos hw, if_pos hw]
      exact this
    · rw [if_neg hw, if_neg hw]
  · rintro ⟨h0, h⟩
    funext w
    cases w with
    | nil => exact h0
    | cons k w =>
      have := congrFun (h k) w
      unfold trunc at this ⊢
      by_cases hw : w.length ≤ r
      · rw [if_pos hw, if_pos hw] at this
        rw [if_pos (by simp; omega), if_pos (by simp; omega)]
        exact this
      · rw [if_neg (by simp; omega), if_neg (by simp; omega)]
theorem lan_of_trunc {L M : Lan} (h : ∀ r, trunc r L = trunc r M) : L = M := by
  funext w
  have := congrFun (h w.length) w
  unfold trunc at this
  rw [if_pos (Nat.le_refl _), if_pos (Nat.le_refl _)] at this
  exact this
section
variable {acc : List Bool} {nx : List (List Int)}
def sig (acc : List Bool) (nx : List (List Int)) (r : Nat) (q : Int) : Lan := trunc r (lang acc nx q)
theorem sig_zero {p q : Int} : sig acc nx 0 p = sig acc nx 0 q ↔ rdOf false acc p = rdOf false acc q := trunc_zero
theorem sig_succ {r : Nat} {p q : Int} : sig acc nx (r + 1) p = sig acc nx (r + 1) q ↔ rdOf false acc p = rdOf false acc q ∧ ∀ k : Fin 3, sig acc nx r (rd (rowOf nx p) (k.val : Int)) = sig acc nx r (rd (rowOf nx q) (k.val : Int)) := trunc_succ
theorem sig_down {r : Nat} {p q : Int} (h : sig acc nx (r + 1) p = sig acc nx (r + 1) q) : sig acc nx r p = sig acc nx r q := by
  have := congrArg (trunc r) h
  unfold sig at this ⊢
  rw [trunc_trunc, trunc_trunc] at this
  exact this
def states (n : Nat) : List Int := (List.range n).map fun (i : Nat) => (i : Int)
theorem mem_states {n : Nat} {q : Int} : q ∈ states n ↔ 0 ≤ q ∧ q < (n : Int) := by
  unfold states
  rw [List.mem_map]
  constructor
  · rintro ⟨i, hi, rfl⟩
    rw [List.mem_range] at hi
    omega
  · intro h
    exact ⟨q.toNat, List.mem_range.mpr (by omega), by omega⟩
theorem rd_mem {r : List Int} (h : r.length = 3) (k : Fin 3) : rd r (k.val : Int) ∈ r := by
  rw [rd_get r k.val (by omega)]
  exact List.getElem_mem _
theorem sig_stable (hf : Fits acc nx) {r : Nat} (h : ∀ p ∈ states acc.length, ∀ q ∈ states acc.length, sig acc nx r p = sig acc nx r q → sig acc nx (r + 1) p = sig acc nx (r + 1) q) :
    ∀ d : Nat, ∀ p ∈ states acc.length, ∀ q ∈ states acc.length, sig acc nx r p = sig acc nx r q → sig acc nx (r + d) p = sig acc nx (r + d) q := by
  have hstep : ∀ d : Nat, ∀ p ∈ states acc.length, ∀ q ∈ states acc.length, sig acc nx (r + d) p = sig acc nx (r + d) q → sig acc nx (r + d + 1) p = sig acc nx (r + d + 1) q := by
    intro d
    induction d with
    | zero => exact h
    | succ d ih =>
      intro p hp q hq hpq
      rw [sig_succ]
      have h1 := sig_succ.mp hpq
      refine ⟨h1.1, fun k => ?_⟩
      have hp3 := hf.row p (mem_states.mp hp)
      have hq3 := hf.row q (mem_states.mp hq)
      exact ih _ (mem_states.mpr (hp3.2 _ (rd_mem hp3.1 k))) _ (mem_states.mpr (hq3.2 _ (rd_mem hq3.1 k))) (h1.2 k)
  intro d
  induction d with
  | zero => exact fun p hp q hq h => h
  | succ d ih => exact fun p hp q hq h => hstep d p hp q hq (ih p hp q hq h)
theorem sig_all (hf : Fits acc nx) {m : Nat} (hm : acc.length ≤ m) {p q : Int} (hp : 0 ≤ p ∧ p < (acc.length : Int)) (hq : 0 ≤ q ∧ q < (acc.length : Int)) : sig acc nx m p = sig acc nx m q ↔ lang acc nx p = lang acc nx q := by
  constructor
  · intro h
    have hex : ∃ r, r ≤ m ∧ ∀ p ∈ states acc.length, ∀ q ∈ states acc.length, sig acc nx r p = sig acc nx r q → sig acc nx (r + 1) p = sig acc nx (r + 1) q := by
      refine Classical.byContradiction fun hno => ?_
      have hlt : ∀ r, r ≤ m → (dd ((states acc.length).map (sig acc nx r))).length < (dd ((states acc.length).map (sig acc nx (r + 1)))).length := by
        intro r hr
        have e : (states acc.length).map (sig acc nx r) = ((states acc.length).map (sig acc nx (r + 1))).map (trunc r) := by
          rw [List.map_map]
          exact List.map_congr_left fun x _ => (trunc_trunc r (lang acc nx x)).symm
        have hle := dd_map_le (trunc r) ((states acc.length).map (sig acc nx (r + 1)))
        rw [← e] at hle
        refine Nat.lt_of_le_of_ne hle fun heq => hno ⟨r, hr, fun p hp q hq hpq => ?_⟩
        refine inj_of_len (trunc r) _ (by rw [← e]; exact heq) _ (List.mem_map_of_mem hp) _ (List.mem_map_of_mem hq) ?_
        show trunc r (trunc (r + 1) _) = trunc r (trunc (r + 1) _)
        rw [trunc_trunc, trunc_trunc]
        exact hpq
      have hge : ∀ r, r ≤ m + 1 → r ≤ (dd ((states acc.length).map (sig acc nx r))).length := by
        intro r
        induction r with
        | zero => intro _; exact Nat.zero_le _
        | succ r ih =>
          intro hr
          have := hlt r (by omega)
          have := ih (by omega)
          omega
      have h1 := hge (m + 1) (Nat.le_refl _)
      have h2 := dd_len_le ((states acc.length).map (sig acc nx (m + 1)))
      have h3 : ((states acc.length).map (sig acc nx (m + 1))).length = acc.length := by simp [states]
      omega
    obtain ⟨r, hr, hst⟩ := hex
    have h0 : sig acc nx r p = sig acc nx r q := by
      obtain ⟨d, rfl⟩ : ∃ d, m = r + d := ⟨m - r, by omega⟩
      clear hst hr hm
      induction d with
      | zero => exact h
      | succ d ih => exact ih (sig_down h)
    refine lan_of_trunc fun s => ?_
    have h1 := sig_stable hf hst s p (mem_states.mpr hp) q (mem_states.mpr hq) h0
    have hdown : ∀ d t : Nat, sig acc nx (t + d) p = sig acc nx (t + d) q → sig acc nx t p = sig acc nx t q := by
      intro d
      induction d with
      | zero => exact fun t h => h
      | succ d ih => exact fun t h => ih t (sig_down h)
    exact hdown r s (by rw [Nat.add_comm]; exact h1)
  · intro h
    unfold sig
    rw [h]
end
end Go.Proofs.Ytogamkblkoobkaa.Can
end
section
namespace Go.Proofs.Ytogamkblkoobkaa.Can
open Go.RowKit Go.Proofs.Ytogamkblkoobkaa Go.Proofs.Ytogamkblkoobkaa.P Go.Proofs.Ytogamkblkoobkaa.Lg Go.Proofs.Ytogamkblkoobkaa.Pl Go.Proofs.Ytogamkblkoobkaa.Mp Go.Proofs.Ytogamkblkoobkaa.Bf Go.Proofs.Ytogamkblkoobkaa.Mn Go.Proofs.YtogamkblkoobkaaW.PrintWords Go.Proofs.YtogamkblkoobkaaW.PrintLast Go.Proofs.YtogamkblkoobkaaW.PrintMore
set_option linter.unusedVariables false
set_option linter.unusedSimpArgs false
set_option linter.unusedSectionVars false
def findOf (l : List Int) (x : Int) : Int := if x ∈ l then (l.idxOf x : Int) else -1
theorem find_l0 (l : List Int) (x : Int) (hl : l.length ≤ 2000000) : ∀ d i : Nat, i + d = l.length → x ∉ l.take i → Ev (fun k => spec_l5Find.l0 k l x i) (findOf l x) := by
  intro d
  induction d with
  | zero =>
    intro i h hx
    refine next ?_
    simp only [spec_l5Find.l0, if_neg (show ¬ (i : Int) < (l.length : Int) by omega)]
    rw [List.take_of_length_le (by omega)] at hx
    exact ev_some (by unfold findOf; rw [if_neg hx])
  | succ d ih =>
    intro i h hx
    have hi : i < l.length := by omega
    refine next ?_
    simp only [spec_l5Find.l0, if_pos (show (i : Int) < (l.length : Int) by omega), if_pos (show (0 : Int) ≤ (i : Int) by omega), rd_get l i hi]
    by_cases e : l[i] = x
    · simp only [if_pos e]
      refine ev_some ?_
      have hm : x ∈ l := e ▸ List.getElem_mem hi
      unfold findOf
      rw [if_pos hm]
      have : l.idxOf x = i := by
        conv => lhs; rw [← List.take_append_drop i l, List.drop_eq_getElem_cons hi]
        rw [List.idxOf_append, if_neg hx, e, List.idxOf_cons_self]
        simp
        omega
      rw [this]
    · simp only [if_neg e]
      rw [up1 (by omega)]
      refine ih (i + 1) (by omega) ?_
      rw [List.take_succ_eq_append_getElem hi]
      intro hm
      rcases List.mem_append.mp hm with q | q
      · exact hx q
      · rw [List.mem_singleton] at q
        exact e q.symm
theorem find_ev (l : List Int) (x : Int) (hl : l.length ≤ 2000000) : Ev (fun k => spec_l5Find.f k l x) (findOf l x) := find_l0 l x hl l.length 0 (by omega) (by simp)
def eqAt (nx : List (List Int)) (cl : List Int) (p q : Int) (j : Int) : Bool := rd cl (rd (rowOf nx p) j) == rd cl (rd (rowOf nx q) j)
def sameB (nx : List (List Int)) (cl : List Int) (p q : Int) : Bool := (((rd cl p == rd cl q) && eqAt nx cl p q 0) && eqAt nx cl p q 1) && eqAt nx cl p q 2
theorem sameB_iff {nx : List (List Int)} {cl : List Int} {p q : Int} : sameB nx cl p q = true ↔ rd cl p = rd cl q ∧ ∀ k : Fin 3, rd cl (rd (rowOf nx p) (k.val : Int)) = rd cl (rd (rowOf nx q) (k.val : Int)) := by
  unfold sameB eqAt
  simp only [Bool.and_eq_true, beq_iff_eq]
  constructor
  · rintro ⟨⟨⟨h, h0⟩, h1⟩, h2⟩
    refine ⟨h, fun k => ?_⟩
    match k with
    | 0 => exact h0
    | 1 => exact h1
    | 2 => exact h2
  · rintro ⟨h, hk⟩
    exact ⟨⟨⟨h, hk 0⟩, hk 1⟩, hk 2⟩
section
variable {acc : List Bool} {nx : List (List Int)} {cl : List Int}
theorem same_step (hf : Fits acc nx) (hcl : cl.length = acc.length) {p q : Int} (hp : 0 ≤ p ∧ p < (acc.length : Int)) (hq : 0 ≤ q ∧ q < (acc.length : Int)) (b : Bool) (j : Nat) (hj : j < 3) {r : Bool}
    (h : Ev (fun k => spec_l5Same.l0 k cl p q (b && eqAt nx cl p q j) ((j + 1 : Nat) : Int) acc nx) r) : Ev (fun k => spec_l5Same.l0 k cl p q b (j : Int) acc nx) r := by
  refine next ?_
  have h1 : (rd_L1 nx p).length = 3 ∧ ∀ x ∈ rd_L1 nx p, 0 ≤ x ∧ x < (acc.length : Int) := hf.row p hp
  have h2 : (rd_L1 nx q).length = 3 ∧ ∀ x ∈ rd_L1 nx q, 0 ≤ x ∧ x < (acc.length : Int) := hf.row q hq
  have hl := hf.len
  have e1 := h1.2 _ (rd_mem h1.1 ⟨j, hj⟩)
  have e2 := h2.2 _ (rd_mem h2.1 ⟨j, hj⟩)
  dsimp only at e1 e2
  cases b with
  | true =>
    simp only [spec_l5Same.l0, if_pos (show (j : Int) < 3 by omega), if_pos hp.1, if_pos hq.1, if_pos (show p < (nx.length : Int) by omega), if_pos (show q < (nx.length : Int) by omega), if_pos (show (0 : Int) ≤ (j : Int) by omega), if_pos (show (j : Int) < ((rd_L1 nx p).length : Int) by omega), if_pos (show (j : Int) < ((rd_L1 nx q).length : Int) by omega), if_pos e1.1, if_pos e2.1, if_pos (show rd (rd_L1 nx p) (j : Int) < (cl.length : Int) by omega), if_pos (show rd (rd_L1 nx q) (j : Int) < (cl.length : Int) by omega), if_true]
    rw [up1 (by omega)]
    exact h
  | false =>
    simp only [spec_l5Same.l0, if_pos (show (j : Int) < 3 by omega), if_neg (show ¬ false = true by decide)]
    rw [up1 (by omega)]
    exact h
theorem same_ev (hf : Fits acc nx) (hcl : cl.length = acc.length) {p q : Int} (hp : 0 ≤ p ∧ p < (acc.length : Int)) (hq : 0 ≤ q ∧ q < (acc.length : Int)) : Ev (fun k => spec_l5Same.f k acc nx cl p q) (sameB nx cl p q) := by
  have hl := hf.len
  have h0 : Ev (fun k => spec_l5Same.l0 k cl p q (rd cl p == rd cl q) ((0 : Nat) : Int) acc nx) (sameB nx cl p q) := by
    refine same_step hf hcl hp hq _ 0 (by omega) (same_step hf hcl hp hq _ 1 (by omega) (same_step hf hcl hp hq _ 2 (by omega) ?_))
    refine next ?_
    simp only [spec_l5Same.l0, if_neg (show ¬ ((2 + 1 : Nat) : Int) < 3 by decide)]
    exact ev_some rfl
  refine h0.congr fun k => ?_
  simp only [spec_l5Same.f, if_pos hp.1, if_pos hq.1, if_pos (show p < (cl.length : Int) by omega), if_pos (show q < (cl.length : Int) by omega)]
  rfl
def cl0 (acc : List Bool) : List Int := acc.map fun b => if b = true then 1 else 0
def leastF (nx : List (List Int)) (cl : List Int) (q : Nat) : Int := (((List.range q).find? (fun p : Nat => sameB nx cl (p : Int) (q : Int))).getD q : Nat)
def refS (nx : List (List Int)) (cl : List Int) : List Int := (List.range cl.length).map (leastF nx cl)
def iterS (nx : List (List Int)) : Nat → List Int → List Int
  | 0, cl => cl
  | d + 1, cl => iterS nx d (refS nx cl)
theorem set_at {n i : Nat} (hi : i < n) (A : List Int) (hA : A.length = i) (y : Int) : (A ++ List.replicate (n - i) (0 : Int)).set i y = (A ++ [y]) ++ List.replicate (n - (i + 1)) 0 := by
  have := set_mid A (0 : Int) y (List.replicate (n - (i + 1)) 0)
  rw [hA] at this
  rw [show n - i = (n - (i + 1)) + 1 by omega, List.replicate_succ]
  exact this
theorem cls_l3 (hf : Fits acc nx) (hcl : cl.length = acc.length) (hb : acc.length ≤ 1100000) (t : Int) (X : List Int) (hX : X.length = acc.length) (i : Nat) (hi : i < acc.length) {r : List Int}
    (h : Ev (fun k => spec_l5Classes.l2 k (acc.length : Int) cl t (X.set i (leastF nx cl i)) ((i + 1 : Nat) : Int) acc nx) r) :
    ∀ d p : Nat, p + d = i → (∀ p' : Nat, p' < p → sameB nx cl p' i = false) → Ev (fun k => spec_l5Classes.l3 k (acc.length : Int) cl t (X.set i (i : Int)) (i : Int) (p : Int) acc nx) r := by
  intro d
  induction d with
  | zero =>
    intro p hp hno
    refine next ?_
    simp only [spec_l5Classes.l3, if_neg (show ¬ (p : Int) < (i : Int) by omega)]
    rw [up1 (by omega)]
    have e : leastF nx cl i = (i : Int) := by
      unfold leastF
      have : (List.range i).find? (fun p : Nat => sameB nx cl (p : Int) (i : Int)) = none := by
        rw [List.find?_eq_none]
        intro x hx
        rw [List.mem_range] at hx
        rw [hno x (by omega)]
        decide
      rw [this]
      rfl
    rw [← e]
    exact h
  | succ d ih =>
    intro p hp hno
    refine next ?_
    simp only [spec_l5Classes.l3, if_pos (show (p : Int) < (i : Int) by omega)]
    refine (same_ev hf hcl (p := (p : Int)) (q := (i : Int)) (by omega) (by omega)).bind ?_
    cases hs : sameB nx cl (p : Int) (i : Int) with
    | true =>
      simp only [if_true, if_pos (show (0 : Int) ≤ (i : Int) by omega), if_pos (show (i : Int) < ((X.set i (i : Int)).length : Int) by rw [List.length_set]; omega), Int.toNat_natCast, List.set_set]
      rw [up1 (by omega)]
      have e : leastF nx cl i = (p : Int) := by
        unfold leastF
        have : (List.range i).find? (fun p : Nat => sameB nx cl (p : Int) (i : Int)) = some p := by
          rw [List.find?_eq_some_iff_getElem]
          refine ⟨hs, p, by simp; omega, by simp, fun j hj => ?_⟩
          rw [List.getElem_range, hno j hj]
          rfl
        rw [this]
        rfl
      rw [← e]
      exact h
    | false =>
      simp only [if_neg (show ¬ false = true by decide)]
      rw [up1 (by omega)]
      refine ih (p + 1) (by omega) fun p' hp' => ?_
      by_cases e : p' = p
      · subst e; exact hs
      · exact hno p' (by omega)
theorem cls_l2 (hf : Fits acc nx) (hcl : cl.length = acc.length) (hb : acc.length ≤ 1100000) (t : Nat) (ht : t ≤ 1100000) {r : List Int}
    (h : Ev (fun k => spec_l5Classes.l1 k (acc.length : Int) (refS nx cl) ((t + 1 : Nat) : Int) acc nx) r) :
    ∀ d i : Nat, i + d = acc.length → Ev (fun k => spec_l5Classes.l2 k (acc.length : Int) cl (t : Int) ((List.range i).map (leastF nx cl) ++ List.replicate (acc.length - i) 0) (i : Int) acc nx) r := by
  intro d
  induction d with
  | zero =>
    intro i hi
    refine next ?_
    simp only [spec_l5Classes.l2, if_neg (show ¬ (i : Int) < (acc.length : Int) by omega)]
    rw [up1 (by omega)]
    have e : (List.range i).map (leastF nx cl) ++ List.replicate (acc.length - i) 0 = refS nx cl := by
      unfold refS
      rw [hcl, show i = acc.length by omega]
      simp
    rw [e]
    exact h
  | succ d ih =>
    intro i hi
    refine next ?_
    have hlen : ((List.range i).map (leastF nx cl) ++ List.replicate (acc.length - i) (0 : Int)).length = acc.length := by simp; omega
    simp only [spec_l5Classes.l2, if_pos (show (i : Int) < (acc.length : Int) by omega), if_pos (show (0 : Int) ≤ (i : Int) by omega), if_pos (show (i : Int) < (((List.range i).map (leastF nx cl) ++ List.replicate (acc.length - i) (0 : Int)).length : Int) by omega), Int.toNat_natCast]
    refine cls_l3 hf hcl hb (t : Int) _ hlen i (by omega) ?_ i 0 (by omega) (fun _ h => by omega)
    rw [set_at (by omega) _ (by simp), ← List.map_singleton, ← List.map_append, ← List.range_succ]
    exact ih (i + 1) (by omega)
theorem refS_len (nx : List (List Int)) (cl : List Int) : (refS nx cl).length = cl.length := by simp [refS]
theorem cls_l1 (hf : Fits acc nx) (hb : acc.length ≤ 1100000) : ∀ (d t : Nat) (cl : List Int), cl.length = acc.length → t + d = acc.length + 1 → Ev (fun k => spec_l5Classes.l1 k (acc.length : Int) cl (t : Int) acc nx) (iterS nx d cl) := by
  intro d
  induction d with
  | zero =>
    intro t cl hcl ht
    refine next ?_
    simp only [spec_l5Classes.l1, if_neg (show ¬ (t : Int) ≤ (acc.length : Int) by omega)]
    exact ev_some rfl
  | succ d ih =>
    intro t cl hcl ht
    refine next ?_
    simp only [spec_l5Classes.l1, if_pos (show (t : Int) ≤ (acc.length : Int) by omega), if_pos (show (0 : Int) ≤ (acc.length : Int) by omega), Int.toNat_natCast, if_pos (show acc.length ≤ 35184372088832 by omega)]
    show Ev _ (iterS nx d (refS nx cl))
    have := cls_l2 hf hcl hb t (by omega) (ih (t + 1) (refS nx cl) (by rw [refS_len]; exact hcl) (by omega)) acc.length 0 (by omega)
    simpa using this
theorem cls_l0 (hf : Fits acc nx) (hb : acc.length ≤ 1100000) {r : List Int} (h : Ev (fun k => spec_l5Classes.l1 k (acc.length : Int) (cl0 acc) 0 acc nx) r) :
    ∀ d i : Nat, i + d = acc.length → Ev (fun k => spec_l5Classes.l0 k (acc.length : Int) ((acc.take i).map (fun b => if b = true then (1 : Int) else 0) ++ List.replicate (acc.length - i) 0) (i : Int) acc nx) r := by
  intro d
  induction d with
  | zero =>
    intro i hi
    refine next ?_
    simp only [spec_l5Classes.l0, if_neg (show ¬ (i : Int) < (acc.length : Int) by omega)]
    rw [List.take_of_length_le (by omega), show acc.length - i = 0 by omega]
    simpa [cl0] using h
  | succ d ih =>
    intro i hi
    refine next ?_
    have hii : i < acc.length := by omega
    have hlen : (((acc.take i).map (fun b => if b = true then (1 : Int) else 0) ++ List.replicate (acc.length - i) (0 : Int)).length : Int) = (acc.length : Int) := by simp; omega
    have hs : ∀ y, ((acc.take i).map (fun b => if b = true then (1 : Int) else 0) ++ List.replicate (acc.length - i) (0 : Int)).set i y = ((acc.take i).map (fun b => if b = true then (1 : Int) else 0) ++ [y]) ++ List.replicate (acc.length - (i + 1)) 0 := fun y => set_at hii _ (by simp; omega) y
    have hz := hs 0
    have hsame : ((acc.take i).map (fun b => if b = true then (1 : Int) else 0) ++ List.replicate (acc.length - i) (0 : Int)).set i 0 = (acc.take i).map (fun b => if b = true then (1 : Int) else 0) ++ List.replicate (acc.length - i) (0 : Int) := by
      rw [hz, show acc.length - i = (acc.length - (i + 1)) + 1 by omega, List.replicate_succ]
      simp
    have IH := ih (i + 1) (by omega)
    rw [List.take_succ_eq_append_getElem hii, List.map_append, List.map_singleton] at IH
    simp only [spec_l5Classes.l0, if_pos (show (i : Int) < (acc.length : Int) by omega), if_pos (show (0 : Int) ≤ (i : Int) by omega), rdOf_get false acc i hii]
    rw [up1 (by omega)]
    cases hb2 : acc[i] with
    | true =>
      rw [hb2] at IH
      simp only [if_true] at IH ⊢
      simp only [hlen, if_pos (show (i : Int) < (acc.length : Int) by omega), Int.toNat_natCast, hs]
      exact IH
    | false =>
      rw [hb2] at IH
      simp only [if_neg (show ¬ false = true by decide)] at IH ⊢
      rw [← hsame, hz]
      exact IH
theorem cls_ev (hf : Fits acc nx) (hb : acc.length ≤ 1100000) : Ev (fun k => spec_l5Classes.f k acc nx) (iterS nx (acc.length + 1) (cl0 acc)) := by
  have h1 := cls_l1 hf hb (acc.length + 1) 0 (cl0 acc) (by simp [cl0]) (by omega)
  have h0 := cls_l0 hf hb h1 acc.length 0 (by omega)
  refine h0.congr fun k => ?_
  simp only [spec_l5Classes.f, if_pos (show (0 : Int) ≤ (acc.length : Int) by omega), Int.toNat_natCast, if_pos (show acc.length ≤ 35184372088832 by omega)]
  simp
end
end Go.Proofs.Ytogamkblkoobkaa.Can
end
section
namespace Go.Proofs.Ytogamkblkoobkaa.Can
open Go.RowKit Go.Proofs.Ytogamkblkoobkaa Go.Proofs.Ytogamkblkoobkaa.P Go.Proofs.Ytogamkblkoobkaa.Lg Go.Proofs.Ytogamkblkoobkaa.Pl Go.Proofs.Ytogamkblkoobkaa.Mp Go.Proofs.Ytogamkblkoobkaa.Bf Go.Proofs.Ytogamkblkoobkaa.Mn Go.Proofs.YtogamkblkoobkaaW.PrintWords Go.Proofs.YtogamkblkoobkaaW.PrintLast Go.Proofs.YtogamkblkoobkaaW.PrintMore
set_option linter.unusedVariables false
set_option linter.unusedSimpArgs false
set_option linter.unusedSectionVars false
section
variable {acc : List Bool} {nx : List (List Int)} {cl : List Int} {r : Nat}
structure Inv (acc : List Bool) (nx : List (List Int)) (r : Nat) (cl : List Int) : Prop where
  len : cl.length = acc.length
  iff : ∀ p ∈ states acc.length, ∀ q ∈ states acc.length, (rd cl p = rd cl q ↔ sig acc nx r p = sig acc nx r q)
def Rep (acc : List Bool) (nx : List (List Int)) (r : Nat) (cl : List Int) : Prop := ∀ q ∈ states acc.length, rd cl q ∈ states acc.length ∧ sig acc nx r (rd cl q) = sig acc nx r q
theorem rd_at {l : List Int} {q : Int} (h0 : 0 ≤ q) (h1 : q < (l.length : Int)) : rd l q = l[q.toNat]'(by omega) := by
  have := rd_get l q.toNat (by omega)
  rwa [Int.toNat_of_nonneg h0] at this
theorem inv0 : Inv acc nx 0 (cl0 acc) := by
  have hlen : (cl0 acc).length = acc.length := by simp [cl0]
  have hat : ∀ p ∈ states acc.length, rd (cl0 acc) p = if rdOf false acc p = true then 1 else 0 := fun p hp => by
    have := mem_states.mp hp
    rw [rd_at this.1 (by omega)]
    have h2 := rdOf_get false acc p.toNat (by omega)
    rw [Int.toNat_of_nonneg this.1] at h2
    rw [h2]
    simp [cl0]
  refine ⟨hlen, fun p hp q hq => ?_⟩
  rw [hat p hp, hat q hq, sig_zero]
  cases h1 : rdOf false acc p <;> cases h2 : rdOf false acc q <;> simp
theorem succ_state (hf : Fits acc nx) {p : Int} (hp : p ∈ states acc.length) (k : Fin 3) : rd (rowOf nx p) (k.val : Int) ∈ states acc.length := by
  have h := hf.row p (mem_states.mp hp)
  exact mem_states.mpr (h.2 _ (rd_mem h.1 k))
theorem same_sig (hf : Fits acc nx) (h : Inv acc nx r cl) {p q : Int} (hp : p ∈ states acc.length) (hq : q ∈ states acc.length) : sameB nx cl p q = true ↔ sig acc nx (r + 1) p = sig acc nx (r + 1) q := by
  rw [sameB_iff, sig_succ]
  constructor
  · rintro ⟨h0, hk⟩
    have hs := (h.iff p hp q hq).mp h0
    exact ⟨congrFun hs [], fun k => (h.iff _ (succ_state hf hp k) _ (succ_state hf hq k)).mp (hk k)⟩
  · intro hh
    exact ⟨(h.iff p hp q hq).mpr (sig_down (sig_succ.mpr hh)), fun k => (h.iff _ (succ_state hf hp k) _ (succ_state hf hq k)).mpr (hh.2 k)⟩
theorem least_sig (hf : Fits acc nx) (h : Inv acc nx r cl) {q : Nat} (hq : q < acc.length) : 0 ≤ leastF nx cl q ∧ leastF nx cl q ≤ q ∧ sig acc nx (r + 1) (leastF nx cl q) = sig acc nx (r + 1) q ∧ ∀ p : Nat, (p : Int) < leastF nx cl q → sig acc nx (r + 1) p ≠ sig acc nx (r + 1) q := by
  have hqs : (q : Int) ∈ states acc.length := mem_states.mpr (by omega)
  unfold leastF
  cases hfd : (List.range q).find? (fun p : Nat => sameB nx cl (p : Int) (q : Int)) with
  | none =>
    rw [List.find?_eq_none] at hfd
    refine ⟨by simp, by simp, rfl, fun p hp he => ?_⟩
    have hpq : p < q := by simpa using hp
    exact hfd p (List.mem_range.mpr hpq) ((same_sig hf h (mem_states.mpr (by omega)) hqs).mpr he)
  | some m =>
    obtain ⟨hs, i, hi, hm, hno⟩ := List.find?_eq_some_iff_getElem.mp hfd
    have him : i = m := by simpa using hm
    subst him
    have hiq : i < q := by simpa using hi
    refine ⟨by simp, by simp; omega, (same_sig hf h (mem_states.mpr (by simp; omega)) hqs).mp hs, fun p hp he => ?_⟩
    have hpi : p < i := by simpa using hp
    have := hno p hpi
    rw [List.getElem_range, (same_sig hf h (mem_states.mpr (by omega)) hqs).mpr he] at this
    exact absurd this (by decide)
theorem rd_refS (h : Inv acc nx r cl) {q : Int} (hq : q ∈ states acc.length) : rd (refS nx cl) q = leastF nx cl q.toNat := by
  have := mem_states.mp hq
  have hl : (refS nx cl).length = acc.length := by rw [refS_len, h.len]
  rw [rd_at this.1 (by omega)]
  simp [refS]
theorem inv_succ (hf : Fits acc nx) (h : Inv acc nx r cl) : Inv acc nx (r + 1) (refS nx cl) := by
  refine ⟨by rw [refS_len, h.len], fun p hp q hq => ?_⟩
  rw [rd_refS h hp, rd_refS h hq]
  have bp := mem_states.mp hp
  have bq := mem_states.mp hq
  obtain ⟨p0, p1, p2, p3⟩ := least_sig hf h (q := p.toNat) (by omega)
  obtain ⟨q0, q1, q2, q3⟩ := least_sig hf h (q := q.toNat) (by omega)
  rw [Int.toNat_of_nonneg bp.1] at p2 p3
  rw [Int.toNat_of_nonneg bq.1] at q2 q3
  constructor
  · intro he
    rw [← p2, ← q2, he]
  · intro he
    refine Int.le_antisymm ?_ ?_
    · refine Int.not_lt.mp fun hlt => ?_
      refine p3 (leastF nx cl q.toNat).toNat (by rw [Int.toNat_of_nonneg q0]; exact hlt) ?_
      rw [Int.toNat_of_nonneg q0, q2, he]
    · refine Int.not_lt.mp fun hlt => ?_
      refine q3 (leastF nx cl p.toNat).toNat (by rw [Int.toNat_of_nonneg p0]; exact hlt) ?_
      rw [Int.toNat_of_nonneg p0, p2, he]
theorem rep_succ (hf : Fits acc nx) (h : Inv acc nx r cl) : Rep acc nx (r + 1) (refS nx cl) := by
  intro q hq
  have bq := mem_states.mp hq
  obtain ⟨q0, q1, q2, q3⟩ := least_sig hf h (q := q.toNat) (by omega)
  rw [Int.toNat_of_nonneg bq.1] at q2
  rw [rd_refS h hq]
  exact ⟨mem_states.mpr (by omega), q2⟩
theorem iter_inv (hf : Fits acc nx) : ∀ (d r : Nat) (cl : List Int), Inv acc nx r cl → Rep acc nx r cl → Inv acc nx (r + d) (iterS nx d cl) ∧ Rep acc nx (r + d) (iterS nx d cl)
  | 0, r, cl, h, h2 => ⟨h, h2⟩
  | d + 1, r, cl, h, h2 => by
    have := iter_inv hf d (r + 1) (refS nx cl) (inv_succ hf h) (rep_succ hf h)
    rw [show r + 1 + d = r + (d + 1) by omega] at this
    exact this
structure Cls (acc : List Bool) (nx : List (List Int)) (cl : List Int) : Prop where
  len : cl.length = acc.length
  iff : ∀ p ∈ states acc.length, ∀ q ∈ states acc.length, (rd cl p = rd cl q ↔ lang acc nx p = lang acc nx q)
  rep : ∀ q ∈ states acc.length, rd cl q ∈ states acc.length ∧ lang acc nx (rd cl q) = lang acc nx q
theorem cls_good (hf : Fits acc nx) : Cls acc nx (iterS nx (acc.length + 1) (cl0 acc)) := by
  obtain ⟨h1, h2⟩ := iter_inv hf acc.length 1 (refS nx (cl0 acc)) (inv_succ hf inv0) (rep_succ hf inv0)
  have e : iterS nx (acc.length + 1) (cl0 acc) = iterS nx acc.length (refS nx (cl0 acc)) := rfl
  rw [e]
  refine ⟨h1.len, fun p hp q hq => ?_, fun q hq => ?_⟩
  · rw [h1.iff p hp q hq, sig_all hf (by omega) (mem_states.mp hp) (mem_states.mp hq)]
  · obtain ⟨a, b⟩ := h2 q hq
    exact ⟨a, (sig_all hf (by omega) (mem_states.mp a) (mem_states.mp hq)).mp b⟩
def succC (nx : List (List Int)) (cl : List Int) (p : Int) : List Int := (rowOf nx p).map (rd cl)
def rowR (nx : List (List Int)) (cl : List Int) (R : List Int) (p : Int) : List Int := (succC nx cl p).map fun y => (R.idxOf y : Int)
theorem inner_ev (hf : Fits acc nx) (hcl : cl.length = acc.length) (L R : List Int) (i : Nat) (hi : i < L.length) (hp : L[i] ∈ states acc.length) (hpre : adds L (succC nx cl L[i]) <+: R) (hR : R.length ≤ 1100000) (A : List Bool) (B : List (List Int)) (hA : A.length ≤ 1100000) (hB : B.length ≤ 1100000) {out : List Bool × List (List Int)}
    (h : Ev (fun k => spec_l5Minimal.l0 k cl (adds L (succC nx cl L[i])) ((i + 1 : Nat) : Int) acc nx (A ++ [rdOf false acc L[i]]) (B ++ [rowR nx cl R L[i]])) out) :
    ∀ (d j : Nat), j + d = 3 → Ev (fun k => spec_l5Minimal.l1 k cl (adds L ((succC nx cl L[i]).take j)) (i : Int) (((succC nx cl L[i]).take j).map fun y => (R.idxOf y : Int)) (j : Int) acc nx A B) out := by
  generalize hpe : L[i] = p at hp hpre h ⊢
  have hps := mem_states.mp hp
  have hl := hf.len
  have hr : (rd_L1 nx p).length = 3 ∧ ∀ x ∈ rd_L1 nx p, 0 ≤ x ∧ x < (acc.length : Int) := hf.row p hps
  have hsl : (succC nx cl p).length = 3 := by unfold succC; rw [List.length_map]; exact hr.1
  have hpj : ∀ j, adds L ((succC nx cl p).take j) <+: adds L (succC nx cl p) := fun j => by
    conv => rhs; rw [← List.take_append_drop j (succC nx cl p), adds_append]
    exact adds_pre _ _
  have hrdp : ∀ j, rd (adds L ((succC nx cl p).take j)) (i : Int) = p ∧ i < (adds L ((succC nx cl p).take j)).length := fun j => by
    have h1 := adds_pre ((succC nx cl p).take j) L
    have h2 := h1.length_le
    rw [rd_get _ i (by omega)]
    exact ⟨(h1.getElem hi).symm.trans hpe, by omega⟩
  have hRl : ∀ j, (adds L ((succC nx cl p).take j)).length ≤ 1100000 := fun j => Nat.le_trans ((hpj j).trans hpre).length_le hR
  intro d
  induction d with
  | zero =>
    intro j hj
    obtain rfl : j = 3 := by omega
    obtain ⟨e1, e2⟩ := hrdp 3
    refine next ?_
    simp only [spec_l5Minimal.l1, if_neg (show ¬ ((3 : Nat) : Int) < 3 by decide), if_pos (show (0 : Int) ≤ (i : Int) by omega), if_pos (show (i : Int) < ((adds L ((succC nx cl p).take 3)).length : Int) by omega), e1, if_pos hps.1, if_pos hps.2, if_pos (show A.length < 140737488355328 by omega), if_pos (show B.length < 5864062014805 by omega)]
    rw [up1 (by have := hRl 3; omega), List.take_of_length_le (by omega)]
    exact h
  | succ d ih =>
    intro j hj
    obtain ⟨e1, e2⟩ := hrdp j
    have hjr : j < (rd_L1 nx p).length := by rw [hr.1]; omega
    have hy := hr.2 _ (List.getElem_mem hjr)
    have hyr := rd_get (rd_L1 nx p) j hjr
    have hsj : (succC nx cl p)[j]'(by omega) = rd cl (rd (rd_L1 nx p) (j : Int)) := by
      rw [hyr]
      unfold succC
      rw [List.getElem_map]
      rfl
    have hrl : (((succC nx cl p).take j).map fun y => (R.idxOf y : Int)).length ≤ 3 := by rw [List.length_map, List.length_take]; omega
    have IH := ih (j + 1) (by omega)
    have hpj1 := (hpj (j + 1)).trans hpre
    rw [List.take_succ_eq_append_getElem (by omega), hsj, adds_append, List.map_append, List.map_singleton] at IH
    rw [List.take_succ_eq_append_getElem (by omega), hsj, adds_append] at hpj1
    rw [← hyr] at hy
    have hLl := hRl j
    refine next ?_
    simp only [spec_l5Minimal.l1, if_pos (show (j : Int) < 3 by omega), if_pos (show (0 : Int) ≤ (i : Int) by omega), if_pos (show (i : Int) < ((adds L ((succC nx cl p).take j)).length : Int) by omega), e1, if_pos hps.1, if_pos (show p < (nx.length : Int) by omega), if_pos (show (0 : Int) ≤ (j : Int) by omega), if_pos (show (j : Int) < ((rd_L1 nx p).length : Int) by omega), if_pos hy.1, if_pos (show rd (rd_L1 nx p) (j : Int) < (cl.length : Int) by omega)]
    generalize rd cl (rd (rd_L1 nx p) (j : Int)) = y at IH hpj1 ⊢
    generalize hLe : adds L ((succC nx cl p).take j) = L' at IH hpj1 hLl ⊢
    generalize (((succC nx cl p).take j).map fun y => (R.idxOf y : Int)) = row at IH hrl ⊢
    have hadd : adds L' [y] = add L' y := rfl
    rw [hadd] at IH hpj1
    refine (find_ev L' y (by omega)).bind ?_
    by_cases hm : y ∈ L'
    · have hf1 : findOf L' y = (L'.idxOf y : Int) := by unfold findOf; rw [if_pos hm]
      have hge : ¬ findOf L' y < 0 := by rw [hf1]; omega
      simp only [if_neg hge]
      refine (find_ev L' y (by omega)).bind ?_
      simp only [if_pos (show row.length < 17592186044416 by omega)]
      rw [up1 (by omega), hf1]
      rw [add_in hm] at IH hpj1
      rw [idxOf_pre hpj1 hm] at IH
      exact IH
    · have hf1 : findOf L' y < 0 := by unfold findOf; rw [if_neg hm]; decide
      simp only [if_pos hf1, if_pos (show L'.length < 17592186044416 by omega), Option.bind_some]
      rw [add_out hm] at IH hpj1
      refine (find_ev (L' ++ [y]) y (by simp; omega)).bind ?_
      have hm2 : y ∈ L' ++ [y] := by simp
      have hf2 : findOf (L' ++ [y]) y = ((L' ++ [y]).idxOf y : Int) := by unfold findOf; rw [if_pos hm2]
      simp only [if_pos (show row.length < 17592186044416 by omega)]
      rw [up1 (by omega), hf2]
      rw [idxOf_pre hpj1 hm2] at IH
      exact IH
theorem outer_ev (hf : Fits acc nx) (hc : Cls acc nx cl) {L R : List Int} {i : Nat} (h : Runs (succC nx cl) L i R) : R.length ≤ 1100000 → (∀ x ∈ L, x ∈ states acc.length) → i ≤ L.length →
    Ev (fun k => spec_l5Minimal.l0 k cl L (i : Int) acc nx ((L.take i).map (rdOf false acc)) ((L.take i).map (rowR nx cl R))) (R.map (rdOf false acc), R.map (rowR nx cl R)) := by
  induction h with
  | @stop L i h =>
    intro hR hL hi
    refine next ?_
    simp only [spec_l5Minimal.l0, if_neg (show ¬ (i : Int) < (L.length : Int) by omega)]
    rw [List.take_of_length_le h]
    exact ev_some rfl
  | @step L R i h hr ih =>
    intro hR hL hi
    have hp := hL _ (List.getElem_mem h)
    have hL2 : ∀ x ∈ adds L (succC nx cl L[i]), x ∈ states acc.length := fun x hx => by
      rcases mem_adds.mp hx with q | q
      · exact hL x q
      · obtain ⟨z, hz, rfl⟩ := List.mem_map.mp q
        exact (hc.rep z (mem_states.mpr ((hf.row _ (mem_states.mp hp)).2 z hz))).1
    have hpre := adds_pre (succC nx cl L[i]) L
    have IH := ih hR hL2 (by have := hpre.length_le; omega)
    have et : (adds L (succC nx cl L[i])).take (i + 1) = L.take i ++ [L[i]] := by
      obtain ⟨t, ht⟩ := hpre
      rw [← ht, List.take_append_of_le_length (by omega), List.take_succ_eq_append_getElem h]
    rw [et, List.map_append, List.map_append, List.map_singleton, List.map_singleton] at IH
    have hLR := hr.pre.length_le
    have hLl := hpre.length_le
    refine next ?_
    simp only [spec_l5Minimal.l0, if_pos (show (i : Int) < (L.length : Int) by omega)]
    have := inner_ev hf hc.len L R i h hp hr.pre hR _ _ (by simp; omega) (by simp; omega) IH 3 0 (by omega)
    rw [List.take_zero, adds_nil] at this
    simpa using this
theorem spec_min (hf : Fits acc nx) (h1 : 1 ≤ acc.length) (hb : acc.length ≤ 1100000) : ∃ out, Ev (fun k => spec_l5Minimal.f k acc nx) out ∧ IsCan (lang acc nx 0) out := by
  have hc := cls_good hf
  have hev := cls_ev hf hb
  generalize iterS nx (acc.length + 1) (cl0 acc) = cl at hc hev
  have h0 : (0 : Int) ∈ states acc.length := mem_states.mpr (by omega)
  have hc0 := hc.rep 0 h0
  have hdom : ∀ x, x ∈ states acc.length → ∀ y ∈ succC nx cl x, y ∈ states acc.length := fun x hx y hy => by
    obtain ⟨z, hz, rfl⟩ := List.mem_map.mp hy
    exact (hc.rep z (mem_states.mpr ((hf.row _ (mem_states.mp hx)).2 z hz))).1
  obtain ⟨R, hR⟩ := Runs.ends (succ := succC nx cl) (dom := fun x => x ∈ states acc.length) (N := acc.length) hdom (fun s hn hs => card_n acc.length s hn (fun x hx => mem_states.mp (hs x hx))) acc.length [rd cl 0] 0 (by simp) (fun x hx => by rw [List.mem_singleton] at hx; subst hx; exact hc0.1) (by simp) (by omega)
  have hst : ∀ x ∈ R, x ∈ states acc.length := hR.all (p := fun x => x ∈ states acc.length) hdom (fun x hx => by rw [List.mem_singleton] at hx; subst hx; exact hc0.1)
  have hnd : R.Nodup := hR.nodup (by simp)
  have hRl : R.length ≤ acc.length := card_n acc.length R hnd (fun x hx => mem_states.mp (hst x hx))
  have hcls : ∀ x ∈ R, ∃ q ∈ states acc.length, x = rd cl q := by
    refine hR.all (p := fun x => ∃ q ∈ states acc.length, x = rd cl q) ?_ ?_
    · rintro x ⟨q, hq, rfl⟩ y hy
      obtain ⟨z, hz, rfl⟩ := List.mem_map.mp hy
      exact ⟨z, mem_states.mpr ((hf.row _ (mem_states.mp (hc.rep q hq).1)).2 z hz), rfl⟩
    · intro x hx
      rw [List.mem_singleton] at hx
      exact ⟨0, h0, hx⟩
  have hinj : ∀ a ∈ R, ∀ b ∈ R, lang acc nx a = lang acc nx b → a = b := by
    intro a ha b hb hab
    obtain ⟨p, hp, rfl⟩ := hcls a ha
    obtain ⟨q, hq, rfl⟩ := hcls b hb
    rw [(hc.rep p hp).2, (hc.rep q hq).2] at hab
    exact (hc.iff p hp q hq).mpr hab
  have hsm : ∀ x ∈ states acc.length, (succC nx cl x).map (lang acc nx) = lsucc (lang acc nx x) := fun x hx => by
    rw [← succ_lang hf (mem_states.mp hx)]
    unfold succC
    rw [List.map_map]
    exact List.map_congr_left fun z hz => (hc.rep z (mem_states.mpr ((hf.row _ (mem_states.mp hx)).2 z hz))).2
  have hcan := hR.map0 (dom := fun x => x ∈ states acc.length) (succ' := lsucc) (f := lang acc nx) hdom hsm hc0.1
  have hdd : dd (R.map (lang acc nx)) = R.map (lang acc nx) := by rw [dd_inj _ _ hinj, dd_id hnd]
  rw [hdd, hc0.2] at hcan
  refine ⟨(R.map (rdOf false acc), R.map (rowR nx cl R)), ?_, _, hcan, ?_⟩
  · have ho := outer_ev hf hc hR (by omega) (fun x hx => by rw [List.mem_singleton] at hx; subst hx; exact hc0.1) (by simp)
    refine hev.bind ?_
    simp only [if_pos (show (0 : Int) < (cl.length : Int) by have := hc.len; omega)]
    simpa using ho
  · unfold outL
    refine Prod.ext ?_ ?_
    · show R.map _ = _
      rw [List.map_map]
      rfl
    · show R.map (rowR nx cl R) = (R.map (lang acc nx)).map (fun X => (lsucc X).map (fun Y => ((R.map (lang acc nx)).idxOf Y : Int)))
      rw [List.map_map]
      refine List.map_congr_left fun x hx => ?_
      show rowR nx cl R x = (lsucc (lang acc nx x)).map (fun Y => ((R.map (lang acc nx)).idxOf Y : Int))
      rw [← hsm x (hst x hx), List.map_map]
      unfold rowR
      refine List.map_congr_left fun y hy => ?_
      have hyR := hR.closed (fun j _ hj => by omega) x hx y hy
      show (R.idxOf y : Int) = ((R.map (lang acc nx)).idxOf (lang acc nx y) : Int)
      rw [idxOf_inj (lang acc nx) R y (fun b hb h => hinj b hb y hyR h)]
theorem min_same (hf : Fits acc nx) (h1 : 1 ≤ acc.length) (hb : acc.length ≤ 1100000) : Ev (fun k => spec_l5Minimal.f k acc nx) (minD acc nx 0) := by
  obtain ⟨out, h, hc⟩ := spec_min hf h1 hb
  rw [hc.det (min_can hf (st := 0) (by omega))] at h
  exact h
end
end Go.Proofs.Ytogamkblkoobkaa.Can
end
section
namespace Go.Proofs.Ytogamkblkoobkaa.Rk
open Go.RowKit Go.Deep Go.ChangeShapes Go.WideShapes Go.Proofs.YtogamkblkoobkaaW.PrintWords Go.Proofs.YtogamkblkoobkaaW.PrintLast Go.Proofs.YtogamkblkoobkaaW.PrintMore
set_option linter.unusedVariables false
set_option linter.unusedSimpArgs false
variable {H : Type} {enc : TypeId × Value → H} {P : Program} {w : World} {base : Nat} {spare : Nat → Bool} {held : Bool} {α : Type}
def wfI (k : IntKind) (n : Int) : Prop := (Lit.int k n).wf = true
end Go.Proofs.Ytogamkblkoobkaa.Rk
end
section
namespace Go.Proofs.Ytogamkblkoobkaa.P
open Go.RowKit Go.Proofs.YtogamkblkoobkaaW.PrintWords Go.Proofs.YtogamkblkoobkaaW.PrintLast Go.Proofs.YtogamkblkoobkaaW.PrintMore
attribute [local go_sem] max2_int min2_int max_two min_two max_three min_three max_four min_four
set_option linter.unusedVariables false
set_option linter.unusedSimpArgs false
end Go.Proofs.Ytogamkblkoobkaa.P
end
section
namespace Go.Proofs.Ytogamkblkoobkaa.Pl
open Go.RowKit Go.Proofs.Ytogamkblkoobkaa.P Go.Proofs.YtogamkblkoobkaaW.PrintWords Go.Proofs.YtogamkblkoobkaaW.PrintLast Go.Proofs.YtogamkblkoobkaaW.PrintMore Wk
set_option linter.unusedVariables false
set_option linter.unusedSimpArgs false
theorem rows_get (xs : List (List Int)) (i : Nat) (h : i < xs.length) : rd_L1 xs i = xs[i] := by
  simp [rd_L1, List.getD_eq_getElem?_getD, h]
theorem spec_in (a lo hi : Int) : spec_l1In.f a lo hi = some (decide (lo ≤ a) && decide (a ≤ hi)) := by
  unfold spec_l1In.f
  by_cases h : a ≥ lo
  · rw [if_pos h, decide_eq_true (show lo ≤ a from h), Bool.true_and]
  · rw [if_neg h, decide_eq_false (show ¬ lo ≤ a from h), Bool.false_and]
theorem impl_in (a lo hi : Int) : impl_within.f a lo hi = some (decide (lo ≤ a) && decide (a ≤ hi)) := by
  unfold impl_within.f
  by_cases h : a ≥ lo
  · rw [if_pos h, decide_eq_true (show lo ≤ a from h), Bool.true_and]
  · rw [if_neg h, decide_eq_false (show ¬ lo ≤ a from h), Bool.false_and]
theorem badState_eq (n q : Int) : badState n q = !(decide (0 ≤ q) && decide (q ≤ n - 1)) := by
  unfold badState
  cases decide (0 ≤ q) <;> cases decide (q ≤ n - 1) <;> rfl
theorem spec_valid_l1 (acc : List Bool) (nxt : List (List Int)) (q : Nat) (hq : q < nxt.length) (hnl : nxt.length ≤ 1048576) (h3 : nxt[q].length = 3) (hn1 : 1 ≤ acc.length) (hn : acc.length ≤ 40) (res : Bool) (h : Ev (fun k => spec_IsValidDfa.l0 k (acc.length : Int) ((q + 1 : Nat) : Int) acc nxt) res) :
    ∀ d i : Nat, i + d = 3 → Ev (fun k => spec_IsValidDfa.l1 k (acc.length : Int) q i acc nxt) (if (nxt[q].drop i).any (badState acc.length) = true then false else res) := by
  intro d
  induction d with
  | zero =>
    intro i hd
    refine next ?_
    simp only [spec_IsValidDfa.l1, if_pos (show (0 : Int) ≤ q by omega), if_pos (show (q : Int) < (nxt.length : Int) by omega), rows_get nxt q hq, if_neg (show ¬ (i : Int) < (nxt[q].length : Int) by omega)]
    rw [List.drop_eq_nil_of_le (by omega), List.any_nil, if_neg (by simp)]
    simp only [up1 (show q < 9223372036854775807 by omega)]
    exact h
  | succ d ih =>
    intro i hd
    refine next ?_
    have hi : i < nxt[q].length := by omega
    have hw : wrap64 ((acc.length : Int) - 1) = (acc.length : Int) - 1 := w64 (by omega) (by omega)
    simp only [spec_IsValidDfa.l1, if_pos (show (0 : Int) ≤ q by omega), if_pos (show (q : Int) < (nxt.length : Int) by omega), rows_get nxt q hq, if_pos (show (i : Int) < (nxt[q].length : Int) by omega), if_pos (show (0 : Int) ≤ i by omega), rd_get nxt[q] i hi, spec_in, Option.bind_some, hw, up1 (show i < 9223372036854775807 by omega)]
    rw [List.drop_eq_getElem_cons hi, List.any_cons]
    have hbe := badState_eq (acc.length : Int) nxt[q][i]
    by_cases hb : badState acc.length nxt[q][i] = true
    · have hb2 : (decide (0 ≤ nxt[q][i]) && decide (nxt[q][i] ≤ (acc.length : Int) - 1)) = false := by
        rw [hb] at hbe
        cases hc : (decide (0 ≤ nxt[q][i]) && decide (nxt[q][i] ≤ (acc.length : Int) - 1)) with
        | true => rw [hc] at hbe; cases hbe
        | false => rfl
      simp only [hb2, Bool.false_ne_true, if_false, hb, Bool.true_or, if_true]
      exact Ev.now _
    · have hb2 : (decide (0 ≤ nxt[q][i]) && decide (nxt[q][i] ≤ (acc.length : Int) - 1)) = true := by
        rw [eq_false_of_ne_true hb] at hbe
        cases hc : (decide (0 ≤ nxt[q][i]) && decide (nxt[q][i] ≤ (acc.length : Int) - 1)) with
        | true => rfl
        | false => rw [hc] at hbe; cases hbe
      simp only [hb2, if_true, eq_false_of_ne_true hb, Bool.false_or]
      exact ih (i + 1) (by omega)
theorem spec_valid_l0 (acc : List Bool) (nxt : List (List Int)) (hl : nxt.length = acc.length) (hn1 : 1 ≤ acc.length) (hn : acc.length ≤ 40) :
    ∀ d q : Nat, q + d = acc.length → Ev (fun k => spec_IsValidDfa.l0 k (acc.length : Int) q acc nxt) (!((nxt.drop q).any (badRow acc.length))) := by
  intro d
  induction d with
  | zero =>
    intro q hd
    refine next ?_
    simp only [spec_IsValidDfa.l0, if_neg (show ¬ (q : Int) < (acc.length : Int) by omega)]
    exact ev_some (by rw [List.drop_eq_nil_of_le (by omega)]; rfl)
  | succ d ih =>
    intro q hd
    have hq : q < nxt.length := by omega
    refine next ?_
    simp only [spec_IsValidDfa.l0, if_pos (show (q : Int) < (acc.length : Int) by omega), if_pos (show (0 : Int) ≤ q by omega), if_pos (show (q : Int) < (nxt.length : Int) by omega), rows_get nxt q hq]
    rw [List.drop_eq_getElem_cons hq, List.any_cons]
    by_cases h3 : nxt[q].length = 3
    · simp only [if_pos (show (nxt[q].length : Int) = 3 by omega)]
      refine ev_eq (spec_valid_l1 acc nxt q hq (by omega) h3 hn1 hn _ (ih (q + 1) (by omega)) 3 0 rfl) ?_
      rw [List.drop_zero]
      have e : badRow acc.length nxt[q] = nxt[q].any (badState acc.length) := by simp [badRow, h3]
      rw [e]
      cases nxt[q].any (badState acc.length) <;> simp
    · simp only [if_neg (show ¬ (nxt[q].length : Int) = 3 by omega)]
      exact ev_some (by simp [badRow, h3])
theorem spec_valid (acc : List Bool) (nxt : List (List Int)) (ha : acc.length ≤ 1048576) (hn : nxt.length ≤ 1048576) : Ev (fun k => spec_IsValidDfa.f k acc nxt) (validD acc nxt) := by
  have jt : ∀ b : Bool, Ev (fun k => spec_IsValidDfa.j0 k (acc.length : Int) true acc nxt) false := by
    intro b
    refine next ?_
    simp only [spec_IsValidDfa.j0, if_true]
    exact Ev.now _
  simp only [spec_IsValidDfa.f, spec_in, Option.bind_some, validD]
  by_cases h : 1 ≤ acc.length ∧ acc.length ≤ 40
  · have e1 : (decide ((1 : Int) ≤ (acc.length : Int)) && decide ((acc.length : Int) ≤ 40)) = true := by
      rw [decide_eq_true (show (1 : Int) ≤ (acc.length : Int) by omega), decide_eq_true (show (acc.length : Int) ≤ 40 by omega)]; rfl
    simp only [e1, if_true, decide_eq_true h.1, decide_eq_true h.2, Bool.true_and]
    by_cases hl : nxt.length = acc.length
    · have e2 : ((nxt.length : Int) != (acc.length : Int)) = false := by rw [bne_eq_false_iff_eq]; omega
      simp only [e2, decide_eq_true hl, Bool.true_and]
      refine next ?_
      simp only [spec_IsValidDfa.j0, Bool.false_ne_true, if_false]
      exact spec_valid_l0 acc nxt hl h.1 h.2 acc.length 0 (by omega)
    · have e2 : ((nxt.length : Int) != (acc.length : Int)) = true := by rw [bne_iff_ne]; omega
      simp only [e2, decide_eq_false hl, Bool.false_and]
      exact jt true
  · have e1 : (decide ((1 : Int) ≤ (acc.length : Int)) && decide ((acc.length : Int) ≤ 40)) = false := by
      by_cases h1 : 1 ≤ acc.length
      · rw [decide_eq_false (show ¬ (acc.length : Int) ≤ 40 by omega), Bool.and_false]
      · rw [decide_eq_false (show ¬ (1 : Int) ≤ (acc.length : Int) by omega), Bool.false_and]
    have e2 : (decide (1 ≤ acc.length) && decide (acc.length ≤ 40)) = false := by
      by_cases h1 : 1 ≤ acc.length
      · rw [decide_eq_false (show ¬ acc.length ≤ 40 by omega), Bool.and_false]
      · rw [decide_eq_false h1, Bool.false_and]
    simp only [e1, e2, Bool.false_ne_true, if_false, Bool.false_and]
    exact jt true
theorem valid_facts {acc : List Bool} {nxt : List (List Int)} (h : validD acc nxt = true) : 1 ≤ acc.length ∧ acc.length ≤ 40 ∧ nxt.length = acc.length ∧ ∀ r ∈ nxt, r.length = 3 ∧ ∀ x ∈ r, 0 ≤ x ∧ x < (acc.length : Int) := by
  simp only [validD, Bool.and_eq_true, decide_eq_true_eq, Bool.not_eq_true', List.any_eq_false] at h
  obtain ⟨⟨⟨h1, h2⟩, h3⟩, h4⟩ := h
  refine ⟨h1, h2, h3, fun r hr => ?_⟩
  have := h4 r hr
  simp only [badRow, Bool.or_eq_true, decide_eq_true_eq, not_or, List.any_eq_true, not_exists, not_and] at this
  refine ⟨by omega, fun x hx => ?_⟩
  have hb := this.2 x hx
  rw [badState_eq] at hb
  simp at hb
  omega
theorem next_range {acc : List Bool} {nxt : List (List Int)} (h : validD acc nxt = true) (q : Int) (h0 : 0 ≤ q) (h1 : q < (acc.length : Int)) (i : Int) (hi0 : 0 ≤ i) (hi1 : i < 3) : (rd_L1 nxt q).length = 3 ∧ 0 ≤ rd (rd_L1 nxt q) i ∧ rd (rd_L1 nxt q) i < (acc.length : Int) := by
  obtain ⟨_, _, hl, hr⟩ := valid_facts h
  obtain ⟨n, rfl⟩ := Int.eq_ofNat_of_zero_le h0
  obtain ⟨j, rfl⟩ := Int.eq_ofNat_of_zero_le hi0
  have hn : n < nxt.length := by omega
  rw [rows_get nxt n hn]
  have h3 := hr nxt[n] (List.getElem_mem _)
  have hj : j < nxt[n].length := by omega
  rw [rd_get _ j hj]
  exact ⟨h3.1, h3.2 _ (List.getElem_mem _)⟩
end Go.Proofs.Ytogamkblkoobkaa.Pl
end
section
namespace Go.Proofs.Ytogamkblkoobkaa.P
open Go.RowKit Go.Proofs.YtogamkblkoobkaaW.PrintWords Go.Proofs.YtogamkblkoobkaaW.PrintLast Go.Proofs.YtogamkblkoobkaaW.PrintMore
attribute [local go_sem] max2_int min2_int max_two min_two max_three min_three max_four min_four
set_option linter.unusedVariables false
set_option linter.unusedSimpArgs false
end Go.Proofs.Ytogamkblkoobkaa.P
end
section
namespace Go.Proofs.Ytogamkblkoobkaa.P
open Go.RowKit Go.Proofs.YtogamkblkoobkaaW.PrintWords Go.Proofs.YtogamkblkoobkaaW.PrintLast Go.Proofs.YtogamkblkoobkaaW.PrintMore
attribute [local go_sem] max2_int min2_int max_two min_two max_three min_three max_four min_four
set_option linter.unusedVariables false
set_option linter.unusedSimpArgs false
def impl_IsValidDfa.f (l0_0 : List Bool) (l0_1 : List (List Int)) : Option (Bool) := some (Wk.validD l0_0 l0_1)
theorem impl_IsValidDfa.calls (A0_0 : Option Addr) (c0_0 : Nat) (l0_0 : List Bool) (A0_1 : Option Addr) (c0_1 : Nat) (l0_1 : List (List Int)) (r : Bool) (w : World) (hr0_0 : Kd.C Kd.bool w A0_0 l0_0.length l0_0) (hc0_0 : l0_0.length ≤ c0_0) (hr0_1 : Kd.C (Kd.slice 3 (Kd.int .i64)) w A0_1 l0_1.length l0_1) (hc0_1 : l0_1.length ≤ c0_1) (h : impl_IsValidDfa.f l0_0 l0_1 = some r) :
    Calls Try.prog 39 #[.agg #[.slice A0_0 l0_0.length c0_0, .slice A0_1 l0_1.length c0_1]] w fun e w' => e = .returned (.bool r) ∧ Below w.heap.size w w' := by
  obtain rfl := Option.some.inj h
  exact Wk.validCalls A0_0 c0_0 l0_0 A0_1 c0_1 l0_1 w hr0_0 hr0_1
end Go.Proofs.Ytogamkblkoobkaa.P
end
section
namespace Go.Proofs.Ytogamkblkoobkaa.P
open Go.RowKit Go.Proofs.YtogamkblkoobkaaW.PrintWords Go.Proofs.YtogamkblkoobkaaW.PrintLast Go.Proofs.YtogamkblkoobkaaW.PrintMore
attribute [local go_sem] max2_int min2_int max_two min_two max_three min_three max_four min_four
set_option linter.unusedVariables false
set_option linter.unusedSimpArgs false
end Go.Proofs.Ytogamkblkoobkaa.P
end
section
namespace Go.Proofs.Ytogamkblkoobkaa.Can
open Go.RowKit Go.Proofs.Ytogamkblkoobkaa Go.Proofs.Ytogamkblkoobkaa.P Go.Proofs.Ytogamkblkoobkaa.Wk Go.Proofs.Ytogamkblkoobkaa.Lg Go.Proofs.Ytogamkblkoobkaa.Pl Go.Proofs.Ytogamkblkoobkaa.Mp Go.Proofs.Ytogamkblkoobkaa.Bf Go.Proofs.Ytogamkblkoobkaa.Mn Go.Proofs.YtogamkblkoobkaaW.PrintWords Go.Proofs.YtogamkblkoobkaaW.PrintLast Go.Proofs.YtogamkblkoobkaaW.PrintMore
set_option linter.unusedVariables false
set_option linter.unusedSimpArgs false
set_option linter.unusedSectionVars false
theorem ldF_len : ∀ (m : List Int) (i : Nat) (ns ls : List Int), (ldF m i ns ls).2.length ≤ ls.length + m.length
  | [], i, ns, ls => by simp [ldF]
  | c :: m, i, ns, ls => by
    rw [ldF]
    split
    · have := ldF_len m (i + 1) ns ls
      simp only [List.length_cons]
      omega
    · have := ldF_len m (i + 1) (ns ++ [c]) (ls ++ [(i : Int)])
      simp only [List.length_append, List.length_cons, List.length_nil] at this ⊢
      omega
theorem refF_len (l1 : List (List Int)) (os : List Int) : ∀ (d : Nat) (cl : List Int) (c : Nat), cl.length = os.length → (refF l1 os d cl c).length = os.length
  | 0, cl, c, h => h
  | d + 1, cl, c, h => by
    rw [refF]
    have gl : (nmF (keys l1 os cl) [] []).2.length = os.length := by rw [nm_snd]; simp [keys]
    split
    · exact gl
    · exact refF_len l1 os d _ _ gl
theorem minD_len {acc : List Bool} {l1 : List (List Int)} (hf : Fits acc l1) {st : Int} (hst : 0 ≤ st ∧ st < (acc.length : Int)) : (minD acc l1 st).1.length ≤ acc.length ∧ (minD acc l1 st).2.length = (minD acc l1 st).1.length ∧ ∀ r ∈ (minD acc l1 st).2, r.length = 3 := by
  have h0 : ∀ x ∈ [st], 0 ≤ x ∧ x < (acc.length : Int) := fun x hx => by rw [List.mem_singleton] at hx; subst hx; exact hst
  have hR := ord_runs hf (acc.length + 2) [st] 0 (by simp) h0 (by omega)
  obtain ⟨R, hRR, hout⟩ := min_can hf hst
  have hlen : (minD acc l1 st).1.length ≤ acc.length := by
    unfold minD minT
    generalize ordF l1 (acc.length + 2) [st] 0 = os at hR
    have hn : os.Nodup := hR.nodup (by simp)
    have hdom := hR.all (p := fun x => 0 ≤ x ∧ x < (acc.length : Int)) (fun x hx y hy => (hf.row x hx).2 y hy) h0
    have h1 := refF_len l1 os (os.length + 2) (os.map (cls0 acc)) 0 (by simp)
    have h2 := card_n acc.length os hn hdom
    unfold outD
    simp only [List.length_map]
    have := ldF_len (refF l1 os (os.length + 2) (os.map (cls0 acc)) 0) 0 [] []
    simp only [List.length_nil] at this
    omega
  refine ⟨hlen, ?_, ?_⟩
  · rw [hout]
    simp [outL]
  · rw [hout]
    intro r hr
    unfold outL at hr
    obtain ⟨X, _, rfl⟩ := List.mem_map.mp hr
    simp [lsucc]
def minOf (acc : List Bool) (nx : List (List Int)) : List Bool × List (List Int) := if validD acc nx = true then minD acc nx 0 else ([], [])
theorem fits_valid {a : List Bool} {n : List (List Int)} (hv : validD a n = true) : Fits a n := by
  obtain ⟨h1, h2, h3, h4⟩ := validD_facts hv
  refine ⟨h3, fun q hq => ?_⟩
  have hlt : q.toNat < n.length := by omega
  unfold rowOf
  rw [List.getD_eq_getElem?_getD, List.getElem?_eq_getElem hlt]
  exact h4 _ (List.getElem_mem hlt)
theorem spec_minimize (a : List Bool) (n : List (List Int)) (ha : a.length ≤ 1048576) (hn : n.length ≤ 1048576) : Ev (fun k => spec_MinimizeDfa.f k a n) (minOf a n) := by
  simp only [spec_MinimizeDfa.f]
  refine Ev.bind (spec_valid a n ha hn) ?_
  unfold minOf
  by_cases hv : validD a n = true
  · simp only [hv, if_true]
    obtain ⟨h1, h2, h3, h4⟩ := validD_facts hv
    exact Ev.bind (min_same (fits_valid hv) h1 (by omega)) (Ev.now _)
  · simp only [if_neg hv]
    exact Ev.now _
end Go.Proofs.Ytogamkblkoobkaa.Can
end
section
namespace Go.Proofs.Ytogamkblkoobkaa.P
open Go.RowKit Go.Proofs.YtogamkblkoobkaaW.PrintWords Go.Proofs.YtogamkblkoobkaaW.PrintLast Go.Proofs.YtogamkblkoobkaaW.PrintMore
attribute [local go_sem] max2_int min2_int max_two min_two max_three min_three max_four min_four
set_option linter.unusedVariables false
set_option linter.unusedSimpArgs false
end Go.Proofs.Ytogamkblkoobkaa.P
end
section
namespace Go.Proofs.Ytogamkblkoobkaa.P
open Go.RowKit Go.Proofs.YtogamkblkoobkaaW.PrintWords Go.Proofs.YtogamkblkoobkaaW.PrintLast Go.Proofs.YtogamkblkoobkaaW.PrintMore
attribute [local go_sem] max2_int min2_int max_two min_two max_three min_three max_four min_four
set_option linter.unusedVariables false
set_option linter.unusedSimpArgs false
end Go.Proofs.Ytogamkblkoobkaa.P
end
section
namespace Go.Proofs
open Go.Shelf
def Try.lays137_ren : Go.Shelf.Ren := ⟨fun | 137 => 122 | 217 => 132 | 266 => 134 | n => n, fun | 9 => 9 | 5 => 5 | 3 => 3 | n => n, fun | n => n⟩
theorem Try.lays137 : Go.Proofs.Lays.n137 Try.prog Try.lays137_ren := {
  mixed := by kernel_rfl
  f137 := Try.func122.trans (congrArg some (by kernel_rfl))
  f217 := Try.func132.trans (congrArg some (by kernel_rfl))
  f266 := Try.func134.trans (congrArg some (by kernel_rfl))
  t3 := Try.underlying3
  a3 := Try.isAgg3
  z3 := Try.sizeOf3
  v3 := Try.zeroValue3
  t5 := Try.underlying5
  a5 := Try.isAgg5
  z5 := Try.sizeOf5
  v5 := Try.zeroValue5
  t9 := Try.underlying9
  a9 := Try.isAgg9
  z9 := Try.sizeOf9
  v9 := Try.zeroValue9 }
open Go.RowKit in
theorem Try.strings_IndexByte (s : ByteArray) (c : Int) (w : World) :
    Calls Try.prog 122 #[.string s, .int .u8 c] w fun e w' => e = .returned (.int .i64 (Lib.indexByte s.data.toList c.toNat.toUInt8)) ∧ w' = w := Any.strings_IndexByte Try.lays137 s c w
end Go.Proofs
end
section
namespace Go.Proofs.Ytogamkblkoobkaa.P
open Go.RowKit Go.Proofs.YtogamkblkoobkaaW.PrintWords Go.Proofs.YtogamkblkoobkaaW.PrintLast Go.Proofs.YtogamkblkoobkaaW.PrintMore
attribute [local go_sem] max2_int min2_int max_two min_two max_three min_three max_four min_four
set_option linter.unusedVariables false
set_option linter.unusedSimpArgs false
def strings_IndexByte.f (a0 : ByteArray) (a1 : Int) : Option (Int) := some (Lib.indexByte a0.data.toList a1.toNat.toUInt8)
theorem strings_IndexByte.calls (a0 : ByteArray) (a1 : Int) (r : Int) (w : World) (h : strings_IndexByte.f a0 a1 = some r) :
    Calls Try.prog 122 #[.string a0, .int .u8 a1] w fun e w' => e = .returned (.int .i64 r) ∧ Drawn0 w w' := by
  refine (Try.strings_IndexByte a0 a1 w).mono ?_
  rintro e w' ⟨rfl, rfl⟩
  obtain rfl := Option.some.inj h
  exact ⟨rfl, Drawn0.refl _⟩
def impl_LetterIndex.f (a0 : Int) : Option (Int) := (strings_IndexByte.f (⟨#[97, 98, 99]⟩ : ByteArray) a0).bind fun t319 => (some t319)
set_option maxHeartbeats 8000000 in
set_option maxRecDepth 100000 in
theorem impl_LetterIndex.calls (a0 : Int) (r : Int) (w : World) (h : impl_LetterIndex.f a0 = some r) :
    Calls Try.prog 72 #[.int .u8 a0] w fun e w' => e = .returned (.int .i64 r) ∧ Drawn0 w w' := by
  have H : ((strings_IndexByte.f (⟨#[97, 98, 99]⟩ : ByteArray) a0).bind fun t319 => (some t319)) = some r := h
  clear h
  replace H := Option.bind_eq_some_iff.mp H
  obtain ⟨t319, A20, H⟩ := H
  replace H : (some t319) = some r := H
  have A2 := am_ A20
  clear A20
  obtain rfl := Option.some.inj H
  simp only [Option.some.injEq, Prod.mk.injEq] at H
  obtain ⟨rfl⟩ := H
  go_enter Try.func72, Try.ntmps72
  go_wp2_with (first | ((with_reducible refine gate_callee (f := 122) rfl ?_); refine gL_ (some 4) Try.func122 #[.string (⟨#[97, 98, 99]⟩ : ByteArray), .int .u8 a0] ?_; (with_reducible refine (strings_IndexByte.calls (⟨#[97, 98, 99]⟩ : ByteArray) a0 t319 _ A2.out).mono ?_); rintro e w' ⟨rfl, ⟨nd, rfl⟩⟩; refine ⟨_, rfl, ?_⟩))
  go_ret
  exact ⟨by first | rfl | (simp; done) | (simp [*]; done), by repeat (first | exact Drawn0.refl _ | apply Drawn0.step)⟩
def impl_isLetters.l0 : Nat → ByteArray → Int → Option (Bool)
  | 0, _, _ => none
  | k + 1, x0, x3 => if x3 < (x0.size : Int) then (if 0 ≤ x3 then ((impl_LetterIndex.f (bt x0 x3)).bind fun t320 => (if t320 < 0 then (some false) else (impl_isLetters.l0 k x0 (wrap64 (x3 + 1))))) else (none)) else (some true)
def impl_isLetters.f (k : Nat) (a0 : ByteArray) : Option (Bool) := impl_isLetters.l0 k a0 0
theorem impl_isLetters.mono_l : ∀ k, (∀ y0 y1, LeO (impl_isLetters.l0 k y0 y1) (impl_isLetters.l0 (k + 1) y0 y1))
  | 0 => fun _ _ r h => by simp [impl_isLetters.l0] at h
  | k + 1 => by
    have ih0 := impl_isLetters.mono_l k
    · intro y0 y1
      unfold impl_isLetters.l0
      repeat' first
      | (with_reducible exact ih0 _ _)
      | (with_reducible exact LeO.refl _)
      | (with_reducible exact LeO.none _)
      | (with_reducible refine LeO.ite ?_ ?_)
      | (with_reducible refine LeO.bind ?_ (fun _ => ?_))
      | exact ih0 _ _
      | exact LeO.none _
      | refine LeO.ite ?_ ?_
      | refine LeO.bind ?_ (fun _ => ?_)
theorem impl_isLetters.mono : ∀ a0 k, LeO (impl_isLetters.f k a0) (impl_isLetters.f (k + 1) a0) := by
  intro a0 k
  have ih0 := impl_isLetters.mono_l k
  unfold impl_isLetters.f
  repeat' first
      | (with_reducible exact ih0 _ _)
      | (with_reducible exact LeO.refl _)
      | (with_reducible exact LeO.none _)
      | (with_reducible refine LeO.ite ?_ ?_)
      | (with_reducible refine LeO.bind ?_ (fun _ => ?_))
      | exact ih0 _ _
      | exact LeO.none _
      | refine LeO.ite ?_ ?_
      | refine LeO.bind ?_ (fun _ => ?_)
set_option maxHeartbeats 8000000 in
set_option maxRecDepth 100000 in
theorem impl_isLetters.calls (k : Nat) (a0 : ByteArray) (r : Bool) (w : World) (h : impl_isLetters.f k a0 = some r) :
    Calls Try.prog 121 #[.string a0] w fun e w' => e = .returned (.bool r) ∧ Drawn0 w w' := by
  have H : (impl_isLetters.l0 k a0 0) = some r := h
  clear h
  have H' := am_ H
  clear H
  go_enter Try.func121, Try.ntmps121
  go_wp2
  go_loopg [3] k (fun kq v3 w' => ∃ (x3_1 : Int), v3 = .int .i64 x3_1 ∧ Aside0 (impl_isLetters.l0 kq a0 x3_1 = some r) ∧ Aside0 (kq ≤ k) ∧ Drawn0 w w')
  case atStart => exact ⟨(0), (by first | rfl | (simp; done) | (simp [*]; done)), H', ⟨Nat.le_refl _⟩, by repeat (first | exact Drawn0.refl _ | apply Drawn0.step)⟩
  case round =>
    clear H'
    try clear c1
    obtain ⟨x3_1, rfl, HA, HK1, ⟨m1, rfl⟩⟩ := hrel
    cases gk with
    | zero => exact absurd HA.out (by simp [impl_isLetters.l0])
    | succ k1 =>
      have H := HA.out
      clear HA
      simp only [impl_isLetters.l0] at H
      by_cases c2 : x3_1 < (a0.size : Int)
      · rw [if_pos c2] at H
        have c2b0 : decide (x3_1 < (a0.size : Int)) = true := decide_eq_true c2
        clear c2
        by_cases c3 : 0 ≤ x3_1
        · rw [if_pos c3] at H
          have c3b0 : decide (0 ≤ x3_1) = true := decide_eq_true c3
          clear c3
          replace H := Option.bind_eq_some_iff.mp H
          obtain ⟨t320, A50, H⟩ := H
          have A5 := am_ A50
          clear A50
          by_cases c6 : t320 < 0
          · rw [if_pos c6] at H
            have c6b0 : decide (t320 < 0) = true := decide_eq_true c6
            clear c6
            obtain rfl := Option.some.inj H
            simp only [Option.some.injEq, Prod.mk.injEq] at H
            obtain ⟨rfl⟩ := H
            have p4 : 0 ≤ (x3_1 : Int) := of_decide_eq_true ah_
            have q4 : x3_1 < (a0.size : Int) := of_decide_eq_true ah_
            have hx4 := bt_at a0 x3_1
            replace p4 := eq_true p4
            replace q4 := eq_true q4
            go_wp2_with (first | ((with_reducible refine gate_callee (f := 72) rfl ?_); refine gL_ (some 13) Try.func72 #[.int .u8 (bt a0 x3_1)] ?_; (with_reducible refine (impl_LetterIndex.calls (bt a0 x3_1) t320 _ A5.out).mono ?_); rintro e w' ⟨rfl, ⟨nd, rfl⟩⟩; refine ⟨_, rfl, ?_⟩))
            go_ret
            exact ⟨by first | rfl | (simp; done) | (simp [*]; done), by repeat (first | exact Drawn0.refl _ | apply Drawn0.step)⟩
          · rw [if_neg c6] at H
            have c6b0 : decide (t320 < 0) = false := decide_eq_false c6
            clear c6
            have H' := am_ H
            clear H
            have p4 : 0 ≤ (x3_1 : Int) := of_decide_eq_true ah_
            have q4 : x3_1 < (a0.size : Int) := of_decide_eq_true ah_
            have hx4 := bt_at a0 x3_1
            replace p4 := eq_true p4
            replace q4 := eq_true q4
            go_wp2_with (first | ((with_reducible refine gate_callee (f := 72) rfl ?_); refine gL_ (some 13) Try.func72 #[.int .u8 (bt a0 x3_1)] ?_; (with_reducible refine (impl_LetterIndex.calls (bt a0 x3_1) t320 _ A5.out).mono ?_); rintro e w' ⟨rfl, ⟨nd, rfl⟩⟩; refine ⟨_, rfl, ?_⟩))
            go_roundg k1
            case measure => have := HK1.out; omega
            case rel => exact ⟨(wrap64 (x3_1 + 1)), (by first | rfl | (simp; done) | (simp [*]; done)), H', ⟨by have := HK1.out; omega⟩, by repeat (first | exact Drawn0.refl _ | apply Drawn0.step)⟩
        · rw [if_neg c3] at H
          exact absurd H (by simp)
      · rw [if_neg c2] at H
        have c2b0 : decide (x3_1 < (a0.size : Int)) = false := decide_eq_false c2
        clear c2
        obtain rfl := Option.some.inj H
        simp only [Option.some.injEq, Prod.mk.injEq] at H
        obtain ⟨rfl⟩ := H
        go_wp2
        go_ret
        exact ⟨by first | rfl | (simp; done) | (simp [*]; done), by repeat (first | exact Drawn0.refl _ | apply Drawn0.step)⟩
def impl_IsWord.f (k : Nat) (a0 : ByteArray) : Option (Bool) := if (a0.size : Int) ≤ 30 then ((impl_isLetters.f k a0).bind fun t321 => (some t321)) else (some false)
theorem impl_IsWord.mono : ∀ a0 k, LeO (impl_IsWord.f k a0) (impl_IsWord.f (k + 1) a0) := by
  intro a0 k
  unfold impl_IsWord.f
  repeat' first
      | (with_reducible exact impl_isLetters.mono _ _)
      | (with_reducible exact LeO.refl _)
      | (with_reducible exact LeO.none _)
      | (with_reducible refine LeO.ite ?_ ?_)
      | (with_reducible refine LeO.bind ?_ (fun _ => ?_))
      | exact impl_isLetters.mono _ _
      | exact LeO.none _
      | refine LeO.ite ?_ ?_
      | refine LeO.bind ?_ (fun _ => ?_)
set_option maxHeartbeats 8000000 in
set_option maxRecDepth 100000 in
theorem impl_IsWord.calls (k : Nat) (a0 : ByteArray) (r : Bool) (w : World) (h : impl_IsWord.f k a0 = some r) :
    Calls Try.prog 71 #[.string a0] w fun e w' => e = .returned (.bool r) ∧ Drawn0 w w' := by
  have H : (if (a0.size : Int) ≤ 30 then ((impl_isLetters.f k a0).bind fun t321 => (some t321)) else (some false)) = some r := h
  clear h
  by_cases c2 : (a0.size : Int) ≤ 30
  · rw [if_pos c2] at H
    have c2b0 : decide ((a0.size : Int) ≤ 30) = true := decide_eq_true c2
    have c2b1 : decide (a0.size ≤ 30) = true := decide_eq_true (by omega)
    clear c2
    replace H := Option.bind_eq_some_iff.mp H
    obtain ⟨t321, A30, H⟩ := H
    replace H : (some t321) = some r := H
    have A3 := am_ A30
    clear A30
    obtain rfl := Option.some.inj H
    simp only [Option.some.injEq, Prod.mk.injEq] at H
    obtain ⟨rfl⟩ := H
    go_enter Try.func71, Try.ntmps71
    go_wp2_with (first | (go_at_call 121; (with_reducible refine (impl_isLetters.calls k a0 t321 _ A3.out).mono ?_); rintro e w' ⟨rfl, ⟨nd, rfl⟩⟩))
    go_ret
    exact ⟨by first | rfl | (simp; done) | (simp [*]; done), by repeat (first | exact Drawn0.refl _ | apply Drawn0.step)⟩
  · rw [if_neg c2] at H
    have c2b0 : decide ((a0.size : Int) ≤ 30) = false := decide_eq_false c2
    have c2b1 : decide (a0.size ≤ 30) = false := decide_eq_false (by omega)
    clear c2
    obtain rfl := Option.some.inj H
    simp only [Option.some.injEq, Prod.mk.injEq] at H
    obtain ⟨rfl⟩ := H
    go_enter Try.func71, Try.ntmps71
    go_wp2
    go_ret
    exact ⟨by first | rfl | (simp; done) | (simp [*]; done), by repeat (first | exact Drawn0.refl _ | apply Drawn0.step)⟩
end Go.Proofs.Ytogamkblkoobkaa.P
end
section
namespace Go.Proofs.Ytogamkblkoobkaa.Pl
open Go.RowKit Go.Proofs.Ytogamkblkoobkaa.P Go.Proofs.YtogamkblkoobkaaW.PrintWords Go.Proofs.YtogamkblkoobkaaW.PrintLast Go.Proofs.YtogamkblkoobkaaW.PrintMore
set_option linter.unusedVariables false
set_option linter.unusedSimpArgs false
def letIdx (b : Int) : Int := if b = 97 then 0 else if b = 98 then 1 else if b = 99 then 2 else -1
theorem u8_eq {b : Int} (h0 : 0 ≤ b) (h1 : b ≤ 255) (c : Nat) (hc : c < 256) : (b.toNat.toUInt8 = UInt8.ofNat c) ↔ b = c := by
  constructor
  · intro h
    have := congrArg UInt8.toNat h
    simp at this
    omega
  · rintro rfl
    simp
theorem impl_letter {b : Int} (h0 : 0 ≤ b) (h1 : b ≤ 255) : impl_LetterIndex.f b = some (letIdx b) := by
  simp only [impl_LetterIndex.f, strings_IndexByte.f, Option.bind_some, letIdx]
  have e97 := u8_eq h0 h1 97 (by omega)
  have e98 := u8_eq h0 h1 98 (by omega)
  have e99 := u8_eq h0 h1 99 (by omega)
  congr 1
  by_cases h : b = 97
  · rw [h]; rfl
  · by_cases h2 : b = 98
    · rw [h2]; rfl
    · by_cases h3 : b = 99
      · rw [h3]; rfl
      · have n97 : ¬ b.toNat.toUInt8 = 97 := fun e => h (e97.mp e)
        have n98 : ¬ b.toNat.toUInt8 = 98 := fun e => h2 (e98.mp e)
        have n99 : ¬ b.toNat.toUInt8 = 99 := fun e => h3 (e99.mp e)
        rw [if_neg h, if_neg h2, if_neg h3]
        have q1 : ¬ (97 : UInt8) = b.toNat.toUInt8 := fun e => n97 e.symm
        have q2 : ¬ (98 : UInt8) = b.toNat.toUInt8 := fun e => n98 e.symm
        have q3 : ¬ (99 : UInt8) = b.toNat.toUInt8 := fun e => n99 e.symm
        simp only [Lib.indexByte, beq_iff_eq, n97, n98, n99, q1, q2, q3, if_false]
        rfl
def lets (l : List Int) : Bool := l.all fun b => decide (0 ≤ letIdx b)
def word (s : ByteArray) : Bool := lets (bytesOf s) && decide (s.size ≤ 30)
theorem letIdx_range (b : Int) : -1 ≤ letIdx b ∧ letIdx b ≤ 2 := by
  unfold letIdx
  split
  · omega
  · split
    · omega
    · split <;> omega
theorem impl_lets_l0 (s : ByteArray) (hs : s.size ≤ 140737488351232) : ∀ d i : Nat, i + d = s.size → Ev (fun k => impl_isLetters.l0 k s i) (lets ((bytesOf s).drop i)) := by
  intro d
  induction d with
  | zero =>
    intro i h
    refine next ?_
    simp only [impl_isLetters.l0, if_neg (show ¬ (i : Int) < (s.size : Int) by omega), drop_end s i (by omega)]
    exact ev_some (by simp [lets])
  | succ d ih =>
    intro i h
    refine next ?_
    simp only [impl_isLetters.l0, if_pos (show (i : Int) < (s.size : Int) by omega), if_pos (show (0 : Int) ≤ i by omega), impl_letter (bt_range s i).1 (bt_range s i).2, Option.bind_some]
    rw [drop_cons s i (by omega)]
    by_cases hl : letIdx (bt s i) < 0
    · simp only [if_pos hl]
      exact ev_some (by simp [lets, show ¬ 0 ≤ letIdx (bt s i) by omega])
    · simp only [if_neg hl, up1 (show i < 9223372036854775807 by omega)]
      exact ev_eq (ih (i + 1) (by omega)) (by simp [lets, show 0 ≤ letIdx (bt s i) by omega])
theorem impl_word (s : ByteArray) (hs : s.size ≤ 140737488351232) : Ev (fun k => impl_IsWord.f k s) (word s) := by
  simp only [impl_IsWord.f]
  by_cases h : s.size ≤ 30
  · simp only [if_pos (show (s.size : Int) ≤ 30 by omega)]
    refine Ev.bind (impl_lets_l0 s hs s.size 0 (by omega)) ?_
    exact ev_some (by simp [word, h])
  · simp only [if_neg (show ¬ (s.size : Int) ≤ 30 by omega)]
    exact ev_some (by simp [word, h])
end Go.Proofs.Ytogamkblkoobkaa.Pl
end
