/- Texts of the proof of FnShortest, put together. No condition. -/
import Derived.Test.YtogamkblkoobkaaQFnShortest2
import Derived.Test.YtogamkblkoobkaaQFnShortest4
import Derived.Test.YtogamkblkoobkaaQFnShortest5
import Derived.Test.YtogamkblkoobkaaQFnShortest6
import Derived.Test.YtogamkblkoobkaaQFnShortest8
import Derived.Test.YtogamkblkoobkaaQFnShortest9
import Derived.Test.YtogamkblkoobkaaQFnShortest10
section
namespace Go.Proofs.Ytogamkblkoobkaa.P
open Go.RowKit Go.Proofs.YtogamkblkoobkaaW.PrintWords Go.Proofs.YtogamkblkoobkaaW.PrintLast Go.Proofs.YtogamkblkoobkaaW.PrintMore
attribute [local go_sem] max2_int min2_int max_two min_two max_three min_three max_four min_four
set_option linter.unusedVariables false
set_option linter.unusedSimpArgs false
mutual
def laws_FnShortest.j0 : Nat → List Int → ByteArray → Bool → Bool → List Bool → List (List Int) → Option (Bool)
  | 0, _, _, _, _, _, _ => none
  | k + 1, x0, x4, x5, x44, x1192000, x1192001 => if x44 = true then (some false) else ((spec_WordsUpTo.f k 4).bind fun t1197 => (laws_FnShortest.l0 k x0 x4 x5 t1197 0 x1192000 x1192001))
def laws_FnShortest.l0 : Nat → List Int → ByteArray → Bool → List ByteArray → Int → List Bool → List (List Int) → Option (Bool)
  | 0, _, _, _, _, _, _, _ => none
  | k + 1, x0, x4, x5, x8, x9, x1192000, x1192001 => if x9 < (x8.length : Int) then (if 0 ≤ x9 then ((impl_AcceptsWord.f k x1192000 x1192001 (rdOf ByteArray.empty x8 x9)).bind fun t1201 => (if t1201 = true then (if x5 = true then ((impl_CompareWords.f (rdOf ByteArray.empty x8 x9) x4).bind fun t1203 => (if t1203 < 0 then (some false) else (laws_FnShortest.l0 k x0 x4 x5 x8 (wrap64 (x9 + 1)) x1192000 x1192001))) else (some false)) else (laws_FnShortest.l0 k x0 x4 x5 x8 (wrap64 (x9 + 1)) x1192000 x1192001))) else (none)) else ((spec_DrawIsIncluded.f k x0).bind fun bt1204 => ((spec_ProductDfa.f bt1204.1 bt1204.2.1 bt1204.2.2.1 bt1204.2.2.2 6).bind fun bt1218 => (if bt1218.2.2 = true then ((impl_IsIncluded.f bt1204.1 bt1204.2.1 bt1204.2.2.1 bt1204.2.2.2).bind fun t1226 => ((spec_MinimizeDfa.f k bt1204.2.2.1 bt1204.2.2.2).bind fun bt1227 => ((spec_EqualDfa.f k bt1218.1 bt1218.2.1 bt1227.1 bt1227.2).bind fun t1233 => (some (t1226 == t1233))))) else (some true))))
end
def laws_FnShortest.f (k : Nat) (l0 : List Int) : Option (Bool) := (laws_big.f l0).bind fun t1184 => (if t1184 = true then (some true) else ((spec_DrawShortestWord.f k l0).bind fun bt1185 => ((impl_ShortestWord.f bt1185.1 bt1185.2).bind fun bt1192 => ((spec_ShortestWord.f k bt1185.1 bt1185.2).bind fun bt1194 => (if bt1192.1.toList = bt1194.1.toList then (if (bt1192.2 != bt1194.2) = true then (laws_FnShortest.j0 k l0 bt1192.1 bt1192.2 true bt1185.1 bt1185.2) else (if bt1192.2 = true then ((impl_AcceptsWord.f k bt1185.1 bt1185.2 bt1192.1).bind fun t1196 => (laws_FnShortest.j0 k l0 bt1192.1 bt1192.2 (!t1196) bt1185.1 bt1185.2)) else (laws_FnShortest.j0 k l0 bt1192.1 bt1192.2 false bt1185.1 bt1185.2))) else (laws_FnShortest.j0 k l0 bt1192.1 bt1192.2 true bt1185.1 bt1185.2))))))
theorem laws_FnShortest.mono_l : ∀ k, (∀ y0 y1 y2 y3 y4 y5, LeO (laws_FnShortest.j0 k y0 y1 y2 y3 y4 y5) (laws_FnShortest.j0 (k + 1) y0 y1 y2 y3 y4 y5)) ∧ (∀ y0 y1 y2 y3 y4 y5 y6, LeO (laws_FnShortest.l0 k y0 y1 y2 y3 y4 y5 y6) (laws_FnShortest.l0 (k + 1) y0 y1 y2 y3 y4 y5 y6))
 | 0 => ⟨fun _ _ _ _ _ _ r h => by simp [laws_FnShortest.j0] at h, fun _ _ _ _ _ _ _ r h => by simp [laws_FnShortest.l0] at h⟩
 | k + 1 => by
  obtain ⟨ih0, ih1⟩ := laws_FnShortest.mono_l k
  refine ⟨?_, ?_⟩
  ·intro y0 y1 y2 y3 y4 y5
   unfold laws_FnShortest.j0
   repeat' first
   | (with_reducible exact ih0 _ _ _ _ _ _)
   | (with_reducible exact ih1 _ _ _ _ _ _ _)
   | (with_reducible exact impl_AcceptsWord.mono _ _ _ _)
   | (with_reducible exact spec_DrawIsIncluded.mono _ _)
   | (with_reducible exact spec_DrawShortestWord.mono _ _)
   | (with_reducible exact spec_EqualDfa.mono _ _ _ _ _)
   | (with_reducible exact spec_MinimizeDfa.mono _ _ _)
   | (with_reducible exact spec_ShortestWord.mono _ _ _)
   | (with_reducible exact spec_WordsUpTo.mono _ _)
   | (with_reducible exact LeO.refl _)
   | (with_reducible exact LeO.none _)
   | (with_reducible refine LeO.ite ?_ ?_)
   | (with_reducible refine LeO.bind ?_ (fun _ => ?_))
   | exact ih0 _ _ _ _ _ _
   | exact ih1 _ _ _ _ _ _ _
   | exact impl_AcceptsWord.mono _ _ _ _
   | exact spec_DrawIsIncluded.mono _ _
   | exact spec_DrawShortestWord.mono _ _
   | exact spec_EqualDfa.mono _ _ _ _ _
   | exact spec_MinimizeDfa.mono _ _ _
   | exact spec_ShortestWord.mono _ _ _
   | exact spec_WordsUpTo.mono _ _
   | exact LeO.none _
   | refine LeO.ite ?_ ?_
   | refine LeO.bind ?_ (fun _ => ?_)
  ·intro y0 y1 y2 y3 y4 y5 y6
   unfold laws_FnShortest.l0
   repeat' first
   | (with_reducible exact ih0 _ _ _ _ _ _)
   | (with_reducible exact ih1 _ _ _ _ _ _ _)
   | (with_reducible exact impl_AcceptsWord.mono _ _ _ _)
   | (with_reducible exact spec_DrawIsIncluded.mono _ _)
   | (with_reducible exact spec_DrawShortestWord.mono _ _)
   | (with_reducible exact spec_EqualDfa.mono _ _ _ _ _)
   | (with_reducible exact spec_MinimizeDfa.mono _ _ _)
   | (with_reducible exact spec_ShortestWord.mono _ _ _)
   | (with_reducible exact spec_WordsUpTo.mono _ _)
   | (with_reducible exact LeO.refl _)
   | (with_reducible exact LeO.none _)
   | (with_reducible refine LeO.ite ?_ ?_)
   | (with_reducible refine LeO.bind ?_ (fun _ => ?_))
   | exact ih0 _ _ _ _ _ _
   | exact ih1 _ _ _ _ _ _ _
   | exact impl_AcceptsWord.mono _ _ _ _
   | exact spec_DrawIsIncluded.mono _ _
   | exact spec_DrawShortestWord.mono _ _
   | exact spec_EqualDfa.mono _ _ _ _ _
   | exact spec_MinimizeDfa.mono _ _ _
   | exact spec_ShortestWord.mono _ _ _
   | exact spec_WordsUpTo.mono _ _
   | exact LeO.none _
   | refine LeO.ite ?_ ?_
   | refine LeO.bind ?_ (fun _ => ?_)
theorem laws_FnShortest.mono : ∀ a0 k, LeO (laws_FnShortest.f k a0) (laws_FnShortest.f (k + 1) a0) := by
 intro a0 k
 obtain ⟨ih0, ih1⟩ := laws_FnShortest.mono_l k
 unfold laws_FnShortest.f
 repeat' first
   | (with_reducible exact ih0 _ _ _ _ _ _)
   | (with_reducible exact ih1 _ _ _ _ _ _ _)
   | (with_reducible exact impl_AcceptsWord.mono _ _ _ _)
   | (with_reducible exact spec_DrawIsIncluded.mono _ _)
   | (with_reducible exact spec_DrawShortestWord.mono _ _)
   | (with_reducible exact spec_EqualDfa.mono _ _ _ _ _)
   | (with_reducible exact spec_MinimizeDfa.mono _ _ _)
   | (with_reducible exact spec_ShortestWord.mono _ _ _)
   | (with_reducible exact spec_WordsUpTo.mono _ _)
   | (with_reducible exact LeO.refl _)
   | (with_reducible exact LeO.none _)
   | (with_reducible refine LeO.ite ?_ ?_)
   | (with_reducible refine LeO.bind ?_ (fun _ => ?_))
   | exact ih0 _ _ _ _ _ _
   | exact ih1 _ _ _ _ _ _ _
   | exact impl_AcceptsWord.mono _ _ _ _
   | exact spec_DrawIsIncluded.mono _ _
   | exact spec_DrawShortestWord.mono _ _
   | exact spec_EqualDfa.mono _ _ _ _ _
   | exact spec_MinimizeDfa.mono _ _ _
   | exact spec_ShortestWord.mono _ _ _
   | exact spec_WordsUpTo.mono _ _
   | exact LeO.none _
   | refine LeO.ite ?_ ?_
   | refine LeO.bind ?_ (fun _ => ?_)
def laws_FnShortest.T12 : Bool × List (List Nat × List Nat) := (true, [([], []), ([], []), ([], []), ([1, 2], [1, 2]), ([3], [3]), ([0, 4], [0, 4]), ([5, 5], [5]), ([6], [6]), ([7, 6], [6, 7]), ([8, 6, 6], [6, 8]), ([9], [9]), ([9], [9]), ([10, 11, 9], [9, 10, 11]), ([12, 9], [9, 12]), ([9], [9]), ([13, 14, 9, 9], [9, 13, 14]), ([15, 9], [9, 15]), ([9, 16, 6], [6, 9, 16]), ([6, 17], [6, 17])])
def laws_FnShortest.B12 : List Nat := [0, 0, 0, 6, 14, 31, 63, 127, 255, 511, 1023, 1023, 4095, 8191, 1023, 32767, 65535, 131071, 262143]
theorem laws_FnShortest.tab12 : rtab .any (opsOf Try.f11 12) = laws_FnShortest.T12 := by kernel_rfl
theorem laws_FnShortest.bits12 : waitsOk laws_FnShortest.T12.2 laws_FnShortest.B12 = true := by kernel_rfl
def laws_FnShortest.T16 : Bool × List (List Nat × List Nat) := (true, [([], []), ([0], [0]), ([1], [1]), ([2], [2]), ([2], [2]), ([3, 4, 2, 2], [2, 3, 4]), ([2], [2]), ([2], [2]), ([7, 5, 2], [2, 7]), ([6, 8, 8, 2], [2, 6, 8]), ([5, 9, 2], [2, 5, 9]), ([2, 10], [2, 10]), ([11, 9, 0, 1, 2, 3, 4, 5, 6, 7, 8, 9, 10, 11], [11])])
def laws_FnShortest.B16 : List Nat := [0, 1, 3, 7, 7, 31, 7, 7, 191, 511, 1023, 2047, 4095]
theorem laws_FnShortest.tab16 : rtab .any (opsOf Try.f11 16) = laws_FnShortest.T16 := by kernel_rfl
theorem laws_FnShortest.bits16 : waitsOk laws_FnShortest.T16.2 laws_FnShortest.B16 = true := by kernel_rfl
theorem zp57_0_ {p q g1 : Prop} (h : p) (h1 : g1) (c : p → g1 → q := by intro h_ h1_; repeat (first | (with_reducible first | exact h_ | apply below_alloc | apply pw_below_drewN | apply below_drew1 | refine below_set ?_ h1_) | exact h_)) : q := c h h1
theorem zp57_1_ {p q g1 g2 g3 g4 : Prop} (h : p) (h1 : g1) (h2 : g2) (h3 : g3) (h4 : g4) (c : p → g1 → g2 → g3 → g4 → q := by intro h_ h1_ h2_ h3_ h4_; repeat (first | (with_reducible first | exact h_ | apply below_alloc | apply pw_below_drewN | apply below_drew1 | refine below_set ?_ h1_ | refine below_set ?_ h2_ | refine below_set ?_ h3_ | refine below_set ?_ h4_) | exact h_)) : q := c h h1 h2 h3 h4
set_option maxHeartbeats 8000000 in
set_option maxRecDepth 100000 in
theorem laws_FnShortest.calls (k : Nat) (A0 : Option Addr) (c0 : Nat) (l0 : List Int) (r : Bool) (w : World) (hr0 : Kd.C (Kd.int .u8) w A0 l0.length l0) (hc0 : l0.length ≤ c0) (h : laws_FnShortest.f k l0 = some r) (hR : r = true) :
  Calls Try.prog 11 #[.slice A0 l0.length c0] w fun e w' => e = .returned (.bool r) ∧ Below w.heap.size w w' := by
 have hu27 := Try.underlying27
 have HR0 := am_ hr0
 have HC0 := am_ hc0
 clear hr0 hc0
 have HB := am_ (Below.refl w.heap.size w)
 have H : ((laws_big.f l0).bind fun t1184 => (if t1184 = true then (some true) else ((spec_DrawShortestWord.f k l0).bind fun bt1185 => ((impl_ShortestWord.f bt1185.1 bt1185.2).bind fun bt1192 => ((spec_ShortestWord.f k bt1185.1 bt1185.2).bind fun bt1194 => (if bt1192.1.toList = bt1194.1.toList then (if (bt1192.2 != bt1194.2) = true then (laws_FnShortest.j0 k l0 bt1192.1 bt1192.2 true bt1185.1 bt1185.2) else (if bt1192.2 = true then ((impl_AcceptsWord.f k bt1185.1 bt1185.2 bt1192.1).bind fun t1196 => (laws_FnShortest.j0 k l0 bt1192.1 bt1192.2 (!t1196) bt1185.1 bt1185.2)) else (laws_FnShortest.j0 k l0 bt1192.1 bt1192.2 false bt1185.1 bt1185.2))) else (laws_FnShortest.j0 k l0 bt1192.1 bt1192.2 true bt1185.1 bt1185.2))))))) = some r := h
 clear h
 replace H := Option.bind_eq_some_iff.mp H
 obtain ⟨t1184, A20, H⟩ := H
 have A2 := am_ A20
 clear A20
 by_cases c3 : t1184 = true
 ·subst c3
  have H1 : (some true) = some r := by rw [if_pos rfl] at H; exact H
  clear H
  have H := H1
  clear H1
  obtain rfl := Option.some.inj H
  simp only [Option.some.injEq, Prod.mk.injEq] at H
  obtain ⟨rfl⟩ := H
  go_enter Try.func11, Try.ntmps11
  go_wp2_with (first | ((with_reducible refine gate_callee (f := 27) rfl ?_); refine gL_ (some 15) Try.func27 #[.slice A0 l0.length c0] ?_; (with_reducible refine (laws_big.calls _ _ l0 true _ ?side1 ?side2 A2.out).mono ?_); (case side1 => exact rc_ HR0.out); (case side2 => exact HC0.out); rintro e w' ⟨rfl, ⟨nd, rfl⟩⟩; refine ⟨_, rfl, ?_⟩))
  go_ret
  exact ⟨by first | rfl | (simp [errW_none, errW_some] <;> rfl) | (simp [*, errW_none, errW_some] <;> rfl), by repeat (first | (with_reducible first | exact HB.out | apply below_alloc | apply pw_below_drewN | apply below_drew1) | exact HB.out)⟩
 ·replace c3 := Bool.eq_false_iff.mpr c3
  subst c3
  have H1 : ((spec_DrawShortestWord.f k l0).bind fun bt1185 => ((impl_ShortestWord.f bt1185.1 bt1185.2).bind fun bt1192 => ((spec_ShortestWord.f k bt1185.1 bt1185.2).bind fun bt1194 => (if bt1192.1.toList = bt1194.1.toList then (if (bt1192.2 != bt1194.2) = true then (laws_FnShortest.j0 k l0 bt1192.1 bt1192.2 true bt1185.1 bt1185.2) else (if bt1192.2 = true then ((impl_AcceptsWord.f k bt1185.1 bt1185.2 bt1192.1).bind fun t1196 => (laws_FnShortest.j0 k l0 bt1192.1 bt1192.2 (!t1196) bt1185.1 bt1185.2)) else (laws_FnShortest.j0 k l0 bt1192.1 bt1192.2 false bt1185.1 bt1185.2))) else (laws_FnShortest.j0 k l0 bt1192.1 bt1192.2 true bt1185.1 bt1185.2))))) = some r := by rw [if_neg (show ¬ (false = true) by decide)] at H; exact H
  clear H
  have H := H1
  clear H1
  replace H := Option.bind_eq_some_iff.mp H
  obtain ⟨⟨t1185, t1188⟩, A40, H⟩ := H
  have A4 := am_ A40
  clear A40
  replace H := Option.bind_eq_some_iff.mp H
  obtain ⟨⟨t1192, t1193⟩, A50, H⟩ := H
  have A5 := am_ A50
  clear A50
  replace H := Option.bind_eq_some_iff.mp H
  obtain ⟨⟨t1194, t1195⟩, A60, H⟩ := H
  have A6 := am_ A60
  clear A60
  have HC7 := am_ H
  clear H
  go_enter Try.func11, Try.ntmps11
  go_upto_region 6 with (first | ((with_reducible refine gate_callee (f := 27) rfl ?_); refine gL_ (some 15) Try.func27 #[.slice A0 l0.length c0] ?_; (with_reducible refine (laws_big.calls _ _ l0 false _ ?side1 ?side2 A2.out).mono ?_); (case side1 => exact rc_ HR0.out); (case side2 => exact HC0.out); rintro e w' ⟨rfl, ⟨nd, rfl⟩⟩; refine ⟨_, rfl, ?_⟩) | ((with_reducible refine gate_callee (f := 46) rfl ?_); refine gL_ (some 17) Try.func46 #[.slice A0 l0.length c0] ?_; (with_reducible refine (spec_DrawShortestWord.calls k _ _ l0 t1185 t1188 _ ?side1 ?side2 A4.out).mono ?_); (case side1 => exact rc_ HR0.out); (case side2 => exact HC0.out); rintro e w8 ⟨v1186, v1189, rfl, ho0, ho1, hb⟩; refine ⟨_, rfl, ?_⟩; replace HO1187 := am_ (Kd.R_lower ho0 (below_size (b0_ HB.out))); replace HO1190 := am_ (Kd.S_lower ho1 (below_size (b0_ HB.out))); replace HB := am_ (below_step (b0_ HB.out) hb); (try clear hb); (try clear hb2); (try clear hk); (try clear hi); (try clear ho0); (try clear ho1)) | ((with_reducible refine gate_dst (N := 3) rfl ?_); refine box_event ?hg (N := 3) ?hd (cs := #[.slice none 0 0, .slice none 0 0]) (t := 27) ?hr ?_; (case hd => rfl); (case hg => rfl); (case hr => first | (go_simp; done) | (go_simp; rfl)); intro gb1191 hg w9 hbox hb; have n0_ := am_ (Kd.R_below (rr_ HO1187.out) hb); have n1_ := am_ (Kd.S_below (rs_ HO1190.out) hb); have n2_ := am_ (below_step (b0_ HB.out) hb); have n3_ := am_ (hbox); have n4_ := am_ ((by rw [hg]; exact (below_size (b0_ HB.out)) : w.heap.size ≤ gb1191)); have n5_ := am_ ((by rw [hg]; exact (below_size (b0_ HB.out)) : w.heap.size ≤ gb1191)); clear HO1187; clear HO1190; clear HB; have HO1187 := n0_; have HO1190 := n1_; have HB := n2_; have BK1191 := n3_; have GW1191 := n4_; have GE1191 := n5_; clear n0_ n1_ n2_ n3_ n4_ n5_; clear hb hbox hg; obtain ⟨Ao10, co10, eo10⟩ := Kd.R_slice HO1187.out; subst eo10; have hcz11_0 : w9.cell? ⟨gb1191, 0, none⟩ = some (.slice none 0 0) := (blk_cell BK1191.out 0).trans rfl; have hcz11_1 : w9.cell? ⟨gb1191, 1, none⟩ = some (.slice none 0 0) := (blk_cell BK1191.out 1).trans rfl; have hfz11_0 := blk_frozen BK1191.out 0; have hfz11_1 := blk_frozen BK1191.out 1; obtain ⟨Ao12, co12, eo12⟩ := Kd.S_slice HO1190.out; subst eo12) | ((with_reducible refine gate_callee (f := 47) rfl ?_); refine gL_ (some 20) Try.func47 #[.agg #[.slice Ao10 t1185.length co10, .slice Ao12 t1188.length co12]] ?_; (with_reducible refine (impl_ShortestWord.calls _ _ t1185 _ _ t1188 t1192 t1193 _ ?side1 ?side2 ?side3 ?side4 A5.out).mono ?_); (case side1 => refine (Kd.R_reads' (e := 4) (base := w.heap.size) (ok := fun k_ => True) (n := t1185.length) (c := co10) ?_).2.2; exact (rr_ (Kd.R_mono (Kd.R_far (p := ⟨gb1191, 1, none⟩) (Kd.R_far (p := ⟨gb1191, 0, none⟩) (Kd.R_types HO1187.out BK1191.out (by decide)) (fun _ hk => hk.2) (.slice Ao10 t1185.length co10)) (fun _ hk => hk.2) (.slice Ao12 t1188.length co12)) (fun _ h_ => h_.1)))); (case side2 => exact (Kd.R_reads' HO1187.out).2.1); (case side3 => refine (Kd.S_reads' (e := 67) (base := w.heap.size) (ok := fun k_ => True) (n := t1188.length) (c := co12) ?_).2.2; exact (rs_ (Kd.S_mono (Kd.S_far (p := ⟨gb1191, 1, none⟩) (Kd.S_far (p := ⟨gb1191, 0, none⟩) (Kd.S_types HO1190.out BK1191.out (by decide)) (fun _ hk => hk.2) (.slice Ao10 t1185.length co10)) (fun _ hk => hk.2) (.slice Ao12 t1188.length co12)) (fun _ h_ => h_.1)))); (case side4 => exact (Kd.S_reads' HO1190.out).2.1); rintro e w13 ⟨rfl, hb⟩; refine ⟨_, rfl, ?_⟩; have n0_ := am_ (Kd.R_below (rr_ (Kd.R_mono (Kd.R_far (p := ⟨gb1191, 1, none⟩) (Kd.R_far (p := ⟨gb1191, 0, none⟩) (Kd.R_types HO1187.out BK1191.out (by decide)) (fun _ hk => hk.2) (.slice Ao10 t1185.length co10)) (fun _ hk => hk.2) (.slice Ao12 t1188.length co12)) (fun _ h_ => h_.1))) hb); have n1_ := am_ (Kd.S_below (rs_ (Kd.S_mono (Kd.S_far (p := ⟨gb1191, 1, none⟩) (Kd.S_far (p := ⟨gb1191, 0, none⟩) (Kd.S_types HO1190.out BK1191.out (by decide)) (fun _ hk => hk.2) (.slice Ao10 t1185.length co10)) (fun _ hk => hk.2) (.slice Ao12 t1188.length co12)) (fun _ h_ => h_.1))) hb); have n2_ := am_ (blk_below (g := gb1191) (o := .cells #[.slice Ao10 t1185.length co10, .slice Ao12 t1188.length co12] 27 (0, 0)) (by refine rb_ ?_; refine blk_put (cs := #[.slice Ao10 t1185.length co10, .slice none 0 0]) ?_ 1 _ rfl; refine rb_ ?_; refine blk_put (cs := #[.slice none 0 0, .slice none 0 0]) ?_ 0 _ rfl; refine rb_ ?_; exact BK1191.out) hb); have n3_ := am_ (below_step (b1_ HB.out GE1191.out) hb); clear HO1187; clear HO1190; clear BK1191; clear HB; have HO1187 := n0_; have HO1190 := n1_; have BK1191 := n2_; have HB := n3_; clear n0_ n1_ n2_ n3_; (try clear hb); (try clear hb2); (try clear hk); (try clear hi); have hcz14_0 : w13.cell? ⟨gb1191, 0, none⟩ = some (.slice Ao10 t1185.length co10) := (blk_cell BK1191.out 0).trans rfl; have hcz14_1 : w13.cell? ⟨gb1191, 1, none⟩ = some (.slice Ao12 t1188.length co12) := (blk_cell BK1191.out 1).trans rfl; have hfz14_0 := blk_frozen BK1191.out 0; have hfz14_1 := blk_frozen BK1191.out 1) | ((with_reducible refine gate_callee (f := 48) rfl ?_); refine gL_ (some 25) Try.func48 #[.agg #[.slice Ao10 t1185.length co10, .slice Ao12 t1188.length co12]] ?_; (with_reducible refine (spec_ShortestWord.calls k _ _ t1185 _ _ t1188 t1194 t1195 _ ?side1 ?side2 ?side3 ?side4 A6.out).mono ?_); (case side1 => exact rc_ ((Kd.R_reads' HO1187.out).2.2)); (case side2 => exact (Kd.R_reads' HO1187.out).2.1); (case side3 => exact rc_ ((Kd.S_reads' HO1190.out).2.2)); (case side4 => exact (Kd.S_reads' HO1190.out).2.1); rintro e w15 ⟨rfl, hb⟩; refine ⟨_, rfl, ?_⟩; have n0_ := am_ (Kd.R_below (rr_ HO1187.out) hb); have n1_ := am_ (Kd.S_below (rs_ HO1190.out) hb); have n2_ := am_ (blk_below (rb_ BK1191.out) hb); have n3_ := am_ (below_step (b1_ HB.out GE1191.out) hb); clear HO1187; clear HO1190; clear BK1191; clear HB; have HO1187 := n0_; have HO1190 := n1_; have BK1191 := n2_; have HB := n3_; clear n0_ n1_ n2_ n3_; (try clear hb); (try clear hb2); (try clear hk); (try clear hi)))
  (try simp only [Act.put, List.setIfInBounds_toArray, List.set_cons_zero, List.set_cons_succ])
  go_cut [44] (fun v44 wc => ∃ (kq : Nat) (x44_6 : Bool), v44 = .bool x44_6 ∧ Aside0 (laws_FnShortest.j0 kq l0 t1192 t1193 x44_6 t1185 t1188 = some r) ∧ Aside0 (kq ≤ k) ∧ Aside0 (Kd.R Kd.bool 4 wc w.heap.size (fun _ => True) (.slice Ao10 t1185.length co10) t1185) ∧ Aside0 (Kd.S (Kd.slice 3 (Kd.int .i64)) 67 wc w.heap.size (fun _ => True) (.slice Ao12 t1188.length co12) t1188) ∧ Aside0 (wc.heap[gb1191]? = some (.cells #[(.slice Ao10 t1185.length co10), (.slice Ao12 t1188.length co12)] 27 (0, 0))) ∧ Aside0 (Below w.heap.size w wc))
  case first =>
   have H := HC7.out
   clear HC7
   by_cases c16 : t1192.toList = t1194.toList
   ·rw [if_pos c16] at H
    have c16b0 : (t1192.toList == t1194.toList) = true := beq_iff_eq.mpr c16
    have c16b1 : (t1192.toList != t1194.toList) = false := bne_eq_false_iff_eq.mpr c16
    clear c16
    (first | rw [c16b0] | (simp only [i64_w, i32_w]; rw [c16b0]) | skip)
    by_cases c17 : (t1193 != t1195) = true
    ·rw [if_pos c17] at H
     have c17b0 : (t1193 != t1195) = true := c17
     (try (have c17b1 : decide (t1193 = t1195) = false := by simpa using c17))
     (try (have c17b2 : (t1193 == t1195) = false := by simpa using c17))
     (try (have c17b3 : ¬ (t1193 = t1195) := by simpa using c17))
     clear c17
     have H' := am_ H
     clear H
     go_wp2
     go_meet
     case rel => exact ⟨_, (true), (by first | rfl | (simp; done) | (simp [*]; done)), H', ⟨by first | omega | exact Nat.le_refl _⟩, ⟨by refine rr_ ?_; exact HO1187.out⟩, ⟨by refine rs_ ?_; exact HO1190.out⟩, ⟨by refine rb_ ?_; exact BK1191.out⟩, ⟨by exact zp57_0_ HB.out GE1191.out⟩⟩
    ·rw [if_neg c17] at H
     have c17b0 : (t1193 != t1195) = false := by simpa using c17
     (try (have c17b1 : decide (t1193 = t1195) = true := by simpa using c17))
     (try (have c17b2 : (t1193 == t1195) = true := by simpa using c17))
     clear c17
     by_cases c18 : t1193 = true
     ·subst c18
      have H1 : ((impl_AcceptsWord.f k t1185 t1188 t1192).bind fun t1196 => (laws_FnShortest.j0 k l0 t1192 true (!t1196) t1185 t1188)) = some r := by rw [if_pos rfl] at H; exact H
      clear H
      have H := H1
      clear H1
      replace H := Option.bind_eq_some_iff.mp H
      obtain ⟨t1196, A190, H⟩ := H
      replace H : (laws_FnShortest.j0 k l0 t1192 true (!t1196) t1185 t1188) = some r := H
      have A19 := am_ A190
      clear A190
      have H' := am_ H
      clear H
      have hcz20_0 : w15.cell? ⟨gb1191, 0, none⟩ = some (.slice Ao10 t1185.length co10) := (blk_cell BK1191.out 0).trans rfl
      have hcz20_1 : w15.cell? ⟨gb1191, 1, none⟩ = some (.slice Ao12 t1188.length co12) := (blk_cell BK1191.out 1).trans rfl
      have hfz20_0 := blk_frozen BK1191.out 0
      have hfz20_1 := blk_frozen BK1191.out 1
      go_wp2_with (first | (go_at_call 34; (with_reducible refine (impl_AcceptsWord.calls k _ _ t1185 _ _ t1188 t1192 t1196 _ ?side1 ?side2 ?side3 ?side4 A19.out).mono ?_); (case side1 => exact rc_ ((Kd.R_reads' HO1187.out).2.2)); (case side2 => exact (Kd.R_reads' HO1187.out).2.1); (case side3 => exact rc_ ((Kd.S_reads' HO1190.out).2.2)); (case side4 => exact (Kd.S_reads' HO1190.out).2.1); rintro e w21 ⟨rfl, hb⟩; have n0_ := am_ (Kd.R_below (rr_ HO1187.out) hb); have n1_ := am_ (Kd.S_below (rs_ HO1190.out) hb); have n2_ := am_ (blk_below (rb_ BK1191.out) hb); have n3_ := am_ (below_step (b1_ HB.out GE1191.out) hb); clear HO1187; clear HO1190; clear BK1191; clear HB; have HO1187 := n0_; have HO1190 := n1_; have BK1191 := n2_; have HB := n3_; clear n0_ n1_ n2_ n3_; (try clear hb); (try clear hb2); (try clear hk); (try clear hi)))
      go_meet
      case rel => exact ⟨_, (!t1196), (by first | rfl | (simp; done) | (simp [*]; done)), H', ⟨by first | omega | exact Nat.le_refl _⟩, ⟨by refine rr_ ?_; exact HO1187.out⟩, ⟨by refine rs_ ?_; exact HO1190.out⟩, ⟨by refine rb_ ?_; exact BK1191.out⟩, ⟨by exact zp57_0_ HB.out GE1191.out⟩⟩
     ·replace c18 := Bool.eq_false_iff.mpr c18
      subst c18
      have H1 : (laws_FnShortest.j0 k l0 t1192 false false t1185 t1188) = some r := by rw [if_neg (show ¬ (false = true) by decide)] at H; exact H
      clear H
      have H := H1
      clear H1
      have H' := am_ H
      clear H
      go_wp2
      go_meet
      case rel => exact ⟨_, (false), (by first | rfl | (simp; done) | (simp [*]; done)), H', ⟨by first | omega | exact Nat.le_refl _⟩, ⟨by refine rr_ ?_; exact HO1187.out⟩, ⟨by refine rs_ ?_; exact HO1190.out⟩, ⟨by refine rb_ ?_; exact BK1191.out⟩, ⟨by exact zp57_0_ HB.out GE1191.out⟩⟩
   ·rw [if_neg c16] at H
    have c16b0 : (t1192.toList == t1194.toList) = false := beq_eq_false_iff_ne.mpr c16
    have c16b1 : (t1192.toList != t1194.toList) = true := bne_iff_ne.mpr c16
    (first | rw [c16b0] | (simp only [i64_w, i32_w]; rw [c16b0]) | skip)
    have H' := am_ H
    clear H
    go_wp2
    go_meet
    case rel => exact ⟨_, (true), (by first | rfl | (simp; done) | (simp [*]; done)), H', ⟨by first | omega | exact Nat.le_refl _⟩, ⟨by refine rr_ ?_; exact HO1187.out⟩, ⟨by refine rs_ ?_; exact HO1190.out⟩, ⟨by refine rb_ ?_; exact BK1191.out⟩, ⟨by exact zp57_0_ HB.out GE1191.out⟩⟩
  case rest =>
   clear HC7
   try clear c1
   try clear c2
   try clear p2
   try clear c3
   try clear c4
   try clear c11
   try clear c16
   try clear c16b0
   try clear c16b1
   try clear c17
   try clear c17b0
   try clear c17b1
   try clear c17b2
   try clear c18
   try clear hcz11_0
   try clear hcz11_1
   try clear hcz14_0
   try clear hcz14_1
   try clear hcz20_0
   try clear hcz20_1
   try clear hfz11_0
   try clear hfz11_1
   try clear hfz14_0
   try clear hfz14_1
   try clear hfz20_0
   try clear hfz20_1
   obtain ⟨kq, x44_6, rfl, HA, HJ6, HO_1192000, HO_1192001, BK1191, HB⟩ := hcut
   cases kq with
   | zero => exact absurd HA.out (by simp [laws_FnShortest.j0])
   | succ kj6 =>
    have H := HA.out
    clear HA
    simp only [laws_FnShortest.j0] at H
    by_cases c22 : x44_6 = true
    ·subst c22
     have H1 : (some false) = some r := by rw [if_pos rfl] at H; exact H
     clear H
     have H := H1
     clear H1
     obtain rfl := Option.some.inj H
     exact absurd hR (by decide)
    ·replace c22 := Bool.eq_false_iff.mpr c22
     subst c22
     have H1 : ((spec_WordsUpTo.f kj6 4).bind fun t1197 => (laws_FnShortest.l0 kj6 l0 t1192 t1193 t1197 0 t1185 t1188)) = some r := by rw [if_neg (show ¬ (false = true) by decide)] at H; exact H
     clear H
     have H := H1
     clear H1
     replace H := Option.bind_eq_some_iff.mp H
     obtain ⟨t1197, A230, H⟩ := H
     replace H : (laws_FnShortest.l0 kj6 l0 t1192 t1193 t1197 0 t1185 t1188) = some r := H
     have A23 := am_ A230
     clear A230
     have H' := am_ H
     clear H
     go_wp2_with (first | ((with_reducible refine gate_callee (f := 40) rfl ?_); refine gL_ (some 45) Try.func40 #[.int .i64 4] ?_; (with_reducible refine (spec_WordsUpTo.calls kj6 4 t1197 _ A23.out).mono ?_); rintro e w24 ⟨v1198, rfl, ho0, hb⟩; refine ⟨_, rfl, ?_⟩; have n0_ := am_ (Kd.R_below (rr_ HO_1192000.out) hb); have n1_ := am_ (Kd.S_below (rs_ HO_1192001.out) hb); have n2_ := am_ (Kd.R_lower ho0 (below_size (b1_ HB.out GE1191.out))); have n3_ := am_ (blk_below (rb_ BK1191.out) hb); have n4_ := am_ (below_step (b1_ HB.out GE1191.out) hb); clear HO_1192000; clear HO_1192001; clear BK1191; clear HB; have HO_1192000 := n0_; have HO_1192001 := n1_; have HO1199 := n2_; have BK1191 := n3_; have HB := n4_; clear n0_ n1_ n2_ n3_ n4_; (try clear hb); (try clear hb2); (try clear hk); (try clear hi); (try clear ho0)))
     go_loopg [9] kj6 (fun kq v9 w' => ∃ (x9_2 : Int), v9 = .int .i64 x9_2 ∧ Aside0 (laws_FnShortest.l0 kq l0 t1192 t1193 t1197 x9_2 t1185 t1188 = some r) ∧ Aside0 (kq ≤ kj6) ∧ Aside0 (Kd.R Kd.string 9 w' w.heap.size (fun _ => True) v1198 t1197) ∧ Aside0 (Kd.R Kd.bool 4 w' w.heap.size (fun _ => True) (.slice Ao10 t1185.length co10) t1185) ∧ Aside0 (Kd.S (Kd.slice 3 (Kd.int .i64)) 67 w' w.heap.size (fun _ => True) (.slice Ao12 t1188.length co12) t1188) ∧ Aside0 (w'.heap[gb1191]? = some (.cells #[(.slice Ao10 t1185.length co10), (.slice Ao12 t1188.length co12)] 27 (0, 0))) ∧ Aside0 (Below w.heap.size w w'))
     case atStart => exact ⟨(0), (by first | rfl | (simp; done) | (simp [*]; done)), H', ⟨Nat.le_refl _⟩, ⟨by refine rr_ ?_; exact HO1199.out⟩, ⟨by refine rr_ ?_; exact HO_1192000.out⟩, ⟨by refine rs_ ?_; exact HO_1192001.out⟩, ⟨by refine rb_ ?_; exact BK1191.out⟩, ⟨by exact zp57_0_ HB.out GE1191.out⟩⟩
     case round =>
      clear H'
      try clear c1
      try clear c2
      try clear p2
      try clear c3
      try clear c4
      try clear c11
      try clear c16
      try clear c16b0
      try clear c16b1
      try clear c17
      try clear c17b0
      try clear c17b1
      try clear c17b2
      try clear c18
      try clear c22
      try clear hcz11_0
      try clear hcz11_1
      try clear hcz14_0
      try clear hcz14_1
      try clear hcz20_0
      try clear hcz20_1
      try clear hfz11_0
      try clear hfz11_1
      try clear hfz14_0
      try clear hfz14_1
      try clear hfz20_0
      try clear hfz20_1
      try clear p2
      obtain ⟨x9_2, rfl, HA, HK2, HO_8, HO_1192000, HO_1192001, BK1191, HB⟩ := hrel
      cases gk with
      | zero => exact absurd HA.out (by simp [laws_FnShortest.l0])
      | succ k2 =>
       have H := HA.out
       clear HA
       simp only [laws_FnShortest.l0] at H
       by_cases c25 : x9_2 < (t1197.length : Int)
       ·rw [if_pos c25] at H
        have c25b0 : decide (x9_2 < (t1197.length : Int)) = true := decide_eq_true c25
        clear c25
        by_cases c26 : 0 ≤ x9_2
        ·rw [if_pos c26] at H
         have c26b0 : decide (0 ≤ x9_2) = true := decide_eq_true c26
         clear c26
         replace H := Option.bind_eq_some_iff.mp H
         obtain ⟨t1201, A270, H⟩ := H
         have A27 := am_ A270
         clear A270
         by_cases c28 : t1201 = true
         ·subst c28
          have H1 : (if t1193 = true then ((impl_CompareWords.f (rdOf ByteArray.empty t1197 x9_2) t1192).bind fun t1203 => (if t1203 < 0 then (some false) else (laws_FnShortest.l0 k2 l0 t1192 t1193 t1197 (wrap64 (x9_2 + 1)) t1185 t1188))) else (some false)) = some r := by rw [if_pos rfl] at H; exact H
          clear H
          have H := H1
          clear H1
          by_cases c29 : t1193 = true
          ·subst c29
           have H1 : ((impl_CompareWords.f (rdOf ByteArray.empty t1197 x9_2) t1192).bind fun t1203 => (if t1203 < 0 then (some false) else (laws_FnShortest.l0 k2 l0 t1192 true t1197 (wrap64 (x9_2 + 1)) t1185 t1188))) = some r := by rw [if_pos rfl] at H; exact H
           clear H
           have H := H1
           clear H1
           replace H := Option.bind_eq_some_iff.mp H
           obtain ⟨t1203, A300, H⟩ := H
           have A30 := am_ A300
           clear A300
           by_cases c31 : t1203 < 0
           ·rw [if_pos c31] at H
            have c31b0 : decide (t1203 < 0) = true := decide_eq_true c31
            clear c31
            obtain rfl := Option.some.inj H
            exact absurd hR (by decide)
           ·rw [if_neg c31] at H
            have c31b0 : decide (t1203 < 0) = false := decide_eq_false c31
            clear c31
            have H' := am_ H
            clear H
            obtain ⟨Ao32, co32, eo32⟩ := Kd.R_slice HO_8.out
            subst eo32
            try go_wp2
            replace HO_8 := am_ (Kd.R_drew HO_8.out)
            replace HO_1192000 := am_ (Kd.R_drew HO_1192000.out)
            replace HO_1192001 := am_ (Kd.S_drew HO_1192001.out)
            replace BK1191 := am_ (blk_drew BK1191.out)
            replace HB := am_ (below_drew1 HB.out)
            have p1200 : 0 ≤ (x9_2 : Int) := of_decide_eq_true ah_
            have q1200 : x9_2 < (t1197.length : Int) := of_decide_eq_true ah_
            obtain ⟨ad1200, e1200, hx1200_0⟩ := Kd.at_string (Kd.R_reads' HO_8.out).2.2 x9_2 p1200 q1200
            cases e1200
            replace p1200 := eq_true p1200
            replace q1200 := eq_true q1200
            have p1202 : 0 ≤ (x9_2 : Int) := of_decide_eq_true ah_
            have q1202 : x9_2 < (t1197.length : Int) := of_decide_eq_true ah_
            obtain ⟨ad1202, e1202, hx1202_0⟩ := Kd.at_string (Kd.R_reads' HO_8.out).2.2 x9_2 p1202 q1202
            obtain rfl : ad1200 = ad1202 := (by injection e1202)
            replace p1202 := eq_true p1202
            replace q1202 := eq_true q1202
            refine start_ (n := 19) (S := fun w' => w'.cell? ⟨gb1191, 0, none⟩ = some (.slice Ao10 t1185.length co10) ∧ w'.cell? ⟨gb1191, 1, none⟩ = some (.slice Ao12 t1188.length co12) ∧ w'.cell? (ad1200.add (x9_2).toNat) = some (.string (rdOf ByteArray.empty t1197 x9_2)) ∧ w'.cell? (ad1200.add (x9_2).toNat) = some (.string (rdOf ByteArray.empty t1197 x9_2))) (ds := []) (bl 19 0) (by kernel_rfl) rfl rfl ⟨(blk_cell BK1191.out 0).trans rfl, (blk_cell BK1191.out 1).trans rfl, hx1200_0, hx1202_0⟩ (fun hHeld => ?_); refine with_tabW laws_FnShortest.tab12 laws_FnShortest.bits12 (fun HT_ HW_ => ?_)
            generalize wr.drew = w33 at HO_8 HO_1192000 HO_1192001 BK1191 HB hx1200_0 hx1202_0 hHeld ⊢
            refine pu_ 1 53 (bl 19 2) HT_ ?_
            refine pu_ 2 54 (bl 19 6) HT_ ?_
            refine pu_ 3 55 (bl 19 14) HT_ ?_
            refine tk_ 0 52 (bl 19 15) HT_ HW_ hHeld ?_
            refine tk_ 4 56 (bl 19 31) HT_ HW_ hHeld ?_
            refine one_ (i := 5) (N := some 57) (bl 19 63) rfl rfl (one_of HT_.out (by kernel_rfl)) (by decide) (fun K hK => ?_)
            refine gO_ Try.func34 #[.agg #[.slice Ao10 t1185.length co10, .slice Ao12 t1188.length co12], .string (rdOf ByteArray.empty t1197 x9_2)] ?_
            with_reducible refine (impl_AcceptsWord.calls k2 _ _ t1185 _ _ t1188 (rdOf ByteArray.empty t1197 x9_2) true _ ?side1 ?side2 ?side3 ?side4 A27.out).mono ?_
            (case side1 => exact rc_ ((Kd.R_reads' HO_1192000.out).2.2))
            (case side2 => exact (Kd.R_reads' HO_1192000.out).2.1)
            (case side3 => exact rc_ ((Kd.S_reads' HO_1192001.out).2.2))
            (case side4 => exact (Kd.S_reads' HO_1192001.out).2.1)
            rintro e w34 ⟨rfl, hb⟩
            have HS2_ := (hb.cell (World.block_lt_of_cell? _ _ (hHeld.2.2.1))).trans (hHeld.2.2.1)
            have HS3_ := (hb.cell (World.block_lt_of_cell? _ _ (hHeld.2.2.2))).trans (hHeld.2.2.2)
            refine ⟨_, rfl, ?_⟩
            replace HO_8 := am_ (Kd.R_below (rr_ HO_8.out) hb)
            replace HO_1192000 := am_ (Kd.R_below (rr_ HO_1192000.out) hb)
            replace HO_1192001 := am_ (Kd.S_below (rs_ HO_1192001.out) hb)
            replace BK1191 := am_ (blk_below (rb_ BK1191.out) hb)
            replace HB := am_ (below_step (b1_ HB.out GE1191.out) hb)
            (try clear hb)
            (try clear hb2)
            (try clear hk)
            (try clear hi)
            refine hK.out _ _ ⟨(blk_cell BK1191.out 0).trans rfl, (blk_cell BK1191.out 1).trans rfl, HS2_, HS3_⟩ (fun hHeld => ?_)
            clear hK K
            refine norm_ (a' := ?_) ?_ ?_
            rotate_left
            ·show Act.put _ (some 57) _ = _
             simp only [pn_, sz_, ss_, i64_w, i32_w]
             rfl
            refine pu_ 6 58 (bl 19 127) HT_ ?_
            refine pu_ 7 59 (bl 19 255) HT_ ?_
            refine pu_ 8 60 (bl 19 511) HT_ ?_
            refine pu_ 9 61 (bl 19 1023) HT_ ?_
            refine pu_ 10 62 (bl 19 2047) HT_ ?_
            refine pu_ 11 63 (bl 19 4095) HT_ ?_
            refine pu_ 12 64 (bl 19 8191) HT_ ?_
            refine pu_ 14 66 (bl 19 24575) HT_ ?_
            refine tk_ 13 65 (bl 19 32767) HT_ HW_ hHeld ?_
            refine one_ (i := 15) (N := some 67) (bl 19 65535) rfl rfl (one_of HT_.out (by kernel_rfl)) (by decide) (fun K hK => ?_)
            refine gO_ Try.func49 #[.string (rdOf ByteArray.empty t1197 x9_2), .string t1192] ?_
            with_reducible refine (impl_CompareWords.calls (rdOf ByteArray.empty t1197 x9_2) t1192 t1203 _ A30.out).mono ?_
            rintro e w' ⟨rfl, ⟨nd, rfl⟩⟩
            refine ⟨_, rfl, ?_⟩
            refine hK.out _ _ ⟨(blk_cell BK1191.out 0).trans rfl, (blk_cell BK1191.out 1).trans rfl, hHeld.2.2.1, hHeld.2.2.2⟩ (fun hHeld => ?_)
            clear hK K
            refine norm_ (a' := ?_) ?_ ?_
            rotate_left
            ·show Act.put _ (some 67) _ = _
             simp only [pn_, sz_, ss_, i64_w, i32_w]
             rfl
            refine pu_ 16 68 (bl 19 131071) HT_ ?_
            refine pu_ 17 69 (bl 19 262143) HT_ ?_
            refine pu_ 18 70 (bl 19 524287) HT_ ?_
            refine done_ (done_of HT_.out (by kernel_rfl)) ?_
            try go_wp2
            go_roundg k2
            case measure => have := HJ6.out; have := HK2.out; omega
            case rel => exact ⟨(wrap64 (x9_2 + 1)), (by first | rfl | (simp; done) | (simp [*]; done)), H', ⟨by have := HJ6.out; have := HK2.out; omega⟩, ⟨by refine rr_ ?_; exact HO_8.out⟩, ⟨by refine rr_ ?_; exact HO_1192000.out⟩, ⟨by refine rs_ ?_; exact HO_1192001.out⟩, ⟨by refine rb_ ?_; exact BK1191.out⟩, ⟨by exact zp57_0_ HB.out GE1191.out⟩⟩
          ·replace c29 := Bool.eq_false_iff.mpr c29
           subst c29
           have H1 : (some false) = some r := by rw [if_neg (show ¬ (false = true) by decide)] at H; exact H
           clear H
           have H := H1
           clear H1
           obtain rfl := Option.some.inj H
           exact absurd hR (by decide)
         ·replace c28 := Bool.eq_false_iff.mpr c28
          subst c28
          have H1 : (laws_FnShortest.l0 k2 l0 t1192 t1193 t1197 (wrap64 (x9_2 + 1)) t1185 t1188) = some r := by rw [if_neg (show ¬ (false = true) by decide)] at H; exact H
          clear H
          have H := H1
          clear H1
          have H' := am_ H
          clear H
          obtain ⟨Ao35, co35, eo35⟩ := Kd.R_slice HO_8.out
          subst eo35
          try go_wp2
          replace HO_8 := am_ (Kd.R_drew HO_8.out)
          replace HO_1192000 := am_ (Kd.R_drew HO_1192000.out)
          replace HO_1192001 := am_ (Kd.S_drew HO_1192001.out)
          replace BK1191 := am_ (blk_drew BK1191.out)
          replace HB := am_ (below_drew1 HB.out)
          have p1200 : 0 ≤ (x9_2 : Int) := of_decide_eq_true ah_
          have q1200 : x9_2 < (t1197.length : Int) := of_decide_eq_true ah_
          obtain ⟨ad1200, e1200, hx1200_0⟩ := Kd.at_string (Kd.R_reads' HO_8.out).2.2 x9_2 p1200 q1200
          cases e1200
          replace p1200 := eq_true p1200
          replace q1200 := eq_true q1200
          refine start_ (n := 19) (S := fun w' => w'.cell? ⟨gb1191, 0, none⟩ = some (.slice Ao10 t1185.length co10) ∧ w'.cell? ⟨gb1191, 1, none⟩ = some (.slice Ao12 t1188.length co12) ∧ w'.cell? (ad1200.add (x9_2).toNat) = some (.string (rdOf ByteArray.empty t1197 x9_2))) (ds := []) (bl 19 0) (by kernel_rfl) rfl rfl ⟨(blk_cell BK1191.out 0).trans rfl, (blk_cell BK1191.out 1).trans rfl, hx1200_0⟩ (fun hHeld => ?_); refine with_tabW laws_FnShortest.tab12 laws_FnShortest.bits12 (fun HT_ HW_ => ?_)
          generalize wr.drew = w36 at HO_8 HO_1192000 HO_1192001 BK1191 HB hx1200_0 hHeld ⊢
          refine pu_ 1 53 (bl 19 2) HT_ ?_
          refine pu_ 2 54 (bl 19 6) HT_ ?_
          refine pu_ 3 55 (bl 19 14) HT_ ?_
          refine tk_ 0 52 (bl 19 15) HT_ HW_ hHeld ?_
          refine tk_ 4 56 (bl 19 31) HT_ HW_ hHeld ?_
          refine one_ (i := 5) (N := some 57) (bl 19 63) rfl rfl (one_of HT_.out (by kernel_rfl)) (by decide) (fun K hK => ?_)
          refine gO_ Try.func34 #[.agg #[.slice Ao10 t1185.length co10, .slice Ao12 t1188.length co12], .string (rdOf ByteArray.empty t1197 x9_2)] ?_
          with_reducible refine (impl_AcceptsWord.calls k2 _ _ t1185 _ _ t1188 (rdOf ByteArray.empty t1197 x9_2) false _ ?side1 ?side2 ?side3 ?side4 A27.out).mono ?_
          (case side1 => exact rc_ ((Kd.R_reads' HO_1192000.out).2.2))
          (case side2 => exact (Kd.R_reads' HO_1192000.out).2.1)
          (case side3 => exact rc_ ((Kd.S_reads' HO_1192001.out).2.2))
          (case side4 => exact (Kd.S_reads' HO_1192001.out).2.1)
          rintro e w37 ⟨rfl, hb⟩
          have HS2_ := (hb.cell (World.block_lt_of_cell? _ _ (hHeld.2.2))).trans (hHeld.2.2)
          refine ⟨_, rfl, ?_⟩
          replace HO_8 := am_ (Kd.R_below (rr_ HO_8.out) hb)
          replace HO_1192000 := am_ (Kd.R_below (rr_ HO_1192000.out) hb)
          replace HO_1192001 := am_ (Kd.S_below (rs_ HO_1192001.out) hb)
          replace BK1191 := am_ (blk_below (rb_ BK1191.out) hb)
          replace HB := am_ (below_step (b1_ HB.out GE1191.out) hb)
          (try clear hb)
          (try clear hb2)
          (try clear hk)
          (try clear hi)
          refine hK.out _ _ ⟨(blk_cell BK1191.out 0).trans rfl, (blk_cell BK1191.out 1).trans rfl, HS2_⟩ (fun hHeld => ?_)
          clear hK K
          refine norm_ (a' := ?_) ?_ ?_
          rotate_left
          ·show Act.put _ (some 57) _ = _
           simp only [pn_, sz_, ss_, i64_w, i32_w]
           rfl
          refine pu_ 6 58 (bl 19 127) HT_ ?_
          refine pz_ 7 59 (bl 19 255) HT_ ?_
          refine pz_ 8 60 (bl 19 511) HT_ ?_
          refine pz_ 9 61 (bl 19 1023) HT_ ?_
          refine pz_ 10 62 (bl 19 2047) HT_ ?_
          refine pz_ 11 63 (bl 19 4095) HT_ ?_
          refine pz_ 12 64 (bl 19 8191) HT_ ?_
          refine pz_ 13 65 (bl 19 16383) HT_ ?_
          refine pz_ 14 66 (bl 19 32767) HT_ ?_
          refine pz_ 15 67 (bl 19 65535) HT_ ?_
          refine pz_ 16 68 (bl 19 131071) HT_ ?_
          refine pz_ 17 69 (bl 19 262143) HT_ ?_
          refine pu_ 18 70 (bl 19 524287) HT_ ?_
          refine done_ (done_of HT_.out (by kernel_rfl)) ?_
          try go_wp2
          go_roundg k2
          case measure => have := HJ6.out; have := HK2.out; omega
          case rel => exact ⟨(wrap64 (x9_2 + 1)), (by first | rfl | (simp; done) | (simp [*]; done)), H', ⟨by have := HJ6.out; have := HK2.out; omega⟩, ⟨by refine rr_ ?_; exact HO_8.out⟩, ⟨by refine rr_ ?_; exact HO_1192000.out⟩, ⟨by refine rs_ ?_; exact HO_1192001.out⟩, ⟨by refine rb_ ?_; exact BK1191.out⟩, ⟨by exact zp57_0_ HB.out GE1191.out⟩⟩
        ·rw [if_neg c26] at H
         exact absurd H (by simp)
       ·rw [if_neg c25] at H
        have c25b0 : decide (x9_2 < (t1197.length : Int)) = false := decide_eq_false c25
        clear c25
        replace H := Option.bind_eq_some_iff.mp H
        obtain ⟨⟨t1204, t1207, t1210, t1213⟩, A380, H⟩ := H
        have A38 := am_ A380
        clear A380
        replace H := Option.bind_eq_some_iff.mp H
        obtain ⟨⟨t1218, t1221, t1224⟩, A390, H⟩ := H
        have A39 := am_ A390
        clear A390
        by_cases c40 : t1224 = true
        ·subst c40
         have H1 : ((impl_IsIncluded.f t1204 t1207 t1210 t1213).bind fun t1226 => ((spec_MinimizeDfa.f k2 t1210 t1213).bind fun bt1227 => ((spec_EqualDfa.f k2 t1218 t1221 bt1227.1 bt1227.2).bind fun t1233 => (some (t1226 == t1233))))) = some r := by rw [if_pos rfl] at H; exact H
         clear H
         have H := H1
         clear H1
         replace H := Option.bind_eq_some_iff.mp H
         obtain ⟨t1226, A410, H⟩ := H
         have A41 := am_ A410
         clear A410
         replace H := Option.bind_eq_some_iff.mp H
         obtain ⟨⟨t1227, t1230⟩, A420, H⟩ := H
         have A42 := am_ A420
         clear A420
         replace H := Option.bind_eq_some_iff.mp H
         obtain ⟨t1233, A430, H⟩ := H
         replace H : (some (t1226 == t1233)) = some r := H
         have A43 := am_ A430
         clear A430
         obtain rfl := Option.some.inj H
         simp only [Option.some.injEq, Prod.mk.injEq] at H
         obtain ⟨rfl⟩ := H
         obtain ⟨Ao44, co44, eo44⟩ := Kd.R_slice HO_8.out
         subst eo44
         try go_wp2_with (first | ((with_reducible refine gate_callee (f := 50) rfl ?_); refine gL_ (some 73) Try.func50 #[.slice A0 l0.length c0] ?_; (with_reducible refine (spec_DrawIsIncluded.calls k2 _ _ l0 t1204 t1207 t1210 t1213 _ ?side1 ?side2 A38.out).mono ?_); (case side1 => exact rc_ (Kd.C_below HR0.out HB.out)); (case side2 => exact HC0.out); rintro e w45 ⟨v1205, v1208, v1211, v1214, rfl, ho0, ho1, ho2, ho3, hb⟩; refine ⟨_, rfl, ?_⟩; have n0_ := am_ (Kd.R_below (rr_ HO_8.out) hb); have n1_ := am_ (Kd.R_mono (Kd.R_told (Kd.R_told (Kd.R_old (rr_ HO_1192000.out) hb) (Kd.R_base ho0)) (Kd.R_base ho2)) (fun _ h_ => h_.1)); have n2_ := am_ (Kd.S_mono (Kd.S_told (Kd.S_told (Kd.S_old (rs_ HO_1192001.out) hb) (Kd.S_base ho1)) (Kd.S_base ho3)) (fun _ h_ => h_.1)); have n3_ := am_ (Kd.R_lower (Kd.R_new' ho0 (Kd.R_lt (rr_ HO_1192000.out))) (below_size (b1_ HB.out GE1191.out))); have n4_ := am_ (Kd.S_lower (Kd.S_new' ho1 (Kd.S_lt (rs_ HO_1192001.out))) (below_size (b1_ HB.out GE1191.out))); have n5_ := am_ (Kd.R_lower (Kd.R_new' ho2 (Kd.R_lt (rr_ HO_1192000.out))) (below_size (b1_ HB.out GE1191.out))); have n6_ := am_ (Kd.S_lower (Kd.S_new' ho3 (Kd.S_lt (rs_ HO_1192001.out))) (below_size (b1_ HB.out GE1191.out))); have n7_ := am_ (blk_below (rb_ BK1191.out) hb); have n8_ := am_ (below_step (b1_ HB.out GE1191.out) hb); clear HO_8; clear HO_1192000; clear HO_1192001; clear BK1191; clear HB; have HO_8 := n0_; have HO_1192000 := n1_; have HO_1192001 := n2_; have HO1206 := n3_; have HO1209 := n4_; have HO1212 := n5_; have HO1215 := n6_; have BK1191 := n7_; have HB := n8_; clear n0_ n1_ n2_ n3_ n4_ n5_ n6_ n7_ n8_; (try clear hb); (try clear hb2); (try clear hk); (try clear hi); (try clear ho0); (try clear ho1); (try clear ho2); (try clear ho3)) | ((with_reducible refine gate_dst (N := 10) rfl ?_); refine box_event ?hg (N := 10) ?hd (cs := #[.slice none 0 0, .slice none 0 0]) (t := 27) ?hr ?_; (case hd => rfl); (case hg => rfl); (case hr => first | (go_simp; done) | (go_simp; rfl)); intro gb1216 hg w46 hbox hb; have n0_ := am_ (Kd.R_below (rr_ HO_8.out) hb); have n1_ := am_ (Kd.R_below (rr_ HO_1192000.out) hb); have n2_ := am_ (Kd.S_below (rs_ HO_1192001.out) hb); have n3_ := am_ (Kd.R_below (rr_ HO1206.out) hb); have n4_ := am_ (Kd.S_below (rs_ HO1209.out) hb); have n5_ := am_ (Kd.R_below (rr_ HO1212.out) hb); have n6_ := am_ (Kd.S_below (rs_ HO1215.out) hb); have n7_ := am_ (blk_below (rb_ BK1191.out) hb); have n8_ := am_ (below_step (b1_ HB.out GE1191.out) hb); have n9_ := am_ (hbox); have n10_ := am_ ((by rw [hg]; exact (below_size (b1_ HB.out GE1191.out)) : w.heap.size ≤ gb1216)); have n11_ := am_ ((by rw [hg]; exact (below_size (b1_ HB.out GE1191.out)) : w.heap.size ≤ gb1216)); have n12_ := am_ ((by rw [hg]; exact Nat.ne_of_lt (blk_lt (rb_ BK1191.out)) : gb1191 ≠ gb1216)); have n13_ := am_ ((by rw [hg]; exact Nat.ne_of_gt (blk_lt (rb_ BK1191.out)) : gb1216 ≠ gb1191)); clear HO_8; clear HO_1192000; clear HO_1192001; clear HO1206; clear HO1209; clear HO1212; clear HO1215; clear BK1191; clear HB; have HO_8 := n0_; have HO_1192000 := n1_; have HO_1192001 := n2_; have HO1206 := n3_; have HO1209 := n4_; have HO1212 := n5_; have HO1215 := n6_; have BK1191 := n7_; have HB := n8_; have BK1216 := n9_; have GW1216 := n10_; have GE1216 := n11_; have NB1191_1216 := n12_; have NB1216_1191 := n13_; clear n0_ n1_ n2_ n3_ n4_ n5_ n6_ n7_ n8_ n9_ n10_ n11_ n12_ n13_; clear hb hbox hg) | ((with_reducible refine gate_dst (N := 11) rfl ?_); refine box_event ?hg (N := 11) ?hd (cs := #[.slice none 0 0, .slice none 0 0]) (t := 27) ?hr ?_; (case hd => rfl); (case hg => rfl); (case hr => first | (go_simp; done) | (go_simp; rfl)); intro gb1217 hg w47 hbox hb; have n0_ := am_ (Kd.R_below (rr_ HO_8.out) hb); have n1_ := am_ (Kd.R_below (rr_ HO_1192000.out) hb); have n2_ := am_ (Kd.S_below (rs_ HO_1192001.out) hb); have n3_ := am_ (Kd.R_below (rr_ HO1206.out) hb); have n4_ := am_ (Kd.S_below (rs_ HO1209.out) hb); have n5_ := am_ (Kd.R_below (rr_ HO1212.out) hb); have n6_ := am_ (Kd.S_below (rs_ HO1215.out) hb); have n7_ := am_ (blk_below (rb_ BK1191.out) hb); have n8_ := am_ (blk_below (rb_ BK1216.out) hb); have n9_ := am_ (below_step (b2_ HB.out GE1191.out GE1216.out) hb); have n10_ := am_ (hbox); have n11_ := am_ ((by rw [hg]; exact (below_size (b2_ HB.out GE1191.out GE1216.out)) : w.heap.size ≤ gb1217)); have n12_ := am_ ((by rw [hg]; exact (below_size (b2_ HB.out GE1191.out GE1216.out)) : w.heap.size ≤ gb1217)); have n13_ := am_ ((by rw [hg]; exact Nat.ne_of_lt (blk_lt (rb_ BK1191.out)) : gb1191 ≠ gb1217)); have n14_ := am_ ((by rw [hg]; exact Nat.ne_of_gt (blk_lt (rb_ BK1191.out)) : gb1217 ≠ gb1191)); have n15_ := am_ ((by rw [hg]; exact Nat.ne_of_lt (blk_lt (rb_ BK1216.out)) : gb1216 ≠ gb1217)); have n16_ := am_ ((by rw [hg]; exact Nat.ne_of_gt (blk_lt (rb_ BK1216.out)) : gb1217 ≠ gb1216)); clear HO_8; clear HO_1192000; clear HO_1192001; clear HO1206; clear HO1209; clear HO1212; clear HO1215; clear BK1191; clear BK1216; clear HB; have HO_8 := n0_; have HO_1192000 := n1_; have HO_1192001 := n2_; have HO1206 := n3_; have HO1209 := n4_; have HO1212 := n5_; have HO1215 := n6_; have BK1191 := n7_; have BK1216 := n8_; have HB := n9_; have BK1217 := n10_; have GW1217 := n11_; have GE1217 := n12_; have NB1191_1217 := n13_; have NB1217_1191 := n14_; have NB1216_1217 := n15_; have NB1217_1216 := n16_; clear n0_ n1_ n2_ n3_ n4_ n5_ n6_ n7_ n8_ n9_ n10_ n11_ n12_ n13_ n14_ n15_ n16_; clear hb hbox hg; obtain ⟨Ao48, co48, eo48⟩ := Kd.R_slice HO1206.out; subst eo48; have hnb49 := NB1216_1191.out; have hnc49 := NB1191_1216.out; have hnb50 := NB1216_1217.out; have hnc50 := NB1217_1216.out; have hcz51_0 : w47.cell? ⟨gb1216, 0, none⟩ = some (.slice none 0 0) := (blk_cell BK1216.out 0).trans rfl; have hcz51_1 : w47.cell? ⟨gb1216, 1, none⟩ = some (.slice none 0 0) := (blk_cell BK1216.out 1).trans rfl; have hfz51_0 := blk_frozen BK1216.out 0; have hfz51_1 := blk_frozen BK1216.out 1; obtain ⟨Ao52, co52, eo52⟩ := Kd.S_slice HO1209.out; subst eo52; obtain ⟨Ao53, co53, eo53⟩ := Kd.R_slice HO1212.out; subst eo53; have hnb54 := NB1217_1191.out; have hnc54 := NB1191_1217.out; have hcz55_0 : w47.cell? ⟨gb1217, 0, none⟩ = some (.slice none 0 0) := (blk_cell BK1217.out 0).trans rfl; have hcz55_1 : w47.cell? ⟨gb1217, 1, none⟩ = some (.slice none 0 0) := (blk_cell BK1217.out 1).trans rfl; have hfz55_0 := blk_frozen BK1217.out 0; have hfz55_1 := blk_frozen BK1217.out 1; obtain ⟨Ao56, co56, eo56⟩ := Kd.S_slice HO1215.out; subst eo56) | ((with_reducible refine gate_callee (f := 19) rfl ?_); refine gL_ (some 79) Try.func19 #[.agg #[.slice Ao48 t1204.length co48, .slice Ao52 t1207.length co52], .agg #[.slice Ao53 t1210.length co53, .slice Ao56 t1213.length co56], .int .i64 6] ?_; (with_reducible refine (spec_ProductDfa.calls _ _ t1204 _ _ t1207 _ _ t1210 _ _ t1213 6 t1218 t1221 true _ ?side1 ?side2 ?side3 ?side4 ?side5 ?side6 ?side7 ?side8 A39.out).mono ?_); (case side1 => refine (Kd.R_reads' (e := 4) (base := w.heap.size) (ok := fun k_ => (some k_ ≠ (.slice Ao53 t1210.length co53 : Value).ownBlock ∧ some k_ ≠ (.slice Ao10 t1185.length co10 : Value).ownBlock)) (n := t1204.length) (c := co48) ?_).2.2; exact (rr_ (Kd.R_mono (Kd.R_mono (Kd.R_far (p := ⟨gb1217, 1, none⟩) (Kd.R_far (p := ⟨gb1217, 0, none⟩) (Kd.R_far (p := ⟨gb1216, 1, none⟩) (Kd.R_far (p := ⟨gb1216, 0, none⟩) (Kd.R_types (Kd.R_types HO1206.out BK1216.out (by decide)) BK1217.out (by decide)) (fun _ hk => hk.1.2) (.slice Ao48 t1204.length co48)) (fun _ hk => hk.1.2) (.slice Ao52 t1207.length co52)) (fun _ hk => hk.2) (.slice Ao53 t1210.length co53)) (fun _ hk => hk.2) (.slice Ao56 t1213.length co56)) (fun _ h_ => h_.1)) (fun _ h_ => h_.1)))); (case side2 => exact (Kd.R_reads' HO1206.out).2.1); (case side3 => refine (Kd.S_reads' (e := 67) (base := w.heap.size) (ok := fun k_ => (some k_ ≠ (.slice Ao56 t1213.length co56 : Value).ownBlock ∧ some k_ ≠ (.slice Ao12 t1188.length co12 : Value).ownBlock)) (n := t1207.length) (c := co52) ?_).2.2; exact (rs_ (Kd.S_mono (Kd.S_mono (Kd.S_far (p := ⟨gb1217, 1, none⟩) (Kd.S_far (p := ⟨gb1217, 0, none⟩) (Kd.S_far (p := ⟨gb1216, 1, none⟩) (Kd.S_far (p := ⟨gb1216, 0, none⟩) (Kd.S_types (Kd.S_types HO1209.out BK1216.out (by decide)) BK1217.out (by decide)) (fun _ hk => hk.1.2) (.slice Ao48 t1204.length co48)) (fun _ hk => hk.1.2) (.slice Ao52 t1207.length co52)) (fun _ hk => hk.2) (.slice Ao53 t1210.length co53)) (fun _ hk => hk.2) (.slice Ao56 t1213.length co56)) (fun _ h_ => h_.1)) (fun _ h_ => h_.1)))); (case side4 => exact (Kd.S_reads' HO1209.out).2.1); (case side5 => refine (Kd.R_reads' (e := 4) (base := w.heap.size) (ok := fun k_ => (some k_ ≠ (.slice Ao48 t1204.length co48 : Value).ownBlock ∧ some k_ ≠ (.slice Ao10 t1185.length co10 : Value).ownBlock)) (n := t1210.length) (c := co53) ?_).2.2; exact (rr_ (Kd.R_mono (Kd.R_mono (Kd.R_far (p := ⟨gb1217, 1, none⟩) (Kd.R_far (p := ⟨gb1217, 0, none⟩) (Kd.R_far (p := ⟨gb1216, 1, none⟩) (Kd.R_far (p := ⟨gb1216, 0, none⟩) (Kd.R_types (Kd.R_types HO1212.out BK1216.out (by decide)) BK1217.out (by decide)) (fun _ hk => hk.1.2) (.slice Ao48 t1204.length co48)) (fun _ hk => hk.1.2) (.slice Ao52 t1207.length co52)) (fun _ hk => hk.2) (.slice Ao53 t1210.length co53)) (fun _ hk => hk.2) (.slice Ao56 t1213.length co56)) (fun _ h_ => h_.1)) (fun _ h_ => h_.1)))); (case side6 => exact (Kd.R_reads' HO1212.out).2.1); (case side7 => refine (Kd.S_reads' (e := 67) (base := w.heap.size) (ok := fun k_ => (some k_ ≠ (.slice Ao52 t1207.length co52 : Value).ownBlock ∧ some k_ ≠ (.slice Ao12 t1188.length co12 : Value).ownBlock)) (n := t1213.length) (c := co56) ?_).2.2; exact (rs_ (Kd.S_mono (Kd.S_mono (Kd.S_far (p := ⟨gb1217, 1, none⟩) (Kd.S_far (p := ⟨gb1217, 0, none⟩) (Kd.S_far (p := ⟨gb1216, 1, none⟩) (Kd.S_far (p := ⟨gb1216, 0, none⟩) (Kd.S_types (Kd.S_types HO1215.out BK1216.out (by decide)) BK1217.out (by decide)) (fun _ hk => hk.1.2) (.slice Ao48 t1204.length co48)) (fun _ hk => hk.1.2) (.slice Ao52 t1207.length co52)) (fun _ hk => hk.2) (.slice Ao53 t1210.length co53)) (fun _ hk => hk.2) (.slice Ao56 t1213.length co56)) (fun _ h_ => h_.1)) (fun _ h_ => h_.1)))); (case side8 => exact (Kd.S_reads' HO1215.out).2.1); rintro e w57 ⟨v1219, v1222, rfl, ho0, ho1, hb⟩; refine ⟨_, rfl, ?_⟩; have n0_ := am_ (Kd.R_below (rr_ (Kd.R_mono (Kd.R_mono (Kd.R_far (p := ⟨gb1217, 1, none⟩) (Kd.R_far (p := ⟨gb1217, 0, none⟩) (Kd.R_far (p := ⟨gb1216, 1, none⟩) (Kd.R_far (p := ⟨gb1216, 0, none⟩) (Kd.R_types (Kd.R_types HO_8.out BK1216.out (by decide)) BK1217.out (by decide)) (fun _ hk => hk.1.2) (.slice Ao48 t1204.length co48)) (fun _ hk => hk.1.2) (.slice Ao52 t1207.length co52)) (fun _ hk => hk.2) (.slice Ao53 t1210.length co53)) (fun _ hk => hk.2) (.slice Ao56 t1213.length co56)) (fun _ h_ => h_.1)) (fun _ h_ => h_.1))) hb); have n1_ := am_ (Kd.R_elder' (rr_ (Kd.R_mono (Kd.R_mono (Kd.R_far (p := ⟨gb1217, 1, none⟩) (Kd.R_far (p := ⟨gb1217, 0, none⟩) (Kd.R_far (p := ⟨gb1216, 1, none⟩) (Kd.R_far (p := ⟨gb1216, 0, none⟩) (Kd.R_types (Kd.R_types HO_1192000.out BK1216.out (by decide)) BK1217.out (by decide)) (fun _ hk => hk.1.2) (.slice Ao48 t1204.length co48)) (fun _ hk => hk.1.2) (.slice Ao52 t1207.length co52)) (fun _ hk => hk.2) (.slice Ao53 t1210.length co53)) (fun _ hk => hk.2) (.slice Ao56 t1213.length co56)) (fun _ h_ => h_.1)) (fun _ h_ => h_.1))) (Kd.R_base ho0) hb); have n2_ := am_ (Kd.S_elder' (rs_ (Kd.S_mono (Kd.S_mono (Kd.S_far (p := ⟨gb1217, 1, none⟩) (Kd.S_far (p := ⟨gb1217, 0, none⟩) (Kd.S_far (p := ⟨gb1216, 1, none⟩) (Kd.S_far (p := ⟨gb1216, 0, none⟩) (Kd.S_types (Kd.S_types HO_1192001.out BK1216.out (by decide)) BK1217.out (by decide)) (fun _ hk => hk.1.2) (.slice Ao48 t1204.length co48)) (fun _ hk => hk.1.2) (.slice Ao52 t1207.length co52)) (fun _ hk => hk.2) (.slice Ao53 t1210.length co53)) (fun _ hk => hk.2) (.slice Ao56 t1213.length co56)) (fun _ h_ => h_.1)) (fun _ h_ => h_.1))) (Kd.S_base ho1) hb); have n3_ := am_ (Kd.R_elder' (rr_ (Kd.R_mono (Kd.R_mono (Kd.R_far (p := ⟨gb1217, 1, none⟩) (Kd.R_far (p := ⟨gb1217, 0, none⟩) (Kd.R_far (p := ⟨gb1216, 1, none⟩) (Kd.R_far (p := ⟨gb1216, 0, none⟩) (Kd.R_types (Kd.R_types HO1206.out BK1216.out (by decide)) BK1217.out (by decide)) (fun _ hk => hk.1.2) (.slice Ao48 t1204.length co48)) (fun _ hk => hk.1.2) (.slice Ao52 t1207.length co52)) (fun _ hk => hk.2) (.slice Ao53 t1210.length co53)) (fun _ hk => hk.2) (.slice Ao56 t1213.length co56)) (fun _ h_ => h_.1)) (fun _ h_ => h_.1))) (Kd.R_base ho0) hb); have n4_ := am_ (Kd.S_elder' (rs_ (Kd.S_mono (Kd.S_mono (Kd.S_far (p := ⟨gb1217, 1, none⟩) (Kd.S_far (p := ⟨gb1217, 0, none⟩) (Kd.S_far (p := ⟨gb1216, 1, none⟩) (Kd.S_far (p := ⟨gb1216, 0, none⟩) (Kd.S_types (Kd.S_types HO1209.out BK1216.out (by decide)) BK1217.out (by decide)) (fun _ hk => hk.1.2) (.slice Ao48 t1204.length co48)) (fun _ hk => hk.1.2) (.slice Ao52 t1207.length co52)) (fun _ hk => hk.2) (.slice Ao53 t1210.length co53)) (fun _ hk => hk.2) (.slice Ao56 t1213.length co56)) (fun _ h_ => h_.1)) (fun _ h_ => h_.1))) (Kd.S_base ho1) hb); have n5_ := am_ (Kd.R_elder' (rr_ (Kd.R_mono (Kd.R_mono (Kd.R_far (p := ⟨gb1217, 1, none⟩) (Kd.R_far (p := ⟨gb1217, 0, none⟩) (Kd.R_far (p := ⟨gb1216, 1, none⟩) (Kd.R_far (p := ⟨gb1216, 0, none⟩) (Kd.R_types (Kd.R_types HO1212.out BK1216.out (by decide)) BK1217.out (by decide)) (fun _ hk => hk.1.2) (.slice Ao48 t1204.length co48)) (fun _ hk => hk.1.2) (.slice Ao52 t1207.length co52)) (fun _ hk => hk.2) (.slice Ao53 t1210.length co53)) (fun _ hk => hk.2) (.slice Ao56 t1213.length co56)) (fun _ h_ => h_.1)) (fun _ h_ => h_.1))) (Kd.R_base ho0) hb); have n6_ := am_ (Kd.S_elder' (rs_ (Kd.S_mono (Kd.S_mono (Kd.S_far (p := ⟨gb1217, 1, none⟩) (Kd.S_far (p := ⟨gb1217, 0, none⟩) (Kd.S_far (p := ⟨gb1216, 1, none⟩) (Kd.S_far (p := ⟨gb1216, 0, none⟩) (Kd.S_types (Kd.S_types HO1215.out BK1216.out (by decide)) BK1217.out (by decide)) (fun _ hk => hk.1.2) (.slice Ao48 t1204.length co48)) (fun _ hk => hk.1.2) (.slice Ao52 t1207.length co52)) (fun _ hk => hk.2) (.slice Ao53 t1210.length co53)) (fun _ hk => hk.2) (.slice Ao56 t1213.length co56)) (fun _ h_ => h_.1)) (fun _ h_ => h_.1))) (Kd.S_base ho1) hb); have n7_ := am_ (Kd.R_lower (Kd.R_new' (Kd.R_new' (Kd.R_new' ho0 (Kd.R_lt (rr_ (Kd.R_mono (Kd.R_mono (Kd.R_far (p := ⟨gb1217, 1, none⟩) (Kd.R_far (p := ⟨gb1217, 0, none⟩) (Kd.R_far (p := ⟨gb1216, 1, none⟩) (Kd.R_far (p := ⟨gb1216, 0, none⟩) (Kd.R_types (Kd.R_types HO_1192000.out BK1216.out (by decide)) BK1217.out (by decide)) (fun _ hk => hk.1.2) (.slice Ao48 t1204.length co48)) (fun _ hk => hk.1.2) (.slice Ao52 t1207.length co52)) (fun _ hk => hk.2) (.slice Ao53 t1210.length co53)) (fun _ hk => hk.2) (.slice Ao56 t1213.length co56)) (fun _ h_ => h_.1)) (fun _ h_ => h_.1))))) (Kd.R_lt (rr_ (Kd.R_mono (Kd.R_mono (Kd.R_far (p := ⟨gb1217, 1, none⟩) (Kd.R_far (p := ⟨gb1217, 0, none⟩) (Kd.R_far (p := ⟨gb1216, 1, none⟩) (Kd.R_far (p := ⟨gb1216, 0, none⟩) (Kd.R_types (Kd.R_types HO1206.out BK1216.out (by decide)) BK1217.out (by decide)) (fun _ hk => hk.1.2) (.slice Ao48 t1204.length co48)) (fun _ hk => hk.1.2) (.slice Ao52 t1207.length co52)) (fun _ hk => hk.2) (.slice Ao53 t1210.length co53)) (fun _ hk => hk.2) (.slice Ao56 t1213.length co56)) (fun _ h_ => h_.1)) (fun _ h_ => h_.1))))) (Kd.R_lt (rr_ (Kd.R_mono (Kd.R_mono (Kd.R_far (p := ⟨gb1217, 1, none⟩) (Kd.R_far (p := ⟨gb1217, 0, none⟩) (Kd.R_far (p := ⟨gb1216, 1, none⟩) (Kd.R_far (p := ⟨gb1216, 0, none⟩) (Kd.R_types (Kd.R_types HO1212.out BK1216.out (by decide)) BK1217.out (by decide)) (fun _ hk => hk.1.2) (.slice Ao48 t1204.length co48)) (fun _ hk => hk.1.2) (.slice Ao52 t1207.length co52)) (fun _ hk => hk.2) (.slice Ao53 t1210.length co53)) (fun _ hk => hk.2) (.slice Ao56 t1213.length co56)) (fun _ h_ => h_.1)) (fun _ h_ => h_.1))))) (below_size (b3_ HB.out GE1191.out GE1216.out GE1217.out))); have n8_ := am_ (Kd.S_lower (Kd.S_new' (Kd.S_new' (Kd.S_new' ho1 (Kd.S_lt (rs_ (Kd.S_mono (Kd.S_mono (Kd.S_far (p := ⟨gb1217, 1, none⟩) (Kd.S_far (p := ⟨gb1217, 0, none⟩) (Kd.S_far (p := ⟨gb1216, 1, none⟩) (Kd.S_far (p := ⟨gb1216, 0, none⟩) (Kd.S_types (Kd.S_types HO_1192001.out BK1216.out (by decide)) BK1217.out (by decide)) (fun _ hk => hk.1.2) (.slice Ao48 t1204.length co48)) (fun _ hk => hk.1.2) (.slice Ao52 t1207.length co52)) (fun _ hk => hk.2) (.slice Ao53 t1210.length co53)) (fun _ hk => hk.2) (.slice Ao56 t1213.length co56)) (fun _ h_ => h_.1)) (fun _ h_ => h_.1))))) (Kd.S_lt (rs_ (Kd.S_mono (Kd.S_mono (Kd.S_far (p := ⟨gb1217, 1, none⟩) (Kd.S_far (p := ⟨gb1217, 0, none⟩) (Kd.S_far (p := ⟨gb1216, 1, none⟩) (Kd.S_far (p := ⟨gb1216, 0, none⟩) (Kd.S_types (Kd.S_types HO1209.out BK1216.out (by decide)) BK1217.out (by decide)) (fun _ hk => hk.1.2) (.slice Ao48 t1204.length co48)) (fun _ hk => hk.1.2) (.slice Ao52 t1207.length co52)) (fun _ hk => hk.2) (.slice Ao53 t1210.length co53)) (fun _ hk => hk.2) (.slice Ao56 t1213.length co56)) (fun _ h_ => h_.1)) (fun _ h_ => h_.1))))) (Kd.S_lt (rs_ (Kd.S_mono (Kd.S_mono (Kd.S_far (p := ⟨gb1217, 1, none⟩) (Kd.S_far (p := ⟨gb1217, 0, none⟩) (Kd.S_far (p := ⟨gb1216, 1, none⟩) (Kd.S_far (p := ⟨gb1216, 0, none⟩) (Kd.S_types (Kd.S_types HO1215.out BK1216.out (by decide)) BK1217.out (by decide)) (fun _ hk => hk.1.2) (.slice Ao48 t1204.length co48)) (fun _ hk => hk.1.2) (.slice Ao52 t1207.length co52)) (fun _ hk => hk.2) (.slice Ao53 t1210.length co53)) (fun _ hk => hk.2) (.slice Ao56 t1213.length co56)) (fun _ h_ => h_.1)) (fun _ h_ => h_.1))))) (below_size (b3_ HB.out GE1191.out GE1216.out GE1217.out))); have n9_ := am_ (blk_below (g := gb1191) (o := .cells #[.slice Ao10 t1185.length co10, .slice Ao12 t1188.length co12] 27 (0, 0)) (by refine rb_ ?_; refine blk_far ?_ NB1191_1217.out _; refine rb_ ?_; refine blk_far ?_ NB1191_1217.out _; refine rb_ ?_; refine blk_far ?_ NB1191_1216.out _; refine rb_ ?_; refine blk_far ?_ NB1191_1216.out _; refine rb_ ?_; exact BK1191.out) hb); have n10_ := am_ (blk_below (g := gb1216) (o := .cells #[.slice Ao48 t1204.length co48, .slice Ao52 t1207.length co52] 27 (0, 0)) (by refine rb_ ?_; refine blk_far ?_ NB1216_1217.out _; refine rb_ ?_; refine blk_far ?_ NB1216_1217.out _; refine rb_ ?_; refine blk_put (cs := #[.slice Ao48 t1204.length co48, .slice none 0 0]) ?_ 1 _ rfl; refine rb_ ?_; refine blk_put (cs := #[.slice none 0 0, .slice none 0 0]) ?_ 0 _ rfl; refine rb_ ?_; exact BK1216.out) hb); have n11_ := am_ (blk_below (g := gb1217) (o := .cells #[.slice Ao53 t1210.length co53, .slice Ao56 t1213.length co56] 27 (0, 0)) (by refine rb_ ?_; refine blk_put (cs := #[.slice Ao53 t1210.length co53, .slice none 0 0]) ?_ 1 _ rfl; refine rb_ ?_; refine blk_put (cs := #[.slice none 0 0, .slice none 0 0]) ?_ 0 _ rfl; refine rb_ ?_; refine blk_far ?_ NB1217_1216.out _; refine rb_ ?_; refine blk_far ?_ NB1217_1216.out _; refine rb_ ?_; exact BK1217.out) hb); have n12_ := am_ (below_step (b3_ HB.out GE1191.out GE1216.out GE1217.out) hb); clear HO_8; clear HO_1192000; clear HO_1192001; clear HO1206; clear HO1209; clear HO1212; clear HO1215; clear BK1191; clear BK1216; clear BK1217; clear HB; have HO_8 := n0_; have HO_1192000 := n1_; have HO_1192001 := n2_; have HO1206 := n3_; have HO1209 := n4_; have HO1212 := n5_; have HO1215 := n6_; have HO1220 := n7_; have HO1223 := n8_; have BK1191 := n9_; have BK1216 := n10_; have BK1217 := n11_; have HB := n12_; clear n0_ n1_ n2_ n3_ n4_ n5_ n6_ n7_ n8_ n9_ n10_ n11_ n12_; (try clear hb); (try clear hb2); (try clear hk); (try clear hi); (try clear ho0); (try clear ho1)) | ((with_reducible refine gate_dst (N := 12) rfl ?_); refine box_event ?hg (N := 12) ?hd (cs := #[.slice none 0 0, .slice none 0 0]) (t := 27) ?hr ?_; (case hd => rfl); (case hg => rfl); (case hr => first | (go_simp; done) | (go_simp; rfl)); intro gb1225 hg w58 hbox hb; have n0_ := am_ (Kd.R_below (rr_ HO_8.out) hb); have n1_ := am_ (Kd.R_below (rr_ HO_1192000.out) hb); have n2_ := am_ (Kd.S_below (rs_ HO_1192001.out) hb); have n3_ := am_ (Kd.R_below (rr_ HO1206.out) hb); have n4_ := am_ (Kd.S_below (rs_ HO1209.out) hb); have n5_ := am_ (Kd.R_below (rr_ HO1212.out) hb); have n6_ := am_ (Kd.S_below (rs_ HO1215.out) hb); have n7_ := am_ (Kd.R_below (rr_ HO1220.out) hb); have n8_ := am_ (Kd.S_below (rs_ HO1223.out) hb); have n9_ := am_ (blk_below (rb_ BK1191.out) hb); have n10_ := am_ (blk_below (rb_ BK1216.out) hb); have n11_ := am_ (blk_below (rb_ BK1217.out) hb); have n12_ := am_ (below_step (b3_ HB.out GE1191.out GE1216.out GE1217.out) hb); have n13_ := am_ (hbox); have n14_ := am_ ((by rw [hg]; exact (below_size (b3_ HB.out GE1191.out GE1216.out GE1217.out)) : w.heap.size ≤ gb1225)); have n15_ := am_ ((by rw [hg]; exact (below_size (b3_ HB.out GE1191.out GE1216.out GE1217.out)) : w.heap.size ≤ gb1225)); have n16_ := am_ ((by rw [hg]; exact Nat.ne_of_lt (blk_lt (rb_ BK1191.out)) : gb1191 ≠ gb1225)); have n17_ := am_ ((by rw [hg]; exact Nat.ne_of_gt (blk_lt (rb_ BK1191.out)) : gb1225 ≠ gb1191)); have n18_ := am_ ((by rw [hg]; exact Nat.ne_of_lt (blk_lt (rb_ BK1216.out)) : gb1216 ≠ gb1225)); have n19_ := am_ ((by rw [hg]; exact Nat.ne_of_gt (blk_lt (rb_ BK1216.out)) : gb1225 ≠ gb1216)); have n20_ := am_ ((by rw [hg]; exact Nat.ne_of_lt (blk_lt (rb_ BK1217.out)) : gb1217 ≠ gb1225)); have n21_ := am_ ((by rw [hg]; exact Nat.ne_of_gt (blk_lt (rb_ BK1217.out)) : gb1225 ≠ gb1217)); clear HO_8; clear HO_1192000; clear HO_1192001; clear HO1206; clear HO1209; clear HO1212; clear HO1215; clear HO1220; clear HO1223; clear BK1191; clear BK1216; clear BK1217; clear HB; have HO_8 := n0_; have HO_1192000 := n1_; have HO_1192001 := n2_; have HO1206 := n3_; have HO1209 := n4_; have HO1212 := n5_; have HO1215 := n6_; have HO1220 := n7_; have HO1223 := n8_; have BK1191 := n9_; have BK1216 := n10_; have BK1217 := n11_; have HB := n12_; have BK1225 := n13_; have GW1225 := n14_; have GE1225 := n15_; have NB1191_1225 := n16_; have NB1225_1191 := n17_; have NB1216_1225 := n18_; have NB1225_1216 := n19_; have NB1217_1225 := n20_; have NB1225_1217 := n21_; clear n0_ n1_ n2_ n3_ n4_ n5_ n6_ n7_ n8_ n9_ n10_ n11_ n12_ n13_ n14_ n15_ n16_ n17_ n18_ n19_ n20_ n21_; clear hb hbox hg; obtain ⟨Ao59, co59, eo59⟩ := Kd.R_slice HO1220.out; subst eo59; have hnb60 := NB1225_1191.out; have hnc60 := NB1191_1225.out; have hnb61 := NB1225_1216.out; have hnc61 := NB1216_1225.out; have hnb62 := NB1225_1217.out; have hnc62 := NB1217_1225.out; have hcz63_0 : w58.cell? ⟨gb1225, 0, none⟩ = some (.slice none 0 0) := (blk_cell BK1225.out 0).trans rfl; have hcz63_1 : w58.cell? ⟨gb1225, 1, none⟩ = some (.slice none 0 0) := (blk_cell BK1225.out 1).trans rfl; have hfz63_0 := blk_frozen BK1225.out 0; have hfz63_1 := blk_frozen BK1225.out 1; obtain ⟨Ao64, co64, eo64⟩ := Kd.S_slice HO1223.out; subst eo64))
         have n0_ : Aside0 (Kd.R Kd.string 9 ((w58.setCell ⟨gb1225, 0, none⟩ (.slice Ao59 t1218.length co59)).setCell ⟨gb1225, 1, none⟩ (.slice Ao64 t1221.length co64)) w.heap.size (fun _ => True) (.slice Ao44 t1197.length co44) t1197) := ⟨by refine rr_ ?_; exact Kd.R_mono (Kd.R_far (p := ⟨gb1225, 1, none⟩) (Kd.R_far (p := ⟨gb1225, 0, none⟩) (Kd.R_types HO_8.out BK1225.out (by decide)) (fun _ hk => hk.2) (.slice Ao59 t1218.length co59)) (fun _ hk => hk.2) (.slice Ao64 t1221.length co64)) (fun _ hk => trivial)⟩
         have n1_ : Aside0 (Kd.R Kd.bool 4 ((w58.setCell ⟨gb1225, 0, none⟩ (.slice Ao59 t1218.length co59)).setCell ⟨gb1225, 1, none⟩ (.slice Ao64 t1221.length co64)) w.heap.size (fun k_ => some k_ ≠ (.slice Ao48 t1204.length co48 : Value).ownBlock ∧ some k_ ≠ (.slice Ao53 t1210.length co53 : Value).ownBlock ∧ some k_ ≠ (.slice Ao59 t1218.length co59 : Value).ownBlock) (.slice Ao10 t1185.length co10) t1185) := ⟨by refine rr_ ?_; exact Kd.R_mono (Kd.R_far (p := ⟨gb1225, 1, none⟩) (Kd.R_far (p := ⟨gb1225, 0, none⟩) (Kd.R_types HO_1192000.out BK1225.out (by decide)) (fun _ hk => hk.2) (.slice Ao59 t1218.length co59)) (fun _ hk => hk.2) (.slice Ao64 t1221.length co64)) (fun _ hk => ⟨hk.1.1.1.2, ⟨hk.1.1.2, hk.1.2⟩⟩)⟩
         have n2_ : Aside0 (Kd.S (Kd.slice 3 (Kd.int .i64)) 67 ((w58.setCell ⟨gb1225, 0, none⟩ (.slice Ao59 t1218.length co59)).setCell ⟨gb1225, 1, none⟩ (.slice Ao64 t1221.length co64)) w.heap.size (fun k_ => some k_ ≠ (.slice Ao52 t1207.length co52 : Value).ownBlock ∧ some k_ ≠ (.slice Ao56 t1213.length co56 : Value).ownBlock ∧ some k_ ≠ (.slice Ao64 t1221.length co64 : Value).ownBlock) (.slice Ao12 t1188.length co12) t1188) := ⟨by refine rs_ ?_; exact Kd.S_mono (Kd.S_far (p := ⟨gb1225, 1, none⟩) (Kd.S_far (p := ⟨gb1225, 0, none⟩) (Kd.S_types HO_1192001.out BK1225.out (by decide)) (fun _ hk => hk.2) (.slice Ao59 t1218.length co59)) (fun _ hk => hk.2) (.slice Ao64 t1221.length co64)) (fun _ hk => ⟨hk.1.1.1.2, ⟨hk.1.1.2, hk.1.2⟩⟩)⟩
         have n3_ : Aside0 (Kd.R Kd.bool 4 ((w58.setCell ⟨gb1225, 0, none⟩ (.slice Ao59 t1218.length co59)).setCell ⟨gb1225, 1, none⟩ (.slice Ao64 t1221.length co64)) w.heap.size (fun k_ => some k_ ≠ (.slice Ao10 t1185.length co10 : Value).ownBlock ∧ some k_ ≠ (.slice Ao53 t1210.length co53 : Value).ownBlock ∧ some k_ ≠ (.slice Ao59 t1218.length co59 : Value).ownBlock) (.slice Ao48 t1204.length co48) t1204) := ⟨by refine rr_ ?_; exact Kd.R_mono (Kd.R_far (p := ⟨gb1225, 1, none⟩) (Kd.R_far (p := ⟨gb1225, 0, none⟩) (Kd.R_types HO1206.out BK1225.out (by decide)) (fun _ hk => hk.2) (.slice Ao59 t1218.length co59)) (fun _ hk => hk.2) (.slice Ao64 t1221.length co64)) (fun _ hk => ⟨hk.1.1.2, ⟨hk.1.1.1, hk.1.2⟩⟩)⟩
         have n4_ : Aside0 (Kd.S (Kd.slice 3 (Kd.int .i64)) 67 ((w58.setCell ⟨gb1225, 0, none⟩ (.slice Ao59 t1218.length co59)).setCell ⟨gb1225, 1, none⟩ (.slice Ao64 t1221.length co64)) w.heap.size (fun k_ => some k_ ≠ (.slice Ao12 t1188.length co12 : Value).ownBlock ∧ some k_ ≠ (.slice Ao56 t1213.length co56 : Value).ownBlock ∧ some k_ ≠ (.slice Ao64 t1221.length co64 : Value).ownBlock) (.slice Ao52 t1207.length co52) t1207) := ⟨by refine rs_ ?_; exact Kd.S_mono (Kd.S_far (p := ⟨gb1225, 1, none⟩) (Kd.S_far (p := ⟨gb1225, 0, none⟩) (Kd.S_types HO1209.out BK1225.out (by decide)) (fun _ hk => hk.2) (.slice Ao59 t1218.length co59)) (fun _ hk => hk.2) (.slice Ao64 t1221.length co64)) (fun _ hk => ⟨hk.1.1.2, ⟨hk.1.1.1, hk.1.2⟩⟩)⟩
         have n5_ : Aside0 (Kd.R Kd.bool 4 ((w58.setCell ⟨gb1225, 0, none⟩ (.slice Ao59 t1218.length co59)).setCell ⟨gb1225, 1, none⟩ (.slice Ao64 t1221.length co64)) w.heap.size (fun k_ => some k_ ≠ (.slice Ao10 t1185.length co10 : Value).ownBlock ∧ some k_ ≠ (.slice Ao48 t1204.length co48 : Value).ownBlock ∧ some k_ ≠ (.slice Ao59 t1218.length co59 : Value).ownBlock) (.slice Ao53 t1210.length co53) t1210) := ⟨by refine rr_ ?_; exact Kd.R_mono (Kd.R_far (p := ⟨gb1225, 1, none⟩) (Kd.R_far (p := ⟨gb1225, 0, none⟩) (Kd.R_types HO1212.out BK1225.out (by decide)) (fun _ hk => hk.2) (.slice Ao59 t1218.length co59)) (fun _ hk => hk.2) (.slice Ao64 t1221.length co64)) (fun _ hk => ⟨hk.1.1.2, ⟨hk.1.1.1, hk.1.2⟩⟩)⟩
         have n6_ : Aside0 (Kd.S (Kd.slice 3 (Kd.int .i64)) 67 ((w58.setCell ⟨gb1225, 0, none⟩ (.slice Ao59 t1218.length co59)).setCell ⟨gb1225, 1, none⟩ (.slice Ao64 t1221.length co64)) w.heap.size (fun k_ => some k_ ≠ (.slice Ao12 t1188.length co12 : Value).ownBlock ∧ some k_ ≠ (.slice Ao52 t1207.length co52 : Value).ownBlock ∧ some k_ ≠ (.slice Ao64 t1221.length co64 : Value).ownBlock) (.slice Ao56 t1213.length co56) t1213) := ⟨by refine rs_ ?_; exact Kd.S_mono (Kd.S_far (p := ⟨gb1225, 1, none⟩) (Kd.S_far (p := ⟨gb1225, 0, none⟩) (Kd.S_types HO1215.out BK1225.out (by decide)) (fun _ hk => hk.2) (.slice Ao59 t1218.length co59)) (fun _ hk => hk.2) (.slice Ao64 t1221.length co64)) (fun _ hk => ⟨hk.1.1.2, ⟨hk.1.1.1, hk.1.2⟩⟩)⟩
         have n7_ : Aside0 (Kd.R Kd.bool 4 ((w58.setCell ⟨gb1225, 0, none⟩ (.slice Ao59 t1218.length co59)).setCell ⟨gb1225, 1, none⟩ (.slice Ao64 t1221.length co64)) w.heap.size (fun k_ => some k_ ≠ (.slice Ao10 t1185.length co10 : Value).ownBlock ∧ some k_ ≠ (.slice Ao48 t1204.length co48 : Value).ownBlock ∧ some k_ ≠ (.slice Ao53 t1210.length co53 : Value).ownBlock) (.slice Ao59 t1218.length co59) t1218) := ⟨by refine rr_ ?_; exact Kd.R_mono (Kd.R_far (p := ⟨gb1225, 1, none⟩) (Kd.R_far (p := ⟨gb1225, 0, none⟩) (Kd.R_types HO1220.out BK1225.out (by decide)) (fun _ hk => hk.2) (.slice Ao59 t1218.length co59)) (fun _ hk => hk.2) (.slice Ao64 t1221.length co64)) (fun _ hk => ⟨hk.1.1.1.2, ⟨hk.1.1.2, hk.1.2⟩⟩)⟩
         have n8_ : Aside0 (Kd.S (Kd.slice 3 (Kd.int .i64)) 67 ((w58.setCell ⟨gb1225, 0, none⟩ (.slice Ao59 t1218.length co59)).setCell ⟨gb1225, 1, none⟩ (.slice Ao64 t1221.length co64)) w.heap.size (fun k_ => some k_ ≠ (.slice Ao12 t1188.length co12 : Value).ownBlock ∧ some k_ ≠ (.slice Ao52 t1207.length co52 : Value).ownBlock ∧ some k_ ≠ (.slice Ao56 t1213.length co56 : Value).ownBlock) (.slice Ao64 t1221.length co64) t1221) := ⟨by refine rs_ ?_; exact Kd.S_mono (Kd.S_far (p := ⟨gb1225, 1, none⟩) (Kd.S_far (p := ⟨gb1225, 0, none⟩) (Kd.S_types HO1223.out BK1225.out (by decide)) (fun _ hk => hk.2) (.slice Ao59 t1218.length co59)) (fun _ hk => hk.2) (.slice Ao64 t1221.length co64)) (fun _ hk => ⟨hk.1.1.1.2, ⟨hk.1.1.2, hk.1.2⟩⟩)⟩
         have n9_ : Aside0 (((w58.setCell ⟨gb1225, 0, none⟩ (.slice Ao59 t1218.length co59)).setCell ⟨gb1225, 1, none⟩ (.slice Ao64 t1221.length co64)).heap[gb1191]? = some (.cells #[.slice Ao10 t1185.length co10, .slice Ao12 t1188.length co12] 27 (0, 0))) := ⟨by refine rb_ ?_; refine blk_far ?_ NB1191_1225.out _; refine rb_ ?_; refine blk_far ?_ NB1191_1225.out _; refine rb_ ?_; exact BK1191.out⟩
         have n10_ : Aside0 (((w58.setCell ⟨gb1225, 0, none⟩ (.slice Ao59 t1218.length co59)).setCell ⟨gb1225, 1, none⟩ (.slice Ao64 t1221.length co64)).heap[gb1216]? = some (.cells #[.slice Ao48 t1204.length co48, .slice Ao52 t1207.length co52] 27 (0, 0))) := ⟨by refine rb_ ?_; refine blk_far ?_ NB1216_1225.out _; refine rb_ ?_; refine blk_far ?_ NB1216_1225.out _; refine rb_ ?_; exact BK1216.out⟩
         have n11_ : Aside0 (((w58.setCell ⟨gb1225, 0, none⟩ (.slice Ao59 t1218.length co59)).setCell ⟨gb1225, 1, none⟩ (.slice Ao64 t1221.length co64)).heap[gb1217]? = some (.cells #[.slice Ao53 t1210.length co53, .slice Ao56 t1213.length co56] 27 (0, 0))) := ⟨by refine rb_ ?_; refine blk_far ?_ NB1217_1225.out _; refine rb_ ?_; refine blk_far ?_ NB1217_1225.out _; refine rb_ ?_; exact BK1217.out⟩
         have n12_ : Aside0 (((w58.setCell ⟨gb1225, 0, none⟩ (.slice Ao59 t1218.length co59)).setCell ⟨gb1225, 1, none⟩ (.slice Ao64 t1221.length co64)).heap[gb1225]? = some (.cells #[.slice Ao59 t1218.length co59, .slice Ao64 t1221.length co64] 27 (0, 0))) := ⟨by refine rb_ ?_; refine blk_put (cs := #[.slice Ao59 t1218.length co59, .slice none 0 0]) ?_ 1 _ rfl; refine rb_ ?_; refine blk_put (cs := #[.slice none 0 0, .slice none 0 0]) ?_ 0 _ rfl; refine rb_ ?_; exact BK1225.out⟩
         have n13_ : Aside0 (Below w.heap.size w ((w58.setCell ⟨gb1225, 0, none⟩ (.slice Ao59 t1218.length co59)).setCell ⟨gb1225, 1, none⟩ (.slice Ao64 t1221.length co64))) := ⟨by exact zp57_1_ HB.out GE1191.out GE1216.out GE1217.out GE1225.out⟩
         (try clear HO_8)
         (try clear HO_1192000)
         (try clear HO_1192001)
         (try clear HO1206)
         (try clear HO1209)
         (try clear HO1212)
         (try clear HO1215)
         (try clear HO1220)
         (try clear HO1223)
         (try clear BK1191)
         (try clear BK1216)
         (try clear BK1217)
         (try clear BK1225)
         (try clear HB)
         generalize ((w58.setCell ⟨gb1225, 0, none⟩ (.slice Ao59 t1218.length co59)).setCell ⟨gb1225, 1, none⟩ (.slice Ao64 t1221.length co64)) = w65 at n0_ n1_ n2_ n3_ n4_ n5_ n6_ n7_ n8_ n9_ n10_ n11_ n12_ n13_ ⊢
         have HO_8 := n0_; have HO_1192000 := n1_; have HO_1192001 := n2_; have HO1206 := n3_; have HO1209 := n4_; have HO1212 := n5_; have HO1215 := n6_; have HO1220 := n7_; have HO1223 := n8_; have BK1191 := n9_; have BK1216 := n10_; have BK1217 := n11_; have BK1225 := n12_; have HB := n13_
         clear n0_ n1_ n2_ n3_ n4_ n5_ n6_ n7_ n8_ n9_ n10_ n11_ n12_ n13_
         replace HO_8 := am_ (Kd.R_drew HO_8.out)
         replace HO_1192000 := am_ (Kd.R_drew HO_1192000.out)
         replace HO_1192001 := am_ (Kd.S_drew HO_1192001.out)
         replace HO1206 := am_ (Kd.R_drew HO1206.out)
         replace HO1209 := am_ (Kd.S_drew HO1209.out)
         replace HO1212 := am_ (Kd.R_drew HO1212.out)
         replace HO1215 := am_ (Kd.S_drew HO1215.out)
         replace HO1220 := am_ (Kd.R_drew HO1220.out)
         replace HO1223 := am_ (Kd.S_drew HO1223.out)
         replace BK1191 := am_ (blk_drew BK1191.out)
         replace BK1216 := am_ (blk_drew BK1216.out)
         replace BK1217 := am_ (blk_drew BK1217.out)
         replace BK1225 := am_ (blk_drew BK1225.out)
         replace HB := am_ (below_drew1 HB.out)
         refine start_ (n := 13) (S := fun w' => w'.cell? ⟨gb1216, 0, none⟩ = some (.slice Ao48 t1204.length co48) ∧ w'.cell? ⟨gb1216, 1, none⟩ = some (.slice Ao52 t1207.length co52) ∧ w'.cell? ⟨gb1217, 0, none⟩ = some (.slice Ao53 t1210.length co53) ∧ w'.cell? ⟨gb1217, 1, none⟩ = some (.slice Ao56 t1213.length co56) ∧ w'.cell? ⟨gb1225, 0, none⟩ = some (.slice Ao59 t1218.length co59) ∧ w'.cell? ⟨gb1225, 1, none⟩ = some (.slice Ao64 t1221.length co64)) (ds := []) (bl 13 0) (by kernel_rfl) rfl rfl ⟨(blk_cell BK1216.out 0).trans rfl, (blk_cell BK1216.out 1).trans rfl, (blk_cell BK1217.out 0).trans rfl, (blk_cell BK1217.out 1).trans rfl, (blk_cell BK1225.out 0).trans rfl, (blk_cell BK1225.out 1).trans rfl⟩ (fun hHeld => ?_); refine with_tabW laws_FnShortest.tab16 laws_FnShortest.bits16 (fun HT_ HW_ => ?_)
         generalize w65.drew = w66 at HO_8 HO_1192000 HO_1192001 HO1206 HO1209 HO1212 HO1215 HO1220 HO1223 BK1191 BK1216 BK1217 BK1225 HB hHeld ⊢
         refine pu_ 0 82 (bl 13 1) HT_ ?_
         refine pu_ 1 83 (bl 13 3) HT_ ?_
         refine pu_ 2 84 (bl 13 7) HT_ ?_
         refine tk_ 3 85 (bl 13 15) HT_ HW_ hHeld ?_
         refine tk_ 4 86 (bl 13 31) HT_ HW_ hHeld ?_
         refine tk_ 6 88 (bl 13 95) HT_ HW_ hHeld ?_
         refine tk_ 7 89 (bl 13 223) HT_ HW_ hHeld ?_
         refine one_ (i := 5) (N := some 87) (bl 13 255) rfl rfl (one_of HT_.out (by kernel_rfl)) (by decide) (fun K hK => ?_)
         refine gO_ Try.func51 #[.agg #[.slice Ao48 t1204.length co48, .slice Ao52 t1207.length co52], .agg #[.slice Ao53 t1210.length co53, .slice Ao56 t1213.length co56]] ?_
         with_reducible refine (impl_IsIncluded.calls _ _ t1204 _ _ t1207 _ _ t1210 _ _ t1213 t1226 _ ?side1 ?side2 ?side3 ?side4 ?side5 ?side6 ?side7 ?side8 A41.out).mono ?_
         (case side1 => exact rc_ ((Kd.R_reads' HO1206.out).2.2))
         (case side2 => exact (Kd.R_reads' HO1206.out).2.1)
         (case side3 => exact rc_ ((Kd.S_reads' HO1209.out).2.2))
         (case side4 => exact (Kd.S_reads' HO1209.out).2.1)
         (case side5 => exact rc_ ((Kd.R_reads' HO1212.out).2.2))
         (case side6 => exact (Kd.R_reads' HO1212.out).2.1)
         (case side7 => exact rc_ ((Kd.S_reads' HO1215.out).2.2))
         (case side8 => exact (Kd.S_reads' HO1215.out).2.1)
         rintro e w67 ⟨rfl, hb⟩
         refine ⟨_, rfl, ?_⟩
         replace HO_8 := am_ (Kd.R_below (rr_ HO_8.out) hb)
         replace HO_1192000 := am_ (Kd.R_below (rr_ HO_1192000.out) hb)
         replace HO_1192001 := am_ (Kd.S_below (rs_ HO_1192001.out) hb)
         replace HO1206 := am_ (Kd.R_below (rr_ HO1206.out) hb)
         replace HO1209 := am_ (Kd.S_below (rs_ HO1209.out) hb)
         replace HO1212 := am_ (Kd.R_below (rr_ HO1212.out) hb)
         replace HO1215 := am_ (Kd.S_below (rs_ HO1215.out) hb)
         replace HO1220 := am_ (Kd.R_below (rr_ HO1220.out) hb)
         replace HO1223 := am_ (Kd.S_below (rs_ HO1223.out) hb)
         replace BK1191 := am_ (blk_below (rb_ BK1191.out) hb)
         replace BK1216 := am_ (blk_below (rb_ BK1216.out) hb)
         replace BK1217 := am_ (blk_below (rb_ BK1217.out) hb)
         replace BK1225 := am_ (blk_below (rb_ BK1225.out) hb)
         replace HB := am_ (below_step (b4_ HB.out GE1191.out GE1216.out GE1217.out GE1225.out) hb)
         (try clear hb)
         (try clear hb2)
         (try clear hk)
         (try clear hi)
         refine hK.out _ _ ⟨(blk_cell BK1216.out 0).trans rfl, (blk_cell BK1216.out 1).trans rfl, (blk_cell BK1217.out 0).trans rfl, (blk_cell BK1217.out 1).trans rfl, (blk_cell BK1225.out 0).trans rfl, (blk_cell BK1225.out 1).trans rfl⟩ (fun hHeld => ?_)
         clear hK K
         refine norm_ (a' := ?_) ?_ ?_
         rotate_left
         ·show Act.put _ (some 87) _ = _
          simp only [pn_, sz_, ss_, i64_w, i32_w]
          rfl
         refine one_ (i := 8) (N := some 90) (bl 13 511) rfl rfl (one_of HT_.out (by kernel_rfl)) (by decide) (fun K hK => ?_)
         refine gO_ Try.func33 #[.agg #[.slice Ao53 t1210.length co53, .slice Ao56 t1213.length co56]] ?_
         with_reducible refine (spec_MinimizeDfa.calls k2 _ _ t1210 _ _ t1213 t1227 t1230 _ ?side1 ?side2 ?side3 ?side4 A42.out).mono ?_
         (case side1 => exact rc_ ((Kd.R_reads' HO1212.out).2.2))
         (case side2 => exact (Kd.R_reads' HO1212.out).2.1)
         (case side3 => exact rc_ ((Kd.S_reads' HO1215.out).2.2))
         (case side4 => exact (Kd.S_reads' HO1215.out).2.1)
         rintro e w68 ⟨v1228, v1231, rfl, ho0, ho1, hb⟩
         refine ⟨_, rfl, ?_⟩
         replace HO_8 := am_ (Kd.R_below (rr_ HO_8.out) hb)
         replace HO1229 := am_ (Kd.R_lower (Kd.R_new' (Kd.R_new' (Kd.R_new' (Kd.R_new' ho0 (Kd.R_lt (rr_ HO_1192000.out))) (Kd.R_lt (rr_ HO1206.out))) (Kd.R_lt (rr_ HO1212.out))) (Kd.R_lt (rr_ HO1220.out))) (below_size (b4_ HB.out GE1191.out GE1216.out GE1217.out GE1225.out)))
         replace HO_1192000 := am_ (Kd.R_elder' (rr_ HO_1192000.out) (Kd.R_base ho0) hb)
         replace HO1206 := am_ (Kd.R_elder' (rr_ HO1206.out) (Kd.R_base ho0) hb)
         replace HO1212 := am_ (Kd.R_elder' (rr_ HO1212.out) (Kd.R_base ho0) hb)
         replace HO1220 := am_ (Kd.R_elder' (rr_ HO1220.out) (Kd.R_base ho0) hb)
         replace HO1232 := am_ (Kd.S_lower (Kd.S_new' (Kd.S_new' (Kd.S_new' (Kd.S_new' ho1 (Kd.S_lt (rs_ HO_1192001.out))) (Kd.S_lt (rs_ HO1209.out))) (Kd.S_lt (rs_ HO1215.out))) (Kd.S_lt (rs_ HO1223.out))) (below_size (b4_ HB.out GE1191.out GE1216.out GE1217.out GE1225.out)))
         replace HO_1192001 := am_ (Kd.S_elder' (rs_ HO_1192001.out) (Kd.S_base ho1) hb)
         replace HO1209 := am_ (Kd.S_elder' (rs_ HO1209.out) (Kd.S_base ho1) hb)
         replace HO1215 := am_ (Kd.S_elder' (rs_ HO1215.out) (Kd.S_base ho1) hb)
         replace HO1223 := am_ (Kd.S_elder' (rs_ HO1223.out) (Kd.S_base ho1) hb)
         replace BK1191 := am_ (blk_below (rb_ BK1191.out) hb)
         replace BK1216 := am_ (blk_below (rb_ BK1216.out) hb)
         replace BK1217 := am_ (blk_below (rb_ BK1217.out) hb)
         replace BK1225 := am_ (blk_below (rb_ BK1225.out) hb)
         replace HB := am_ (below_step (b4_ HB.out GE1191.out GE1216.out GE1217.out GE1225.out) hb)
         (try clear hb)
         (try clear hb2)
         (try clear hk)
         (try clear hi)
         (try clear ho0)
         (try clear ho1)
         obtain ⟨Ao69, co69, eo69⟩ := Kd.R_slice HO1229.out
         (first | subst eo69 | (injection eo69 with f1_ f2_ f3_; have f4_ := f1_.symm; have f5_ := f3_.symm; clear f1_ f2_ f3_; subst f4_; subst f5_))
         obtain ⟨Ao70, co70, eo70⟩ := Kd.S_slice HO1232.out
         (first | subst eo70 | (injection eo70 with f1_ f2_ f3_; have f4_ := f1_.symm; have f5_ := f3_.symm; clear f1_ f2_ f3_; subst f4_; subst f5_))
         refine hK.out _ _ ⟨(blk_cell BK1216.out 0).trans rfl, (blk_cell BK1216.out 1).trans rfl, (blk_cell BK1217.out 0).trans rfl, (blk_cell BK1217.out 1).trans rfl, (blk_cell BK1225.out 0).trans rfl, (blk_cell BK1225.out 1).trans rfl⟩ (fun hHeld => ?_)
         clear hK K
         refine norm_ (a' := ?_) ?_ ?_
         rotate_left
         ·show Act.put _ (some 90) _ = _
          simp only [pn_, sz_, ss_, i64_w, i32_w]
          rfl
         refine one_ (i := 9) (N := some 91) (bl 13 1023) rfl rfl (one_of HT_.out (by kernel_rfl)) (by decide) (fun K hK => ?_)
         refine gO_ Try.func32 #[.agg #[.slice Ao59 t1218.length co59, .slice Ao64 t1221.length co64], .agg #[.slice Ao69 t1227.length co69, .slice Ao70 t1230.length co70]] ?_
         with_reducible refine (spec_EqualDfa.calls k2 _ _ t1218 _ _ t1221 _ _ t1227 _ _ t1230 t1233 _ ?side1 ?side2 ?side3 ?side4 ?side5 ?side6 ?side7 ?side8 A43.out).mono ?_
         (case side1 => exact rc_ ((Kd.R_reads' HO1220.out).2.2))
         (case side2 => exact (Kd.R_reads' HO1220.out).2.1)
         (case side3 => exact rc_ ((Kd.S_reads' HO1223.out).2.2))
         (case side4 => exact (Kd.S_reads' HO1223.out).2.1)
         (case side5 => exact rc_ ((Kd.R_reads' HO1229.out).2.2))
         (case side6 => exact (Kd.R_reads' HO1229.out).2.1)
         (case side7 => exact rc_ ((Kd.S_reads' HO1232.out).2.2))
         (case side8 => exact (Kd.S_reads' HO1232.out).2.1)
         rintro e w71 ⟨rfl, hb⟩
         refine ⟨_, rfl, ?_⟩
         replace HO_8 := am_ (Kd.R_below (rr_ HO_8.out) hb)
         replace HO_1192000 := am_ (Kd.R_below (rr_ HO_1192000.out) hb)
         replace HO_1192001 := am_ (Kd.S_below (rs_ HO_1192001.out) hb)
         replace HO1206 := am_ (Kd.R_below (rr_ HO1206.out) hb)
         replace HO1209 := am_ (Kd.S_below (rs_ HO1209.out) hb)
         replace HO1212 := am_ (Kd.R_below (rr_ HO1212.out) hb)
         replace HO1215 := am_ (Kd.S_below (rs_ HO1215.out) hb)
         replace HO1220 := am_ (Kd.R_below (rr_ HO1220.out) hb)
         replace HO1223 := am_ (Kd.S_below (rs_ HO1223.out) hb)
         replace HO1229 := am_ (Kd.R_below (rr_ HO1229.out) hb)
         replace HO1232 := am_ (Kd.S_below (rs_ HO1232.out) hb)
         replace BK1191 := am_ (blk_below (rb_ BK1191.out) hb)
         replace BK1216 := am_ (blk_below (rb_ BK1216.out) hb)
         replace BK1217 := am_ (blk_below (rb_ BK1217.out) hb)
         replace BK1225 := am_ (blk_below (rb_ BK1225.out) hb)
         replace HB := am_ (below_step (b4_ HB.out GE1191.out GE1216.out GE1217.out GE1225.out) hb)
         (try clear hb)
         (try clear hb2)
         (try clear hk)
         (try clear hi)
         refine hK.out _ _ ⟨(blk_cell BK1216.out 0).trans rfl, (blk_cell BK1216.out 1).trans rfl, (blk_cell BK1217.out 0).trans rfl, (blk_cell BK1217.out 1).trans rfl, (blk_cell BK1225.out 0).trans rfl, (blk_cell BK1225.out 1).trans rfl⟩ (fun hHeld => ?_)
         clear hK K
         refine norm_ (a' := ?_) ?_ ?_
         rotate_left
         ·show Act.put _ (some 91) _ = _
          simp only [pn_, sz_, ss_, i64_w, i32_w]
          rfl
         refine pu_ 10 92 (bl 13 2047) HT_ ?_
         refine pu_ 11 93 (bl 13 4095) HT_ ?_
         refine pu_ 12 2 (bl 13 8191) HT_ ?_
         refine done_ (done_of HT_.out (by kernel_rfl)) ?_
         try go_wp2
         go_ret
         exact ⟨by first | rfl | (simp [errW_none, errW_some] <;> rfl) | (simp [*, errW_none, errW_some] <;> rfl), by exact zp57_1_ HB.out GE1191.out GE1216.out GE1217.out GE1225.out⟩
        ·replace c40 := Bool.eq_false_iff.mpr c40
         subst c40
         have H1 : (some true) = some r := by rw [if_neg (show ¬ (false = true) by decide)] at H; exact H
         clear H
         have H := H1
         clear H1
         obtain rfl := Option.some.inj H
         simp only [Option.some.injEq, Prod.mk.injEq] at H
         obtain ⟨rfl⟩ := H
         obtain ⟨Ao72, co72, eo72⟩ := Kd.R_slice HO_8.out
         subst eo72
         try go_wp2_with (first | ((with_reducible refine gate_callee (f := 50) rfl ?_); refine gL_ (some 73) Try.func50 #[.slice A0 l0.length c0] ?_; (with_reducible refine (spec_DrawIsIncluded.calls k2 _ _ l0 t1204 t1207 t1210 t1213 _ ?side1 ?side2 A38.out).mono ?_); (case side1 => exact rc_ (Kd.C_below HR0.out HB.out)); (case side2 => exact HC0.out); rintro e w73 ⟨v1205, v1208, v1211, v1214, rfl, ho0, ho1, ho2, ho3, hb⟩; refine ⟨_, rfl, ?_⟩; have n0_ := am_ (Kd.R_below (rr_ HO_8.out) hb); have n1_ := am_ (Kd.R_mono (Kd.R_told (Kd.R_told (Kd.R_old (rr_ HO_1192000.out) hb) (Kd.R_base ho0)) (Kd.R_base ho2)) (fun _ h_ => h_.1)); have n2_ := am_ (Kd.S_mono (Kd.S_told (Kd.S_told (Kd.S_old (rs_ HO_1192001.out) hb) (Kd.S_base ho1)) (Kd.S_base ho3)) (fun _ h_ => h_.1)); have n3_ := am_ (Kd.R_lower (Kd.R_new' ho0 (Kd.R_lt (rr_ HO_1192000.out))) (below_size (b1_ HB.out GE1191.out))); have n4_ := am_ (Kd.S_lower (Kd.S_new' ho1 (Kd.S_lt (rs_ HO_1192001.out))) (below_size (b1_ HB.out GE1191.out))); have n5_ := am_ (Kd.R_lower (Kd.R_new' ho2 (Kd.R_lt (rr_ HO_1192000.out))) (below_size (b1_ HB.out GE1191.out))); have n6_ := am_ (Kd.S_lower (Kd.S_new' ho3 (Kd.S_lt (rs_ HO_1192001.out))) (below_size (b1_ HB.out GE1191.out))); have n7_ := am_ (blk_below (rb_ BK1191.out) hb); have n8_ := am_ (below_step (b1_ HB.out GE1191.out) hb); clear HO_8; clear HO_1192000; clear HO_1192001; clear BK1191; clear HB; have HO_8 := n0_; have HO_1192000 := n1_; have HO_1192001 := n2_; have HO1206 := n3_; have HO1209 := n4_; have HO1212 := n5_; have HO1215 := n6_; have BK1191 := n7_; have HB := n8_; clear n0_ n1_ n2_ n3_ n4_ n5_ n6_ n7_ n8_; (try clear hb); (try clear hb2); (try clear hk); (try clear hi); (try clear ho0); (try clear ho1); (try clear ho2); (try clear ho3)) | ((with_reducible refine gate_dst (N := 10) rfl ?_); refine box_event ?hg (N := 10) ?hd (cs := #[.slice none 0 0, .slice none 0 0]) (t := 27) ?hr ?_; (case hd => rfl); (case hg => rfl); (case hr => first | (go_simp; done) | (go_simp; rfl)); intro gb1216 hg w74 hbox hb; have n0_ := am_ (Kd.R_below (rr_ HO_8.out) hb); have n1_ := am_ (Kd.R_below (rr_ HO_1192000.out) hb); have n2_ := am_ (Kd.S_below (rs_ HO_1192001.out) hb); have n3_ := am_ (Kd.R_below (rr_ HO1206.out) hb); have n4_ := am_ (Kd.S_below (rs_ HO1209.out) hb); have n5_ := am_ (Kd.R_below (rr_ HO1212.out) hb); have n6_ := am_ (Kd.S_below (rs_ HO1215.out) hb); have n7_ := am_ (blk_below (rb_ BK1191.out) hb); have n8_ := am_ (below_step (b1_ HB.out GE1191.out) hb); have n9_ := am_ (hbox); have n10_ := am_ ((by rw [hg]; exact (below_size (b1_ HB.out GE1191.out)) : w.heap.size ≤ gb1216)); have n11_ := am_ ((by rw [hg]; exact (below_size (b1_ HB.out GE1191.out)) : w.heap.size ≤ gb1216)); have n12_ := am_ ((by rw [hg]; exact Nat.ne_of_lt (blk_lt (rb_ BK1191.out)) : gb1191 ≠ gb1216)); have n13_ := am_ ((by rw [hg]; exact Nat.ne_of_gt (blk_lt (rb_ BK1191.out)) : gb1216 ≠ gb1191)); clear HO_8; clear HO_1192000; clear HO_1192001; clear HO1206; clear HO1209; clear HO1212; clear HO1215; clear BK1191; clear HB; have HO_8 := n0_; have HO_1192000 := n1_; have HO_1192001 := n2_; have HO1206 := n3_; have HO1209 := n4_; have HO1212 := n5_; have HO1215 := n6_; have BK1191 := n7_; have HB := n8_; have BK1216 := n9_; have GW1216 := n10_; have GE1216 := n11_; have NB1191_1216 := n12_; have NB1216_1191 := n13_; clear n0_ n1_ n2_ n3_ n4_ n5_ n6_ n7_ n8_ n9_ n10_ n11_ n12_ n13_; clear hb hbox hg) | ((with_reducible refine gate_dst (N := 11) rfl ?_); refine box_event ?hg (N := 11) ?hd (cs := #[.slice none 0 0, .slice none 0 0]) (t := 27) ?hr ?_; (case hd => rfl); (case hg => rfl); (case hr => first | (go_simp; done) | (go_simp; rfl)); intro gb1217 hg w75 hbox hb; have n0_ := am_ (Kd.R_below (rr_ HO_8.out) hb); have n1_ := am_ (Kd.R_below (rr_ HO_1192000.out) hb); have n2_ := am_ (Kd.S_below (rs_ HO_1192001.out) hb); have n3_ := am_ (Kd.R_below (rr_ HO1206.out) hb); have n4_ := am_ (Kd.S_below (rs_ HO1209.out) hb); have n5_ := am_ (Kd.R_below (rr_ HO1212.out) hb); have n6_ := am_ (Kd.S_below (rs_ HO1215.out) hb); have n7_ := am_ (blk_below (rb_ BK1191.out) hb); have n8_ := am_ (blk_below (rb_ BK1216.out) hb); have n9_ := am_ (below_step (b2_ HB.out GE1191.out GE1216.out) hb); have n10_ := am_ (hbox); have n11_ := am_ ((by rw [hg]; exact (below_size (b2_ HB.out GE1191.out GE1216.out)) : w.heap.size ≤ gb1217)); have n12_ := am_ ((by rw [hg]; exact (below_size (b2_ HB.out GE1191.out GE1216.out)) : w.heap.size ≤ gb1217)); have n13_ := am_ ((by rw [hg]; exact Nat.ne_of_lt (blk_lt (rb_ BK1191.out)) : gb1191 ≠ gb1217)); have n14_ := am_ ((by rw [hg]; exact Nat.ne_of_gt (blk_lt (rb_ BK1191.out)) : gb1217 ≠ gb1191)); have n15_ := am_ ((by rw [hg]; exact Nat.ne_of_lt (blk_lt (rb_ BK1216.out)) : gb1216 ≠ gb1217)); have n16_ := am_ ((by rw [hg]; exact Nat.ne_of_gt (blk_lt (rb_ BK1216.out)) : gb1217 ≠ gb1216)); clear HO_8; clear HO_1192000; clear HO_1192001; clear HO1206; clear HO1209; clear HO1212; clear HO1215; clear BK1191; clear BK1216; clear HB; have HO_8 := n0_; have HO_1192000 := n1_; have HO_1192001 := n2_; have HO1206 := n3_; have HO1209 := n4_; have HO1212 := n5_; have HO1215 := n6_; have BK1191 := n7_; have BK1216 := n8_; have HB := n9_; have BK1217 := n10_; have GW1217 := n11_; have GE1217 := n12_; have NB1191_1217 := n13_; have NB1217_1191 := n14_; have NB1216_1217 := n15_; have NB1217_1216 := n16_; clear n0_ n1_ n2_ n3_ n4_ n5_ n6_ n7_ n8_ n9_ n10_ n11_ n12_ n13_ n14_ n15_ n16_; clear hb hbox hg; obtain ⟨Ao76, co76, eo76⟩ := Kd.R_slice HO1206.out; subst eo76; have hnb77 := NB1216_1191.out; have hnc77 := NB1191_1216.out; have hnb78 := NB1216_1217.out; have hnc78 := NB1217_1216.out; have hcz79_0 : w75.cell? ⟨gb1216, 0, none⟩ = some (.slice none 0 0) := (blk_cell BK1216.out 0).trans rfl; have hcz79_1 : w75.cell? ⟨gb1216, 1, none⟩ = some (.slice none 0 0) := (blk_cell BK1216.out 1).trans rfl; have hfz79_0 := blk_frozen BK1216.out 0; have hfz79_1 := blk_frozen BK1216.out 1; obtain ⟨Ao80, co80, eo80⟩ := Kd.S_slice HO1209.out; subst eo80; obtain ⟨Ao81, co81, eo81⟩ := Kd.R_slice HO1212.out; subst eo81; have hnb82 := NB1217_1191.out; have hnc82 := NB1191_1217.out; have hcz83_0 : w75.cell? ⟨gb1217, 0, none⟩ = some (.slice none 0 0) := (blk_cell BK1217.out 0).trans rfl; have hcz83_1 : w75.cell? ⟨gb1217, 1, none⟩ = some (.slice none 0 0) := (blk_cell BK1217.out 1).trans rfl; have hfz83_0 := blk_frozen BK1217.out 0; have hfz83_1 := blk_frozen BK1217.out 1; obtain ⟨Ao84, co84, eo84⟩ := Kd.S_slice HO1215.out; subst eo84) | ((with_reducible refine gate_callee (f := 19) rfl ?_); refine gL_ (some 79) Try.func19 #[.agg #[.slice Ao76 t1204.length co76, .slice Ao80 t1207.length co80], .agg #[.slice Ao81 t1210.length co81, .slice Ao84 t1213.length co84], .int .i64 6] ?_; (with_reducible refine (spec_ProductDfa.calls _ _ t1204 _ _ t1207 _ _ t1210 _ _ t1213 6 t1218 t1221 false _ ?side1 ?side2 ?side3 ?side4 ?side5 ?side6 ?side7 ?side8 A39.out).mono ?_); (case side1 => refine (Kd.R_reads' (e := 4) (base := w.heap.size) (ok := fun k_ => (some k_ ≠ (.slice Ao81 t1210.length co81 : Value).ownBlock ∧ some k_ ≠ (.slice Ao10 t1185.length co10 : Value).ownBlock)) (n := t1204.length) (c := co76) ?_).2.2; exact (rr_ (Kd.R_mono (Kd.R_mono (Kd.R_far (p := ⟨gb1217, 1, none⟩) (Kd.R_far (p := ⟨gb1217, 0, none⟩) (Kd.R_far (p := ⟨gb1216, 1, none⟩) (Kd.R_far (p := ⟨gb1216, 0, none⟩) (Kd.R_types (Kd.R_types HO1206.out BK1216.out (by decide)) BK1217.out (by decide)) (fun _ hk => hk.1.2) (.slice Ao76 t1204.length co76)) (fun _ hk => hk.1.2) (.slice Ao80 t1207.length co80)) (fun _ hk => hk.2) (.slice Ao81 t1210.length co81)) (fun _ hk => hk.2) (.slice Ao84 t1213.length co84)) (fun _ h_ => h_.1)) (fun _ h_ => h_.1)))); (case side2 => exact (Kd.R_reads' HO1206.out).2.1); (case side3 => refine (Kd.S_reads' (e := 67) (base := w.heap.size) (ok := fun k_ => (some k_ ≠ (.slice Ao84 t1213.length co84 : Value).ownBlock ∧ some k_ ≠ (.slice Ao12 t1188.length co12 : Value).ownBlock)) (n := t1207.length) (c := co80) ?_).2.2; exact (rs_ (Kd.S_mono (Kd.S_mono (Kd.S_far (p := ⟨gb1217, 1, none⟩) (Kd.S_far (p := ⟨gb1217, 0, none⟩) (Kd.S_far (p := ⟨gb1216, 1, none⟩) (Kd.S_far (p := ⟨gb1216, 0, none⟩) (Kd.S_types (Kd.S_types HO1209.out BK1216.out (by decide)) BK1217.out (by decide)) (fun _ hk => hk.1.2) (.slice Ao76 t1204.length co76)) (fun _ hk => hk.1.2) (.slice Ao80 t1207.length co80)) (fun _ hk => hk.2) (.slice Ao81 t1210.length co81)) (fun _ hk => hk.2) (.slice Ao84 t1213.length co84)) (fun _ h_ => h_.1)) (fun _ h_ => h_.1)))); (case side4 => exact (Kd.S_reads' HO1209.out).2.1); (case side5 => refine (Kd.R_reads' (e := 4) (base := w.heap.size) (ok := fun k_ => (some k_ ≠ (.slice Ao76 t1204.length co76 : Value).ownBlock ∧ some k_ ≠ (.slice Ao10 t1185.length co10 : Value).ownBlock)) (n := t1210.length) (c := co81) ?_).2.2; exact (rr_ (Kd.R_mono (Kd.R_mono (Kd.R_far (p := ⟨gb1217, 1, none⟩) (Kd.R_far (p := ⟨gb1217, 0, none⟩) (Kd.R_far (p := ⟨gb1216, 1, none⟩) (Kd.R_far (p := ⟨gb1216, 0, none⟩) (Kd.R_types (Kd.R_types HO1212.out BK1216.out (by decide)) BK1217.out (by decide)) (fun _ hk => hk.1.2) (.slice Ao76 t1204.length co76)) (fun _ hk => hk.1.2) (.slice Ao80 t1207.length co80)) (fun _ hk => hk.2) (.slice Ao81 t1210.length co81)) (fun _ hk => hk.2) (.slice Ao84 t1213.length co84)) (fun _ h_ => h_.1)) (fun _ h_ => h_.1)))); (case side6 => exact (Kd.R_reads' HO1212.out).2.1); (case side7 => refine (Kd.S_reads' (e := 67) (base := w.heap.size) (ok := fun k_ => (some k_ ≠ (.slice Ao80 t1207.length co80 : Value).ownBlock ∧ some k_ ≠ (.slice Ao12 t1188.length co12 : Value).ownBlock)) (n := t1213.length) (c := co84) ?_).2.2; exact (rs_ (Kd.S_mono (Kd.S_mono (Kd.S_far (p := ⟨gb1217, 1, none⟩) (Kd.S_far (p := ⟨gb1217, 0, none⟩) (Kd.S_far (p := ⟨gb1216, 1, none⟩) (Kd.S_far (p := ⟨gb1216, 0, none⟩) (Kd.S_types (Kd.S_types HO1215.out BK1216.out (by decide)) BK1217.out (by decide)) (fun _ hk => hk.1.2) (.slice Ao76 t1204.length co76)) (fun _ hk => hk.1.2) (.slice Ao80 t1207.length co80)) (fun _ hk => hk.2) (.slice Ao81 t1210.length co81)) (fun _ hk => hk.2) (.slice Ao84 t1213.length co84)) (fun _ h_ => h_.1)) (fun _ h_ => h_.1)))); (case side8 => exact (Kd.S_reads' HO1215.out).2.1); rintro e w85 ⟨v1219, v1222, rfl, ho0, ho1, hb⟩; refine ⟨_, rfl, ?_⟩; have n0_ := am_ (Kd.R_below (rr_ (Kd.R_mono (Kd.R_mono (Kd.R_far (p := ⟨gb1217, 1, none⟩) (Kd.R_far (p := ⟨gb1217, 0, none⟩) (Kd.R_far (p := ⟨gb1216, 1, none⟩) (Kd.R_far (p := ⟨gb1216, 0, none⟩) (Kd.R_types (Kd.R_types HO_8.out BK1216.out (by decide)) BK1217.out (by decide)) (fun _ hk => hk.1.2) (.slice Ao76 t1204.length co76)) (fun _ hk => hk.1.2) (.slice Ao80 t1207.length co80)) (fun _ hk => hk.2) (.slice Ao81 t1210.length co81)) (fun _ hk => hk.2) (.slice Ao84 t1213.length co84)) (fun _ h_ => h_.1)) (fun _ h_ => h_.1))) hb); have n1_ := am_ (Kd.R_elder' (rr_ (Kd.R_mono (Kd.R_mono (Kd.R_far (p := ⟨gb1217, 1, none⟩) (Kd.R_far (p := ⟨gb1217, 0, none⟩) (Kd.R_far (p := ⟨gb1216, 1, none⟩) (Kd.R_far (p := ⟨gb1216, 0, none⟩) (Kd.R_types (Kd.R_types HO_1192000.out BK1216.out (by decide)) BK1217.out (by decide)) (fun _ hk => hk.1.2) (.slice Ao76 t1204.length co76)) (fun _ hk => hk.1.2) (.slice Ao80 t1207.length co80)) (fun _ hk => hk.2) (.slice Ao81 t1210.length co81)) (fun _ hk => hk.2) (.slice Ao84 t1213.length co84)) (fun _ h_ => h_.1)) (fun _ h_ => h_.1))) (Kd.R_base ho0) hb); have n2_ := am_ (Kd.S_elder' (rs_ (Kd.S_mono (Kd.S_mono (Kd.S_far (p := ⟨gb1217, 1, none⟩) (Kd.S_far (p := ⟨gb1217, 0, none⟩) (Kd.S_far (p := ⟨gb1216, 1, none⟩) (Kd.S_far (p := ⟨gb1216, 0, none⟩) (Kd.S_types (Kd.S_types HO_1192001.out BK1216.out (by decide)) BK1217.out (by decide)) (fun _ hk => hk.1.2) (.slice Ao76 t1204.length co76)) (fun _ hk => hk.1.2) (.slice Ao80 t1207.length co80)) (fun _ hk => hk.2) (.slice Ao81 t1210.length co81)) (fun _ hk => hk.2) (.slice Ao84 t1213.length co84)) (fun _ h_ => h_.1)) (fun _ h_ => h_.1))) (Kd.S_base ho1) hb); have n3_ := am_ (Kd.R_elder' (rr_ (Kd.R_mono (Kd.R_mono (Kd.R_far (p := ⟨gb1217, 1, none⟩) (Kd.R_far (p := ⟨gb1217, 0, none⟩) (Kd.R_far (p := ⟨gb1216, 1, none⟩) (Kd.R_far (p := ⟨gb1216, 0, none⟩) (Kd.R_types (Kd.R_types HO1206.out BK1216.out (by decide)) BK1217.out (by decide)) (fun _ hk => hk.1.2) (.slice Ao76 t1204.length co76)) (fun _ hk => hk.1.2) (.slice Ao80 t1207.length co80)) (fun _ hk => hk.2) (.slice Ao81 t1210.length co81)) (fun _ hk => hk.2) (.slice Ao84 t1213.length co84)) (fun _ h_ => h_.1)) (fun _ h_ => h_.1))) (Kd.R_base ho0) hb); have n4_ := am_ (Kd.S_elder' (rs_ (Kd.S_mono (Kd.S_mono (Kd.S_far (p := ⟨gb1217, 1, none⟩) (Kd.S_far (p := ⟨gb1217, 0, none⟩) (Kd.S_far (p := ⟨gb1216, 1, none⟩) (Kd.S_far (p := ⟨gb1216, 0, none⟩) (Kd.S_types (Kd.S_types HO1209.out BK1216.out (by decide)) BK1217.out (by decide)) (fun _ hk => hk.1.2) (.slice Ao76 t1204.length co76)) (fun _ hk => hk.1.2) (.slice Ao80 t1207.length co80)) (fun _ hk => hk.2) (.slice Ao81 t1210.length co81)) (fun _ hk => hk.2) (.slice Ao84 t1213.length co84)) (fun _ h_ => h_.1)) (fun _ h_ => h_.1))) (Kd.S_base ho1) hb); have n5_ := am_ (Kd.R_elder' (rr_ (Kd.R_mono (Kd.R_mono (Kd.R_far (p := ⟨gb1217, 1, none⟩) (Kd.R_far (p := ⟨gb1217, 0, none⟩) (Kd.R_far (p := ⟨gb1216, 1, none⟩) (Kd.R_far (p := ⟨gb1216, 0, none⟩) (Kd.R_types (Kd.R_types HO1212.out BK1216.out (by decide)) BK1217.out (by decide)) (fun _ hk => hk.1.2) (.slice Ao76 t1204.length co76)) (fun _ hk => hk.1.2) (.slice Ao80 t1207.length co80)) (fun _ hk => hk.2) (.slice Ao81 t1210.length co81)) (fun _ hk => hk.2) (.slice Ao84 t1213.length co84)) (fun _ h_ => h_.1)) (fun _ h_ => h_.1))) (Kd.R_base ho0) hb); have n6_ := am_ (Kd.S_elder' (rs_ (Kd.S_mono (Kd.S_mono (Kd.S_far (p := ⟨gb1217, 1, none⟩) (Kd.S_far (p := ⟨gb1217, 0, none⟩) (Kd.S_far (p := ⟨gb1216, 1, none⟩) (Kd.S_far (p := ⟨gb1216, 0, none⟩) (Kd.S_types (Kd.S_types HO1215.out BK1216.out (by decide)) BK1217.out (by decide)) (fun _ hk => hk.1.2) (.slice Ao76 t1204.length co76)) (fun _ hk => hk.1.2) (.slice Ao80 t1207.length co80)) (fun _ hk => hk.2) (.slice Ao81 t1210.length co81)) (fun _ hk => hk.2) (.slice Ao84 t1213.length co84)) (fun _ h_ => h_.1)) (fun _ h_ => h_.1))) (Kd.S_base ho1) hb); have n7_ := am_ (Kd.R_lower (Kd.R_new' (Kd.R_new' (Kd.R_new' ho0 (Kd.R_lt (rr_ (Kd.R_mono (Kd.R_mono (Kd.R_far (p := ⟨gb1217, 1, none⟩) (Kd.R_far (p := ⟨gb1217, 0, none⟩) (Kd.R_far (p := ⟨gb1216, 1, none⟩) (Kd.R_far (p := ⟨gb1216, 0, none⟩) (Kd.R_types (Kd.R_types HO_1192000.out BK1216.out (by decide)) BK1217.out (by decide)) (fun _ hk => hk.1.2) (.slice Ao76 t1204.length co76)) (fun _ hk => hk.1.2) (.slice Ao80 t1207.length co80)) (fun _ hk => hk.2) (.slice Ao81 t1210.length co81)) (fun _ hk => hk.2) (.slice Ao84 t1213.length co84)) (fun _ h_ => h_.1)) (fun _ h_ => h_.1))))) (Kd.R_lt (rr_ (Kd.R_mono (Kd.R_mono (Kd.R_far (p := ⟨gb1217, 1, none⟩) (Kd.R_far (p := ⟨gb1217, 0, none⟩) (Kd.R_far (p := ⟨gb1216, 1, none⟩) (Kd.R_far (p := ⟨gb1216, 0, none⟩) (Kd.R_types (Kd.R_types HO1206.out BK1216.out (by decide)) BK1217.out (by decide)) (fun _ hk => hk.1.2) (.slice Ao76 t1204.length co76)) (fun _ hk => hk.1.2) (.slice Ao80 t1207.length co80)) (fun _ hk => hk.2) (.slice Ao81 t1210.length co81)) (fun _ hk => hk.2) (.slice Ao84 t1213.length co84)) (fun _ h_ => h_.1)) (fun _ h_ => h_.1))))) (Kd.R_lt (rr_ (Kd.R_mono (Kd.R_mono (Kd.R_far (p := ⟨gb1217, 1, none⟩) (Kd.R_far (p := ⟨gb1217, 0, none⟩) (Kd.R_far (p := ⟨gb1216, 1, none⟩) (Kd.R_far (p := ⟨gb1216, 0, none⟩) (Kd.R_types (Kd.R_types HO1212.out BK1216.out (by decide)) BK1217.out (by decide)) (fun _ hk => hk.1.2) (.slice Ao76 t1204.length co76)) (fun _ hk => hk.1.2) (.slice Ao80 t1207.length co80)) (fun _ hk => hk.2) (.slice Ao81 t1210.length co81)) (fun _ hk => hk.2) (.slice Ao84 t1213.length co84)) (fun _ h_ => h_.1)) (fun _ h_ => h_.1))))) (below_size (b3_ HB.out GE1191.out GE1216.out GE1217.out))); have n8_ := am_ (Kd.S_lower (Kd.S_new' (Kd.S_new' (Kd.S_new' ho1 (Kd.S_lt (rs_ (Kd.S_mono (Kd.S_mono (Kd.S_far (p := ⟨gb1217, 1, none⟩) (Kd.S_far (p := ⟨gb1217, 0, none⟩) (Kd.S_far (p := ⟨gb1216, 1, none⟩) (Kd.S_far (p := ⟨gb1216, 0, none⟩) (Kd.S_types (Kd.S_types HO_1192001.out BK1216.out (by decide)) BK1217.out (by decide)) (fun _ hk => hk.1.2) (.slice Ao76 t1204.length co76)) (fun _ hk => hk.1.2) (.slice Ao80 t1207.length co80)) (fun _ hk => hk.2) (.slice Ao81 t1210.length co81)) (fun _ hk => hk.2) (.slice Ao84 t1213.length co84)) (fun _ h_ => h_.1)) (fun _ h_ => h_.1))))) (Kd.S_lt (rs_ (Kd.S_mono (Kd.S_mono (Kd.S_far (p := ⟨gb1217, 1, none⟩) (Kd.S_far (p := ⟨gb1217, 0, none⟩) (Kd.S_far (p := ⟨gb1216, 1, none⟩) (Kd.S_far (p := ⟨gb1216, 0, none⟩) (Kd.S_types (Kd.S_types HO1209.out BK1216.out (by decide)) BK1217.out (by decide)) (fun _ hk => hk.1.2) (.slice Ao76 t1204.length co76)) (fun _ hk => hk.1.2) (.slice Ao80 t1207.length co80)) (fun _ hk => hk.2) (.slice Ao81 t1210.length co81)) (fun _ hk => hk.2) (.slice Ao84 t1213.length co84)) (fun _ h_ => h_.1)) (fun _ h_ => h_.1))))) (Kd.S_lt (rs_ (Kd.S_mono (Kd.S_mono (Kd.S_far (p := ⟨gb1217, 1, none⟩) (Kd.S_far (p := ⟨gb1217, 0, none⟩) (Kd.S_far (p := ⟨gb1216, 1, none⟩) (Kd.S_far (p := ⟨gb1216, 0, none⟩) (Kd.S_types (Kd.S_types HO1215.out BK1216.out (by decide)) BK1217.out (by decide)) (fun _ hk => hk.1.2) (.slice Ao76 t1204.length co76)) (fun _ hk => hk.1.2) (.slice Ao80 t1207.length co80)) (fun _ hk => hk.2) (.slice Ao81 t1210.length co81)) (fun _ hk => hk.2) (.slice Ao84 t1213.length co84)) (fun _ h_ => h_.1)) (fun _ h_ => h_.1))))) (below_size (b3_ HB.out GE1191.out GE1216.out GE1217.out))); have n9_ := am_ (blk_below (g := gb1191) (o := .cells #[.slice Ao10 t1185.length co10, .slice Ao12 t1188.length co12] 27 (0, 0)) (by refine rb_ ?_; refine blk_far ?_ NB1191_1217.out _; refine rb_ ?_; refine blk_far ?_ NB1191_1217.out _; refine rb_ ?_; refine blk_far ?_ NB1191_1216.out _; refine rb_ ?_; refine blk_far ?_ NB1191_1216.out _; refine rb_ ?_; exact BK1191.out) hb); have n10_ := am_ (blk_below (g := gb1216) (o := .cells #[.slice Ao76 t1204.length co76, .slice Ao80 t1207.length co80] 27 (0, 0)) (by refine rb_ ?_; refine blk_far ?_ NB1216_1217.out _; refine rb_ ?_; refine blk_far ?_ NB1216_1217.out _; refine rb_ ?_; refine blk_put (cs := #[.slice Ao76 t1204.length co76, .slice none 0 0]) ?_ 1 _ rfl; refine rb_ ?_; refine blk_put (cs := #[.slice none 0 0, .slice none 0 0]) ?_ 0 _ rfl; refine rb_ ?_; exact BK1216.out) hb); have n11_ := am_ (blk_below (g := gb1217) (o := .cells #[.slice Ao81 t1210.length co81, .slice Ao84 t1213.length co84] 27 (0, 0)) (by refine rb_ ?_; refine blk_put (cs := #[.slice Ao81 t1210.length co81, .slice none 0 0]) ?_ 1 _ rfl; refine rb_ ?_; refine blk_put (cs := #[.slice none 0 0, .slice none 0 0]) ?_ 0 _ rfl; refine rb_ ?_; refine blk_far ?_ NB1217_1216.out _; refine rb_ ?_; refine blk_far ?_ NB1217_1216.out _; refine rb_ ?_; exact BK1217.out) hb); have n12_ := am_ (below_step (b3_ HB.out GE1191.out GE1216.out GE1217.out) hb); clear HO_8; clear HO_1192000; clear HO_1192001; clear HO1206; clear HO1209; clear HO1212; clear HO1215; clear BK1191; clear BK1216; clear BK1217; clear HB; have HO_8 := n0_; have HO_1192000 := n1_; have HO_1192001 := n2_; have HO1206 := n3_; have HO1209 := n4_; have HO1212 := n5_; have HO1215 := n6_; have HO1220 := n7_; have HO1223 := n8_; have BK1191 := n9_; have BK1216 := n10_; have BK1217 := n11_; have HB := n12_; clear n0_ n1_ n2_ n3_ n4_ n5_ n6_ n7_ n8_ n9_ n10_ n11_ n12_; (try clear hb); (try clear hb2); (try clear hk); (try clear hi); (try clear ho0); (try clear ho1)) | ((with_reducible refine gate_dst (N := 12) rfl ?_); refine box_event ?hg (N := 12) ?hd (cs := #[.slice none 0 0, .slice none 0 0]) (t := 27) ?hr ?_; (case hd => rfl); (case hg => rfl); (case hr => first | (go_simp; done) | (go_simp; rfl)); intro gb1225 hg w86 hbox hb; have n0_ := am_ (Kd.R_below (rr_ HO_8.out) hb); have n1_ := am_ (Kd.R_below (rr_ HO_1192000.out) hb); have n2_ := am_ (Kd.S_below (rs_ HO_1192001.out) hb); have n3_ := am_ (Kd.R_below (rr_ HO1206.out) hb); have n4_ := am_ (Kd.S_below (rs_ HO1209.out) hb); have n5_ := am_ (Kd.R_below (rr_ HO1212.out) hb); have n6_ := am_ (Kd.S_below (rs_ HO1215.out) hb); have n7_ := am_ (Kd.R_below (rr_ HO1220.out) hb); have n8_ := am_ (Kd.S_below (rs_ HO1223.out) hb); have n9_ := am_ (blk_below (rb_ BK1191.out) hb); have n10_ := am_ (blk_below (rb_ BK1216.out) hb); have n11_ := am_ (blk_below (rb_ BK1217.out) hb); have n12_ := am_ (below_step (b3_ HB.out GE1191.out GE1216.out GE1217.out) hb); have n13_ := am_ (hbox); have n14_ := am_ ((by rw [hg]; exact (below_size (b3_ HB.out GE1191.out GE1216.out GE1217.out)) : w.heap.size ≤ gb1225)); have n15_ := am_ ((by rw [hg]; exact (below_size (b3_ HB.out GE1191.out GE1216.out GE1217.out)) : w.heap.size ≤ gb1225)); have n16_ := am_ ((by rw [hg]; exact Nat.ne_of_lt (blk_lt (rb_ BK1191.out)) : gb1191 ≠ gb1225)); have n17_ := am_ ((by rw [hg]; exact Nat.ne_of_gt (blk_lt (rb_ BK1191.out)) : gb1225 ≠ gb1191)); have n18_ := am_ ((by rw [hg]; exact Nat.ne_of_lt (blk_lt (rb_ BK1216.out)) : gb1216 ≠ gb1225)); have n19_ := am_ ((by rw [hg]; exact Nat.ne_of_gt (blk_lt (rb_ BK1216.out)) : gb1225 ≠ gb1216)); have n20_ := am_ ((by rw [hg]; exact Nat.ne_of_lt (blk_lt (rb_ BK1217.out)) : gb1217 ≠ gb1225)); have n21_ := am_ ((by rw [hg]; exact Nat.ne_of_gt (blk_lt (rb_ BK1217.out)) : gb1225 ≠ gb1217)); clear HO_8; clear HO_1192000; clear HO_1192001; clear HO1206; clear HO1209; clear HO1212; clear HO1215; clear HO1220; clear HO1223; clear BK1191; clear BK1216; clear BK1217; clear HB; have HO_8 := n0_; have HO_1192000 := n1_; have HO_1192001 := n2_; have HO1206 := n3_; have HO1209 := n4_; have HO1212 := n5_; have HO1215 := n6_; have HO1220 := n7_; have HO1223 := n8_; have BK1191 := n9_; have BK1216 := n10_; have BK1217 := n11_; have HB := n12_; have BK1225 := n13_; have GW1225 := n14_; have GE1225 := n15_; have NB1191_1225 := n16_; have NB1225_1191 := n17_; have NB1216_1225 := n18_; have NB1225_1216 := n19_; have NB1217_1225 := n20_; have NB1225_1217 := n21_; clear n0_ n1_ n2_ n3_ n4_ n5_ n6_ n7_ n8_ n9_ n10_ n11_ n12_ n13_ n14_ n15_ n16_ n17_ n18_ n19_ n20_ n21_; clear hb hbox hg; obtain ⟨Ao87, co87, eo87⟩ := Kd.R_slice HO1220.out; subst eo87; have hnb88 := NB1225_1191.out; have hnc88 := NB1191_1225.out; have hnb89 := NB1225_1216.out; have hnc89 := NB1216_1225.out; have hnb90 := NB1225_1217.out; have hnc90 := NB1217_1225.out; have hcz91_0 : w86.cell? ⟨gb1225, 0, none⟩ = some (.slice none 0 0) := (blk_cell BK1225.out 0).trans rfl; have hcz91_1 : w86.cell? ⟨gb1225, 1, none⟩ = some (.slice none 0 0) := (blk_cell BK1225.out 1).trans rfl; have hfz91_0 := blk_frozen BK1225.out 0; have hfz91_1 := blk_frozen BK1225.out 1; obtain ⟨Ao92, co92, eo92⟩ := Kd.S_slice HO1223.out; subst eo92))
         have n0_ : Aside0 (Kd.R Kd.string 9 ((w86.setCell ⟨gb1225, 0, none⟩ (.slice Ao87 t1218.length co87)).setCell ⟨gb1225, 1, none⟩ (.slice Ao92 t1221.length co92)) w.heap.size (fun _ => True) (.slice Ao72 t1197.length co72) t1197) := ⟨by refine rr_ ?_; exact Kd.R_mono (Kd.R_far (p := ⟨gb1225, 1, none⟩) (Kd.R_far (p := ⟨gb1225, 0, none⟩) (Kd.R_types HO_8.out BK1225.out (by decide)) (fun _ hk => hk.2) (.slice Ao87 t1218.length co87)) (fun _ hk => hk.2) (.slice Ao92 t1221.length co92)) (fun _ hk => trivial)⟩
         have n1_ : Aside0 (Kd.R Kd.bool 4 ((w86.setCell ⟨gb1225, 0, none⟩ (.slice Ao87 t1218.length co87)).setCell ⟨gb1225, 1, none⟩ (.slice Ao92 t1221.length co92)) w.heap.size (fun k_ => some k_ ≠ (.slice Ao76 t1204.length co76 : Value).ownBlock ∧ some k_ ≠ (.slice Ao81 t1210.length co81 : Value).ownBlock ∧ some k_ ≠ (.slice Ao87 t1218.length co87 : Value).ownBlock) (.slice Ao10 t1185.length co10) t1185) := ⟨by refine rr_ ?_; exact Kd.R_mono (Kd.R_far (p := ⟨gb1225, 1, none⟩) (Kd.R_far (p := ⟨gb1225, 0, none⟩) (Kd.R_types HO_1192000.out BK1225.out (by decide)) (fun _ hk => hk.2) (.slice Ao87 t1218.length co87)) (fun _ hk => hk.2) (.slice Ao92 t1221.length co92)) (fun _ hk => ⟨hk.1.1.1.2, ⟨hk.1.1.2, hk.1.2⟩⟩)⟩
         have n2_ : Aside0 (Kd.S (Kd.slice 3 (Kd.int .i64)) 67 ((w86.setCell ⟨gb1225, 0, none⟩ (.slice Ao87 t1218.length co87)).setCell ⟨gb1225, 1, none⟩ (.slice Ao92 t1221.length co92)) w.heap.size (fun k_ => some k_ ≠ (.slice Ao80 t1207.length co80 : Value).ownBlock ∧ some k_ ≠ (.slice Ao84 t1213.length co84 : Value).ownBlock ∧ some k_ ≠ (.slice Ao92 t1221.length co92 : Value).ownBlock) (.slice Ao12 t1188.length co12) t1188) := ⟨by refine rs_ ?_; exact Kd.S_mono (Kd.S_far (p := ⟨gb1225, 1, none⟩) (Kd.S_far (p := ⟨gb1225, 0, none⟩) (Kd.S_types HO_1192001.out BK1225.out (by decide)) (fun _ hk => hk.2) (.slice Ao87 t1218.length co87)) (fun _ hk => hk.2) (.slice Ao92 t1221.length co92)) (fun _ hk => ⟨hk.1.1.1.2, ⟨hk.1.1.2, hk.1.2⟩⟩)⟩
         have n3_ : Aside0 (Kd.R Kd.bool 4 ((w86.setCell ⟨gb1225, 0, none⟩ (.slice Ao87 t1218.length co87)).setCell ⟨gb1225, 1, none⟩ (.slice Ao92 t1221.length co92)) w.heap.size (fun k_ => some k_ ≠ (.slice Ao10 t1185.length co10 : Value).ownBlock ∧ some k_ ≠ (.slice Ao81 t1210.length co81 : Value).ownBlock ∧ some k_ ≠ (.slice Ao87 t1218.length co87 : Value).ownBlock) (.slice Ao76 t1204.length co76) t1204) := ⟨by refine rr_ ?_; exact Kd.R_mono (Kd.R_far (p := ⟨gb1225, 1, none⟩) (Kd.R_far (p := ⟨gb1225, 0, none⟩) (Kd.R_types HO1206.out BK1225.out (by decide)) (fun _ hk => hk.2) (.slice Ao87 t1218.length co87)) (fun _ hk => hk.2) (.slice Ao92 t1221.length co92)) (fun _ hk => ⟨hk.1.1.2, ⟨hk.1.1.1, hk.1.2⟩⟩)⟩
         have n4_ : Aside0 (Kd.S (Kd.slice 3 (Kd.int .i64)) 67 ((w86.setCell ⟨gb1225, 0, none⟩ (.slice Ao87 t1218.length co87)).setCell ⟨gb1225, 1, none⟩ (.slice Ao92 t1221.length co92)) w.heap.size (fun k_ => some k_ ≠ (.slice Ao12 t1188.length co12 : Value).ownBlock ∧ some k_ ≠ (.slice Ao84 t1213.length co84 : Value).ownBlock ∧ some k_ ≠ (.slice Ao92 t1221.length co92 : Value).ownBlock) (.slice Ao80 t1207.length co80) t1207) := ⟨by refine rs_ ?_; exact Kd.S_mono (Kd.S_far (p := ⟨gb1225, 1, none⟩) (Kd.S_far (p := ⟨gb1225, 0, none⟩) (Kd.S_types HO1209.out BK1225.out (by decide)) (fun _ hk => hk.2) (.slice Ao87 t1218.length co87)) (fun _ hk => hk.2) (.slice Ao92 t1221.length co92)) (fun _ hk => ⟨hk.1.1.2, ⟨hk.1.1.1, hk.1.2⟩⟩)⟩
         have n5_ : Aside0 (Kd.R Kd.bool 4 ((w86.setCell ⟨gb1225, 0, none⟩ (.slice Ao87 t1218.length co87)).setCell ⟨gb1225, 1, none⟩ (.slice Ao92 t1221.length co92)) w.heap.size (fun k_ => some k_ ≠ (.slice Ao10 t1185.length co10 : Value).ownBlock ∧ some k_ ≠ (.slice Ao76 t1204.length co76 : Value).ownBlock ∧ some k_ ≠ (.slice Ao87 t1218.length co87 : Value).ownBlock) (.slice Ao81 t1210.length co81) t1210) := ⟨by refine rr_ ?_; exact Kd.R_mono (Kd.R_far (p := ⟨gb1225, 1, none⟩) (Kd.R_far (p := ⟨gb1225, 0, none⟩) (Kd.R_types HO1212.out BK1225.out (by decide)) (fun _ hk => hk.2) (.slice Ao87 t1218.length co87)) (fun _ hk => hk.2) (.slice Ao92 t1221.length co92)) (fun _ hk => ⟨hk.1.1.2, ⟨hk.1.1.1, hk.1.2⟩⟩)⟩
         have n6_ : Aside0 (Kd.S (Kd.slice 3 (Kd.int .i64)) 67 ((w86.setCell ⟨gb1225, 0, none⟩ (.slice Ao87 t1218.length co87)).setCell ⟨gb1225, 1, none⟩ (.slice Ao92 t1221.length co92)) w.heap.size (fun k_ => some k_ ≠ (.slice Ao12 t1188.length co12 : Value).ownBlock ∧ some k_ ≠ (.slice Ao80 t1207.length co80 : Value).ownBlock ∧ some k_ ≠ (.slice Ao92 t1221.length co92 : Value).ownBlock) (.slice Ao84 t1213.length co84) t1213) := ⟨by refine rs_ ?_; exact Kd.S_mono (Kd.S_far (p := ⟨gb1225, 1, none⟩) (Kd.S_far (p := ⟨gb1225, 0, none⟩) (Kd.S_types HO1215.out BK1225.out (by decide)) (fun _ hk => hk.2) (.slice Ao87 t1218.length co87)) (fun _ hk => hk.2) (.slice Ao92 t1221.length co92)) (fun _ hk => ⟨hk.1.1.2, ⟨hk.1.1.1, hk.1.2⟩⟩)⟩
         have n7_ : Aside0 (Kd.R Kd.bool 4 ((w86.setCell ⟨gb1225, 0, none⟩ (.slice Ao87 t1218.length co87)).setCell ⟨gb1225, 1, none⟩ (.slice Ao92 t1221.length co92)) w.heap.size (fun k_ => some k_ ≠ (.slice Ao10 t1185.length co10 : Value).ownBlock ∧ some k_ ≠ (.slice Ao76 t1204.length co76 : Value).ownBlock ∧ some k_ ≠ (.slice Ao81 t1210.length co81 : Value).ownBlock) (.slice Ao87 t1218.length co87) t1218) := ⟨by refine rr_ ?_; exact Kd.R_mono (Kd.R_far (p := ⟨gb1225, 1, none⟩) (Kd.R_far (p := ⟨gb1225, 0, none⟩) (Kd.R_types HO1220.out BK1225.out (by decide)) (fun _ hk => hk.2) (.slice Ao87 t1218.length co87)) (fun _ hk => hk.2) (.slice Ao92 t1221.length co92)) (fun _ hk => ⟨hk.1.1.1.2, ⟨hk.1.1.2, hk.1.2⟩⟩)⟩
         have n8_ : Aside0 (Kd.S (Kd.slice 3 (Kd.int .i64)) 67 ((w86.setCell ⟨gb1225, 0, none⟩ (.slice Ao87 t1218.length co87)).setCell ⟨gb1225, 1, none⟩ (.slice Ao92 t1221.length co92)) w.heap.size (fun k_ => some k_ ≠ (.slice Ao12 t1188.length co12 : Value).ownBlock ∧ some k_ ≠ (.slice Ao80 t1207.length co80 : Value).ownBlock ∧ some k_ ≠ (.slice Ao84 t1213.length co84 : Value).ownBlock) (.slice Ao92 t1221.length co92) t1221) := ⟨by refine rs_ ?_; exact Kd.S_mono (Kd.S_far (p := ⟨gb1225, 1, none⟩) (Kd.S_far (p := ⟨gb1225, 0, none⟩) (Kd.S_types HO1223.out BK1225.out (by decide)) (fun _ hk => hk.2) (.slice Ao87 t1218.length co87)) (fun _ hk => hk.2) (.slice Ao92 t1221.length co92)) (fun _ hk => ⟨hk.1.1.1.2, ⟨hk.1.1.2, hk.1.2⟩⟩)⟩
         have n9_ : Aside0 (((w86.setCell ⟨gb1225, 0, none⟩ (.slice Ao87 t1218.length co87)).setCell ⟨gb1225, 1, none⟩ (.slice Ao92 t1221.length co92)).heap[gb1191]? = some (.cells #[.slice Ao10 t1185.length co10, .slice Ao12 t1188.length co12] 27 (0, 0))) := ⟨by refine rb_ ?_; refine blk_far ?_ NB1191_1225.out _; refine rb_ ?_; refine blk_far ?_ NB1191_1225.out _; refine rb_ ?_; exact BK1191.out⟩
         have n10_ : Aside0 (((w86.setCell ⟨gb1225, 0, none⟩ (.slice Ao87 t1218.length co87)).setCell ⟨gb1225, 1, none⟩ (.slice Ao92 t1221.length co92)).heap[gb1216]? = some (.cells #[.slice Ao76 t1204.length co76, .slice Ao80 t1207.length co80] 27 (0, 0))) := ⟨by refine rb_ ?_; refine blk_far ?_ NB1216_1225.out _; refine rb_ ?_; refine blk_far ?_ NB1216_1225.out _; refine rb_ ?_; exact BK1216.out⟩
         have n11_ : Aside0 (((w86.setCell ⟨gb1225, 0, none⟩ (.slice Ao87 t1218.length co87)).setCell ⟨gb1225, 1, none⟩ (.slice Ao92 t1221.length co92)).heap[gb1217]? = some (.cells #[.slice Ao81 t1210.length co81, .slice Ao84 t1213.length co84] 27 (0, 0))) := ⟨by refine rb_ ?_; refine blk_far ?_ NB1217_1225.out _; refine rb_ ?_; refine blk_far ?_ NB1217_1225.out _; refine rb_ ?_; exact BK1217.out⟩
         have n12_ : Aside0 (((w86.setCell ⟨gb1225, 0, none⟩ (.slice Ao87 t1218.length co87)).setCell ⟨gb1225, 1, none⟩ (.slice Ao92 t1221.length co92)).heap[gb1225]? = some (.cells #[.slice Ao87 t1218.length co87, .slice Ao92 t1221.length co92] 27 (0, 0))) := ⟨by refine rb_ ?_; refine blk_put (cs := #[.slice Ao87 t1218.length co87, .slice none 0 0]) ?_ 1 _ rfl; refine rb_ ?_; refine blk_put (cs := #[.slice none 0 0, .slice none 0 0]) ?_ 0 _ rfl; refine rb_ ?_; exact BK1225.out⟩
         have n13_ : Aside0 (Below w.heap.size w ((w86.setCell ⟨gb1225, 0, none⟩ (.slice Ao87 t1218.length co87)).setCell ⟨gb1225, 1, none⟩ (.slice Ao92 t1221.length co92))) := ⟨by exact zp57_1_ HB.out GE1191.out GE1216.out GE1217.out GE1225.out⟩
         (try clear HO_8)
         (try clear HO_1192000)
         (try clear HO_1192001)
         (try clear HO1206)
         (try clear HO1209)
         (try clear HO1212)
         (try clear HO1215)
         (try clear HO1220)
         (try clear HO1223)
         (try clear BK1191)
         (try clear BK1216)
         (try clear BK1217)
         (try clear BK1225)
         (try clear HB)
         generalize ((w86.setCell ⟨gb1225, 0, none⟩ (.slice Ao87 t1218.length co87)).setCell ⟨gb1225, 1, none⟩ (.slice Ao92 t1221.length co92)) = w93 at n0_ n1_ n2_ n3_ n4_ n5_ n6_ n7_ n8_ n9_ n10_ n11_ n12_ n13_ ⊢
         have HO_8 := n0_; have HO_1192000 := n1_; have HO_1192001 := n2_; have HO1206 := n3_; have HO1209 := n4_; have HO1212 := n5_; have HO1215 := n6_; have HO1220 := n7_; have HO1223 := n8_; have BK1191 := n9_; have BK1216 := n10_; have BK1217 := n11_; have BK1225 := n12_; have HB := n13_
         clear n0_ n1_ n2_ n3_ n4_ n5_ n6_ n7_ n8_ n9_ n10_ n11_ n12_ n13_
         replace HO_8 := am_ (Kd.R_drew HO_8.out)
         replace HO_1192000 := am_ (Kd.R_drew HO_1192000.out)
         replace HO_1192001 := am_ (Kd.S_drew HO_1192001.out)
         replace HO1206 := am_ (Kd.R_drew HO1206.out)
         replace HO1209 := am_ (Kd.S_drew HO1209.out)
         replace HO1212 := am_ (Kd.R_drew HO1212.out)
         replace HO1215 := am_ (Kd.S_drew HO1215.out)
         replace HO1220 := am_ (Kd.R_drew HO1220.out)
         replace HO1223 := am_ (Kd.S_drew HO1223.out)
         replace BK1191 := am_ (blk_drew BK1191.out)
         replace BK1216 := am_ (blk_drew BK1216.out)
         replace BK1217 := am_ (blk_drew BK1217.out)
         replace BK1225 := am_ (blk_drew BK1225.out)
         replace HB := am_ (below_drew1 HB.out)
         refine start_ (n := 13) (S := fun w' => True) (ds := []) (bl 13 0) (by kernel_rfl) rfl rfl trivial (fun hHeld => ?_); refine with_tabW laws_FnShortest.tab16 laws_FnShortest.bits16 (fun HT_ HW_ => ?_)
         generalize w93.drew = w94 at HO_8 HO_1192000 HO_1192001 HO1206 HO1209 HO1212 HO1215 HO1220 HO1223 BK1191 BK1216 BK1217 BK1225 HB hHeld ⊢
         refine pu_ 0 82 (bl 13 1) HT_ ?_
         refine pu_ 1 83 (bl 13 3) HT_ ?_
         refine pu_ 2 84 (bl 13 7) HT_ ?_
         refine pz_ 3 85 (bl 13 15) HT_ ?_
         refine pz_ 4 86 (bl 13 31) HT_ ?_
         refine pz_ 5 87 (bl 13 63) HT_ ?_
         refine pz_ 6 88 (bl 13 127) HT_ ?_
         refine pz_ 7 89 (bl 13 255) HT_ ?_
         refine pz_ 8 90 (bl 13 511) HT_ ?_
         refine pz_ 9 91 (bl 13 1023) HT_ ?_
         refine pz_ 10 92 (bl 13 2047) HT_ ?_
         refine pu_ 11 93 (bl 13 4095) HT_ ?_
         refine pu_ 12 2 (bl 13 8191) HT_ ?_
         refine done_ (done_of HT_.out (by kernel_rfl)) ?_
         try go_wp2
         go_ret
         exact ⟨by first | rfl | (simp [errW_none, errW_some] <;> rfl) | (simp [*, errW_none, errW_some] <;> rfl), by exact zp57_1_ HB.out GE1191.out GE1216.out GE1217.out GE1225.out⟩
def laws_FnShortest.Pure : Prop := ∀ (l0 : List Int), l0.length ≤ maxLen → l0.length * 1 ≤ 140737488351232 → (∀ x ∈ l0, (Lit.int .u8 x).wf = true) → ∃ k, laws_FnShortest.f k l0 = some true
theorem laws_FnShortest.walk (P : laws_FnShortest.Pure) (a0 : Option Addr) (len0 cap0 : Nat) (z0 : List Int) (w : World) (w0 : (a0 = none ∧ len0 = 0 ∧ cap0 = 0 ∧ z0 = []) ∨ ∃ x, a0 = some x ∧ len0 ≤ cap0 ∧ cap0 ≤ maxLen ∧ z0.length = cap0 ∧ (∀ i, i < z0.length → w.cell? (x.add i) = some (.int .u8 (z0.getD i 0))) ∧ ∀ n ∈ z0, (Lit.int .u8 n).wf = true) (y0 : len0 * 1 ≤ 140737488351232) :
  Calls Try.prog 11 #[.slice a0 len0 cap0] w fun e w' => e = .returned (.bool true) ∧ Below w.heap.size w w' := by
 obtain ⟨l0, rfl, hr0, hm0, hw0, hc0⟩ := ReadsInt.ofRowC w0
 obtain ⟨k, h⟩ := P l0 hm0 y0 hw0
 refine (laws_FnShortest.calls k _ _ l0 true w (Kd.C_of_reads (d := (0 : Int)) (h1 := fun _ => rfl) hr0) hc0 h rfl).mono ?_
 rintro e w' ⟨rfl, hd⟩
 exact ⟨rfl, hd⟩
end Go.Proofs.Ytogamkblkoobkaa.P
end
