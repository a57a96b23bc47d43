/- Texts of the proof of FnExactConcatDfa, put together. No condition. -/
import Derived.Test.YtogamkblkoobkaaQFnExactConcatDfa2
import Derived.Test.YtogamkblkoobkaaQFnExactConcatDfa3
import Derived.Test.YtogamkblkoobkaaQFnExactConcatDfa9
import Derived.Test.YtogamkblkoobkaaQFnExactConcatDfa8
section
namespace Go.Proofs.Ytogamkblkoobkaa.P
open Go.RowKit Go.Proofs.YtogamkblkoobkaaW.PrintWords Go.Proofs.YtogamkblkoobkaaW.PrintLast Go.Proofs.YtogamkblkoobkaaW.PrintMore
attribute [local go_sem] max2_int min2_int max_two min_two max_three min_three max_four min_four
set_option linter.unusedVariables false
set_option linter.unusedSimpArgs false
mutual
def spec_ConcatDfa.j0 : Nat → Bool → List Bool → List (List Int) → List Bool → List (List Int) → Option (List Bool × (List (List Int)) × Bool)
  | 0, _, _, _, _, _ => none
  | k + 1, x22, bo, bd, bs, bt => if x22 = true then (some (([] : List Bool), ([] : List (List Int)), false)) else (if 0 < (bo.length : Int) then (if rdOf false bo 0 = true then (spec_ConcatDfa.j1 k bo bd bs bt 0 (([0] : List Int)) false) else (spec_ConcatDfa.j1 k bo bd bs bt 0 ([] : List Int) false)) else (none))
def spec_ConcatDfa.j1 : Nat → List Bool → List (List Int) → List Bool → List (List Int) → Int → List Int → Bool → Option (List Bool × (List (List Int)) × Bool)
  | 0, _, _, _, _, _, _, _ => none
  | k + 1, bo, bd, bs, bt, fd, fe, ff => spec_ConcatDfa.l0 k (([(⟨fd, fe, ff⟩ : S78)] : List (S78))) 0 bo bd bs bt ([] : List Bool) ([] : List (List Int))
def spec_ConcatDfa.l0 : Nat → List (S78) → Int → List Bool → List (List Int) → List Bool → List (List Int) → List Bool → List (List Int) → Option (List Bool × (List (List Int)) × Bool)
  | 0, _, _, _, _, _, _, _, _ => none
  | k + 1, x7, x9, bo, bd, bs, bt, bM, bN => if x9 < (x7.length : Int) then (spec_ConcatDfa.l1 k x7 x9 (([] : List Int)) 0 bo bd bs bt bM bN) else ((spec_l5Fits.f k bM bN).bind fun bt424 => (some (bt424.1, bt424.2.1, bt424.2.2)))
def spec_ConcatDfa.l1 : Nat → List (S78) → Int → List Int → Int → List Bool → List (List Int) → List Bool → List (List Int) → List Bool → List (List Int) → Option (List Bool × (List (List Int)) × Bool)
  | 0, _, _, _, _, _, _, _, _, _, _ => none
  | k + 1, x7, x9, x10, x11, bo, bd, bs, bt, bM, bN => if x11 < 3 then (if 0 ≤ x9 then (if x9 < (x7.length : Int) then (if 0 ≤ ((rd_T78 x7 x9).f0) then (if ((rd_T78 x7 x9).f0) < (bd.length : Int) then (if 0 ≤ x11 then (if x11 < ((rd_L1 bd ((rd_T78 x7 x9).f0)).length : Int) then ((spec_l6Move.f k bs bt ((rd_T78 x7 x9).f1) x11).bind fun aN => (if 0 ≤ (rd (rd_L1 bd ((rd_T78 x7 x9).f0)) x11) then (if (rd (rd_L1 bd ((rd_T78 x7 x9).f0)) x11) < (bo.length : Int) then (if rdOf false bo (rd (rd_L1 bd ((rd_T78 x7 x9).f0)) x11) = true then ((spec_l6Put.f k aN 0).bind fun bR => (spec_ConcatDfa.j4 k x7 x9 x10 x11 bo bd bs bt bM bN (rd (rd_L1 bd ((rd_T78 x7 x9).f0)) x11) bR false)) else (spec_ConcatDfa.j4 k x7 x9 x10 x11 bo bd bs bt bM bN (rd (rd_L1 bd ((rd_T78 x7 x9).f0)) x11) aN false)) else (none)) else (none))) else (none)) else (none)) else (none)) else (none)) else (none)) else (none)) else (if (x7.length : Int) > 400 then (some (([] : List Bool), ([] : List (List Int)), false)) else (if 0 ≤ x9 then (if x9 < (x7.length : Int) then ((spec_l6Any.f k bs bt ((rd_T78 x7 x9).f1)).bind fun dj => (if bM.length < 140737488355328 then (if bN.length < 5864062014805 then (spec_ConcatDfa.l0 k x7 (wrap64 (x9 + 1)) bo bd bs bt (bM ++ [dj]) (bN ++ [x10])) else (none)) else (none))) else (none)) else (none)))
def spec_ConcatDfa.j4 : Nat → List (S78) → Int → List Int → Int → List Bool → List (List Int) → List Bool → List (List Int) → List Bool → List (List Int) → Int → List Int → Bool → Option (List Bool × (List (List Int)) × Bool)
  | 0, _, _, _, _, _, _, _, _, _, _, _, _, _ => none
  | k + 1, x7, x9, x10, x11, bo, bd, bs, bt, bM, bN, cC, cD, cE => (spec_l6Find.f k x7 cC cD cE).bind fun cY => (if cY < 0 then (if x7.length < 3518437208883 then ((some (x7 ++ [(⟨cC, cD, cE⟩ : S78)] : List (S78))).bind fun ck => ((spec_l6Find.f k ck cC cD cE).bind fun cy => (if x10.length < 17592186044416 then (spec_ConcatDfa.l1 k ck x9 (x10 ++ [cy]) (wrap64 (x11 + 1)) bo bd bs bt bM bN) else (none)))) else (none)) else ((spec_l6Find.f k x7 cC cD cE).bind fun dk => (if x10.length < 17592186044416 then (spec_ConcatDfa.l1 k x7 x9 (x10 ++ [dk]) (wrap64 (x11 + 1)) bo bd bs bt bM bN) else (none))))
end
def spec_ConcatDfa.f (k : Nat) (l0_0 : List Bool) (l0_1 : List (List Int)) (l1_0 : List Bool) (l1_1 : List (List Int)) : Option (List Bool × (List (List Int)) × Bool) := (spec_IsValidDfa.f k l0_0 l0_1).bind fun dP => (if dP = true then ((spec_IsValidDfa.f k l1_0 l1_1).bind fun cn => (spec_ConcatDfa.j0 k (!cn) l0_0 l0_1 l1_0 l1_1)) else (spec_ConcatDfa.j0 k true l0_0 l0_1 l1_0 l1_1))
theorem spec_ConcatDfa.mono_l : ∀ k, (∀ y0 y1 y2 y3 y4, LeO (spec_ConcatDfa.j0 k y0 y1 y2 y3 y4) (spec_ConcatDfa.j0 (k + 1) y0 y1 y2 y3 y4)) ∧ (∀ y0 y1 y2 y3 y4 y5 y6, LeO (spec_ConcatDfa.j1 k y0 y1 y2 y3 y4 y5 y6) (spec_ConcatDfa.j1 (k + 1) y0 y1 y2 y3 y4 y5 y6)) ∧ (∀ y0 y1 y2 y3 y4 y5 y6 y7, LeO (spec_ConcatDfa.l0 k y0 y1 y2 y3 y4 y5 y6 y7) (spec_ConcatDfa.l0 (k + 1) y0 y1 y2 y3 y4 y5 y6 y7)) ∧ (∀ y0 y1 y2 y3 y4 y5 y6 y7 y8 y9, LeO (spec_ConcatDfa.l1 k y0 y1 y2 y3 y4 y5 y6 y7 y8 y9) (spec_ConcatDfa.l1 (k + 1) y0 y1 y2 y3 y4 y5 y6 y7 y8 y9)) ∧ (∀ y0 y1 y2 y3 y4 y5 y6 y7 y8 y9 y10 y11 y12, LeO (spec_ConcatDfa.j4 k y0 y1 y2 y3 y4 y5 y6 y7 y8 y9 y10 y11 y12) (spec_ConcatDfa.j4 (k + 1) y0 y1 y2 y3 y4 y5 y6 y7 y8 y9 y10 y11 y12))
 | 0 => ⟨fun _ _ _ _ _ r h => by simp [spec_ConcatDfa.j0] at h, fun _ _ _ _ _ _ _ r h => by simp [spec_ConcatDfa.j1] at h, fun _ _ _ _ _ _ _ _ r h => by simp [spec_ConcatDfa.l0] at h, fun _ _ _ _ _ _ _ _ _ _ r h => by simp [spec_ConcatDfa.l1] at h, fun _ _ _ _ _ _ _ _ _ _ _ _ _ r h => by simp [spec_ConcatDfa.j4] at h⟩
 | k + 1 => by
  obtain ⟨ih0, ih1, ih2, ih3, ih4⟩ := spec_ConcatDfa.mono_l k
  refine ⟨?_, ?_, ?_, ?_, ?_⟩
  ·intro y0 y1 y2 y3 y4
   unfold spec_ConcatDfa.j0
   repeat' first
   | (with_reducible exact ih0 _ _ _ _ _)
   | (with_reducible exact ih1 _ _ _ _ _ _ _)
   | (with_reducible exact ih2 _ _ _ _ _ _ _ _)
   | (with_reducible exact ih3 _ _ _ _ _ _ _ _ _ _)
   | (with_reducible exact ih4 _ _ _ _ _ _ _ _ _ _ _ _ _)
   | (with_reducible exact spec_IsValidDfa.mono _ _ _)
   | (with_reducible exact spec_l5Fits.mono _ _ _)
   | (with_reducible exact spec_l6Any.mono _ _ _ _)
   | (with_reducible exact spec_l6Find.mono _ _ _ _ _)
   | (with_reducible exact spec_l6Move.mono _ _ _ _ _)
   | (with_reducible exact spec_l6Put.mono _ _ _)
   | (with_reducible exact LeO.refl _)
   | (with_reducible exact LeO.none _)
   | (with_reducible refine LeO.ite ?_ ?_)
   | (with_reducible refine LeO.bind ?_ (fun _ => ?_))
   | exact ih0 _ _ _ _ _
   | exact ih1 _ _ _ _ _ _ _
   | exact ih2 _ _ _ _ _ _ _ _
   | exact ih3 _ _ _ _ _ _ _ _ _ _
   | exact ih4 _ _ _ _ _ _ _ _ _ _ _ _ _
   | exact spec_IsValidDfa.mono _ _ _
   | exact spec_l5Fits.mono _ _ _
   | exact spec_l6Any.mono _ _ _ _
   | exact spec_l6Find.mono _ _ _ _ _
   | exact spec_l6Move.mono _ _ _ _ _
   | exact spec_l6Put.mono _ _ _
   | exact LeO.none _
   | refine LeO.ite ?_ ?_
   | refine LeO.bind ?_ (fun _ => ?_)
  ·intro y0 y1 y2 y3 y4 y5 y6
   unfold spec_ConcatDfa.j1
   repeat' first
   | (with_reducible exact ih0 _ _ _ _ _)
   | (with_reducible exact ih1 _ _ _ _ _ _ _)
   | (with_reducible exact ih2 _ _ _ _ _ _ _ _)
   | (with_reducible exact ih3 _ _ _ _ _ _ _ _ _ _)
   | (with_reducible exact ih4 _ _ _ _ _ _ _ _ _ _ _ _ _)
   | (with_reducible exact spec_IsValidDfa.mono _ _ _)
   | (with_reducible exact spec_l5Fits.mono _ _ _)
   | (with_reducible exact spec_l6Any.mono _ _ _ _)
   | (with_reducible exact spec_l6Find.mono _ _ _ _ _)
   | (with_reducible exact spec_l6Move.mono _ _ _ _ _)
   | (with_reducible exact spec_l6Put.mono _ _ _)
   | (with_reducible exact LeO.refl _)
   | (with_reducible exact LeO.none _)
   | (with_reducible refine LeO.ite ?_ ?_)
   | (with_reducible refine LeO.bind ?_ (fun _ => ?_))
   | exact ih0 _ _ _ _ _
   | exact ih1 _ _ _ _ _ _ _
   | exact ih2 _ _ _ _ _ _ _ _
   | exact ih3 _ _ _ _ _ _ _ _ _ _
   | exact ih4 _ _ _ _ _ _ _ _ _ _ _ _ _
   | exact spec_IsValidDfa.mono _ _ _
   | exact spec_l5Fits.mono _ _ _
   | exact spec_l6Any.mono _ _ _ _
   | exact spec_l6Find.mono _ _ _ _ _
   | exact spec_l6Move.mono _ _ _ _ _
   | exact spec_l6Put.mono _ _ _
   | exact LeO.none _
   | refine LeO.ite ?_ ?_
   | refine LeO.bind ?_ (fun _ => ?_)
  ·intro y0 y1 y2 y3 y4 y5 y6 y7
   unfold spec_ConcatDfa.l0
   repeat' first
   | (with_reducible exact ih0 _ _ _ _ _)
   | (with_reducible exact ih1 _ _ _ _ _ _ _)
   | (with_reducible exact ih2 _ _ _ _ _ _ _ _)
   | (with_reducible exact ih3 _ _ _ _ _ _ _ _ _ _)
   | (with_reducible exact ih4 _ _ _ _ _ _ _ _ _ _ _ _ _)
   | (with_reducible exact spec_IsValidDfa.mono _ _ _)
   | (with_reducible exact spec_l5Fits.mono _ _ _)
   | (with_reducible exact spec_l6Any.mono _ _ _ _)
   | (with_reducible exact spec_l6Find.mono _ _ _ _ _)
   | (with_reducible exact spec_l6Move.mono _ _ _ _ _)
   | (with_reducible exact spec_l6Put.mono _ _ _)
   | (with_reducible exact LeO.refl _)
   | (with_reducible exact LeO.none _)
   | (with_reducible refine LeO.ite ?_ ?_)
   | (with_reducible refine LeO.bind ?_ (fun _ => ?_))
   | exact ih0 _ _ _ _ _
   | exact ih1 _ _ _ _ _ _ _
   | exact ih2 _ _ _ _ _ _ _ _
   | exact ih3 _ _ _ _ _ _ _ _ _ _
   | exact ih4 _ _ _ _ _ _ _ _ _ _ _ _ _
   | exact spec_IsValidDfa.mono _ _ _
   | exact spec_l5Fits.mono _ _ _
   | exact spec_l6Any.mono _ _ _ _
   | exact spec_l6Find.mono _ _ _ _ _
   | exact spec_l6Move.mono _ _ _ _ _
   | exact spec_l6Put.mono _ _ _
   | exact LeO.none _
   | refine LeO.ite ?_ ?_
   | refine LeO.bind ?_ (fun _ => ?_)
  ·intro y0 y1 y2 y3 y4 y5 y6 y7 y8 y9
   unfold spec_ConcatDfa.l1
   repeat' first
   | (with_reducible exact ih0 _ _ _ _ _)
   | (with_reducible exact ih1 _ _ _ _ _ _ _)
   | (with_reducible exact ih2 _ _ _ _ _ _ _ _)
   | (with_reducible exact ih3 _ _ _ _ _ _ _ _ _ _)
   | (with_reducible exact ih4 _ _ _ _ _ _ _ _ _ _ _ _ _)
   | (with_reducible exact spec_IsValidDfa.mono _ _ _)
   | (with_reducible exact spec_l5Fits.mono _ _ _)
   | (with_reducible exact spec_l6Any.mono _ _ _ _)
   | (with_reducible exact spec_l6Find.mono _ _ _ _ _)
   | (with_reducible exact spec_l6Move.mono _ _ _ _ _)
   | (with_reducible exact spec_l6Put.mono _ _ _)
   | (with_reducible exact LeO.refl _)
   | (with_reducible exact LeO.none _)
   | (with_reducible refine LeO.ite ?_ ?_)
   | (with_reducible refine LeO.bind ?_ (fun _ => ?_))
   | exact ih0 _ _ _ _ _
   | exact ih1 _ _ _ _ _ _ _
   | exact ih2 _ _ _ _ _ _ _ _
   | exact ih3 _ _ _ _ _ _ _ _ _ _
   | exact ih4 _ _ _ _ _ _ _ _ _ _ _ _ _
   | exact spec_IsValidDfa.mono _ _ _
   | exact spec_l5Fits.mono _ _ _
   | exact spec_l6Any.mono _ _ _ _
   | exact spec_l6Find.mono _ _ _ _ _
   | exact spec_l6Move.mono _ _ _ _ _
   | exact spec_l6Put.mono _ _ _
   | exact LeO.none _
   | refine LeO.ite ?_ ?_
   | refine LeO.bind ?_ (fun _ => ?_)
  ·intro y0 y1 y2 y3 y4 y5 y6 y7 y8 y9 y10 y11 y12
   unfold spec_ConcatDfa.j4
   repeat' first
   | (with_reducible exact ih0 _ _ _ _ _)
   | (with_reducible exact ih1 _ _ _ _ _ _ _)
   | (with_reducible exact ih2 _ _ _ _ _ _ _ _)
   | (with_reducible exact ih3 _ _ _ _ _ _ _ _ _ _)
   | (with_reducible exact ih4 _ _ _ _ _ _ _ _ _ _ _ _ _)
   | (with_reducible exact spec_IsValidDfa.mono _ _ _)
   | (with_reducible exact spec_l5Fits.mono _ _ _)
   | (with_reducible exact spec_l6Any.mono _ _ _ _)
   | (with_reducible exact spec_l6Find.mono _ _ _ _ _)
   | (with_reducible exact spec_l6Move.mono _ _ _ _ _)
   | (with_reducible exact spec_l6Put.mono _ _ _)
   | (with_reducible exact LeO.refl _)
   | (with_reducible exact LeO.none _)
   | (with_reducible refine LeO.ite ?_ ?_)
   | (with_reducible refine LeO.bind ?_ (fun _ => ?_))
   | exact ih0 _ _ _ _ _
   | exact ih1 _ _ _ _ _ _ _
   | exact ih2 _ _ _ _ _ _ _ _
   | exact ih3 _ _ _ _ _ _ _ _ _ _
   | exact ih4 _ _ _ _ _ _ _ _ _ _ _ _ _
   | exact spec_IsValidDfa.mono _ _ _
   | exact spec_l5Fits.mono _ _ _
   | exact spec_l6Any.mono _ _ _ _
   | exact spec_l6Find.mono _ _ _ _ _
   | exact spec_l6Move.mono _ _ _ _ _
   | exact spec_l6Put.mono _ _ _
   | exact LeO.none _
   | refine LeO.ite ?_ ?_
   | refine LeO.bind ?_ (fun _ => ?_)
theorem spec_ConcatDfa.mono : ∀ a0 a1 a2 a3 k, LeO (spec_ConcatDfa.f k a0 a1 a2 a3) (spec_ConcatDfa.f (k + 1) a0 a1 a2 a3) := by
 intro a0 a1 a2 a3 k
 obtain ⟨ih0, ih1, ih2, ih3, ih4⟩ := spec_ConcatDfa.mono_l k
 unfold spec_ConcatDfa.f
 repeat' first
   | (with_reducible exact ih0 _ _ _ _ _)
   | (with_reducible exact ih1 _ _ _ _ _ _ _)
   | (with_reducible exact ih2 _ _ _ _ _ _ _ _)
   | (with_reducible exact ih3 _ _ _ _ _ _ _ _ _ _)
   | (with_reducible exact ih4 _ _ _ _ _ _ _ _ _ _ _ _ _)
   | (with_reducible exact spec_IsValidDfa.mono _ _ _)
   | (with_reducible exact spec_l5Fits.mono _ _ _)
   | (with_reducible exact spec_l6Any.mono _ _ _ _)
   | (with_reducible exact spec_l6Find.mono _ _ _ _ _)
   | (with_reducible exact spec_l6Move.mono _ _ _ _ _)
   | (with_reducible exact spec_l6Put.mono _ _ _)
   | (with_reducible exact LeO.refl _)
   | (with_reducible exact LeO.none _)
   | (with_reducible refine LeO.ite ?_ ?_)
   | (with_reducible refine LeO.bind ?_ (fun _ => ?_))
   | exact ih0 _ _ _ _ _
   | exact ih1 _ _ _ _ _ _ _
   | exact ih2 _ _ _ _ _ _ _ _
   | exact ih3 _ _ _ _ _ _ _ _ _ _
   | exact ih4 _ _ _ _ _ _ _ _ _ _ _ _ _
   | exact spec_IsValidDfa.mono _ _ _
   | exact spec_l5Fits.mono _ _ _
   | exact spec_l6Any.mono _ _ _ _
   | exact spec_l6Find.mono _ _ _ _ _
   | exact spec_l6Move.mono _ _ _ _ _
   | exact spec_l6Put.mono _ _ _
   | exact LeO.none _
   | refine LeO.ite ?_ ?_
   | refine LeO.bind ?_ (fun _ => ?_)
def spec_ConcatDfa.T15 : Bool × List (List Nat × List Nat) := (true, [([], []), ([0], [0]), ([], []), ([], []), ([2, 3], [2, 3]), ([4], [4]), ([5], [5]), ([1, 6], [1, 6]), ([7], [7]), ([], []), ([8, 9], [8, 9]), ([10], [10]), ([], []), ([], []), ([], []), ([13, 14], [13, 14]), ([15], [15]), ([16], [16]), ([], []), ([12, 17, 18], [12, 17, 18]), ([11, 19], [11, 19]), ([], []), ([21, 20, 19, 0, 1, 2, 3, 4, 5, 6, 7, 8, 9, 10, 11, 12, 13, 14, 15, 16, 17, 18, 19, 20, 21], [20, 21])])
def spec_ConcatDfa.B15 : List Nat := [0, 1, 0, 0, 12, 28, 60, 127, 255, 0, 1023, 2047, 0, 0, 0, 24576, 57344, 122880, 0, 520192, 1048575, 0, 4194303]
theorem spec_ConcatDfa.tab15 : rtab .any (opsOf Try.f23 15) = spec_ConcatDfa.T15 := by kernel_rfl
theorem spec_ConcatDfa.bits15 : waitsOk spec_ConcatDfa.T15.2 spec_ConcatDfa.B15 = true := by kernel_rfl
def spec_ConcatDfa.T23 : Bool × List (List Nat × List Nat) := (true, [([], []), ([0], [0]), ([], []), ([], []), ([], []), ([3, 4], [3, 4]), ([5], [5]), ([6], [6]), ([2, 7], [2, 7]), ([8], [8]), ([1, 9, 8], [1, 9]), ([0, 1, 2, 3, 4, 5, 6, 7, 8, 9, 10], []), ([11, 10, 10, 0, 1, 2, 3, 4, 5, 6, 7, 8, 9, 10], [10, 11])])
def spec_ConcatDfa.B23 : List Nat := [0, 1, 0, 0, 0, 24, 56, 120, 252, 508, 1023, 2047, 4095]
theorem spec_ConcatDfa.tab23 : rtab .any (opsOf Try.f23 23) = spec_ConcatDfa.T23 := by kernel_rfl
theorem spec_ConcatDfa.bits23 : waitsOk spec_ConcatDfa.T23.2 spec_ConcatDfa.B23 = true := by kernel_rfl
theorem zp27_0_ {p q g1 g2 g3 g4 g5 : Prop} (h : p) (h1 : g1) (h2 : g2) (h3 : g3) (h4 : g4) (h5 : g5) (c : p → g1 → g2 → g3 → g4 → g5 → q := by intro h_ h1_ h2_ h3_ h4_ h5_; repeat (first | (with_reducible first | exact h_ | apply below_alloc | apply pw_below_drewN | apply below_drew1 | refine below_set ?_ h1_ | refine below_set ?_ h2_ | refine below_set ?_ h3_ | refine below_set ?_ h4_ | refine below_set ?_ h5_) | exact h_)) : q := c h h1 h2 h3 h4 h5
theorem zp27_1_ {p q g1 g2 g3 g4 g5 g6 : Prop} (h : p) (h1 : g1) (h2 : g2) (h3 : g3) (h4 : g4) (h5 : g5) (h6 : g6) (c : p → g1 → g2 → g3 → g4 → g5 → g6 → q := by intro h_ h1_ h2_ h3_ h4_ h5_ h6_; repeat (first | (with_reducible first | exact h_ | apply below_alloc | apply pw_below_drewN | apply below_drew1 | refine below_set ?_ h1_ | refine below_set ?_ h2_ | refine below_set ?_ h3_ | refine below_set ?_ h4_ | refine below_set ?_ h5_ | refine below_set ?_ h6_) | exact h_)) : q := c h h1 h2 h3 h4 h5 h6
set_option maxHeartbeats 8000000 in
set_option maxRecDepth 100000 in
theorem spec_ConcatDfa.calls (k : Nat) (A0_0 : Option Addr) (c0_0 : Nat) (l0_0 : List Bool) (A0_1 : Option Addr) (c0_1 : Nat) (l0_1 : List (List Int)) (A1_0 : Option Addr) (c1_0 : Nat) (l1_0 : List Bool) (A1_1 : Option Addr) (c1_1 : Nat) (l1_1 : List (List Int)) (r1 : List Bool) (r2 : List (List Int)) (r3 : Bool) (w : World) (hr0_0 : Kd.C Kd.bool w A0_0 l0_0.length l0_0) (hc0_0 : l0_0.length ≤ c0_0) (hr0_1 : Kd.C (Kd.slice 3 (Kd.int .i64)) w A0_1 l0_1.length l0_1) (hc0_1 : l0_1.length ≤ c0_1) (hr1_0 : Kd.C Kd.bool w A1_0 l1_0.length l1_0) (hc1_0 : l1_0.length ≤ c1_0) (hr1_1 : Kd.C (Kd.slice 3 (Kd.int .i64)) w A1_1 l1_1.length l1_1) (hc1_1 : l1_1.length ≤ c1_1) (h : spec_ConcatDfa.f k l0_0 l0_1 l1_0 l1_1 = some (r1, r2, r3)) :
  Calls Try.prog 23 #[.agg #[.slice A0_0 l0_0.length c0_0, .slice A0_1 l0_1.length c0_1], .agg #[.slice A1_0 l1_0.length c1_0, .slice A1_1 l1_1.length c1_1]] w fun e w' => ∃ v0_ v1_ : Value, e = .returned (.tuple #[.agg #[v0_, v1_], .bool r3]) ∧ Kd.R Kd.bool 4 w' w.heap.size (fun k_ => (w.heap.size ≤ k_)) v0_ r1 ∧ Kd.N (Kd.slice 3 (Kd.int .i64)) 67 w' w.heap.size (fun k_ => (w.heap.size ≤ k_) ∧ some k_ ≠ (v0_ : Value).ownBlock) v1_ r2 ∧ Below w.heap.size w w' := by
 have hu27 := Try.underlying27
 have hu78 := Try.underlying78
 have dI := am_ hr0_0
 have eN := am_ hc0_0
 clear hr0_0 hc0_0
 have ei := am_ hr0_1
 have eO := am_ hc0_1
 clear hr0_1 hc0_1
 have dJ := am_ hr1_0
 have dK := am_ hc1_0
 clear hr1_0 hc1_0
 have dL := am_ hr1_1
 have dM := am_ hc1_1
 clear hr1_1 hc1_1
 have HB := am_ (Below.refl w.heap.size w)
 have H : ((spec_IsValidDfa.f k l0_0 l0_1).bind fun dP => (if dP = true then ((spec_IsValidDfa.f k l1_0 l1_1).bind fun cn => (spec_ConcatDfa.j0 k (!cn) l0_0 l0_1 l1_0 l1_1)) else (spec_ConcatDfa.j0 k true l0_0 l0_1 l1_0 l1_1))) = some (r1, r2, r3) := h
 clear h
 have HC3 := am_ H
 clear H
 go_enter Try.func23, Try.ntmps23
 go_upto_region 1 with (first | ((with_reducible refine gate_dst (N := 2) rfl ?_); refine box_event ?hg (N := 2) ?hd (cs := #[.slice A0_0 l0_0.length c0_0, .slice A0_1 l0_1.length c0_1]) (t := 27) ?hr ?_; (case hd => rfl); (case hg => rfl); (case hr => first | (go_simp; done) | (go_simp; rfl)); intro av hg w4 hbox hb; replace ad := am_ (hbox); replace iT := am_ ((by rw [hg]; exact (below_size (b0_ HB.out)) : w.heap.size ≤ av)); replace ax := am_ ((by rw [hg]; exact (below_size (b0_ HB.out)) : w.heap.size ≤ av)); replace HB := am_ (below_step (b0_ HB.out) hb); clear hb hbox hg) | ((with_reducible refine gate_dst (N := 3) rfl ?_); refine box_event ?hg (N := 3) ?hd (cs := #[.slice A1_0 l1_0.length c1_0, .slice A1_1 l1_1.length c1_1]) (t := 27) ?hr ?_; (case hd => rfl); (case hg => rfl); (case hr => first | (go_simp; done) | (go_simp; rfl)); intro ar hg w5 hbox hb; have n0_ := am_ (blk_below (rb_ ad.out) hb); have n1_ := am_ (below_step (b1_ HB.out ax.out) hb); have n2_ := am_ (hbox); have n3_ := am_ ((by rw [hg]; exact (below_size (b1_ HB.out ax.out)) : w.heap.size ≤ ar)); have n4_ := am_ ((by rw [hg]; exact (below_size (b1_ HB.out ax.out)) : w.heap.size ≤ ar)); have n5_ := am_ ((by rw [hg]; exact Nat.ne_of_lt (blk_lt (rb_ ad.out)) : av ≠ ar)); have n6_ := am_ ((by rw [hg]; exact Nat.ne_of_gt (blk_lt (rb_ ad.out)) : ar ≠ av)); clear ad; clear HB; have ad := n0_; have HB := n1_; have ah := n2_; have iU := n3_; have ay := n4_; have cb := n5_; have cc := n6_; clear n0_ n1_ n2_ n3_ n4_ n5_ n6_; clear hb hbox hg) | ((with_reducible refine gate_dst (N := 4) rfl ?_); refine box_event ?hg (N := 4) ?hd (cs := #[.slice none 0 0, .slice none 0 0]) (t := 27) ?hr ?_; (case hd => rfl); (case hg => rfl); (case hr => first | (go_simp; done) | (go_simp; rfl)); intro au hg w6 hbox hb; have n0_ := am_ (blk_below (rb_ ad.out) hb); have n1_ := am_ (blk_below (rb_ ah.out) hb); have n2_ := am_ (below_step (b2_ HB.out ax.out ay.out) hb); have n3_ := am_ (hbox); have n4_ := am_ ((by rw [hg]; exact (below_size (b2_ HB.out ax.out ay.out)) : w.heap.size ≤ au)); have n5_ := am_ ((by rw [hg]; exact (below_size (b2_ HB.out ax.out ay.out)) : w.heap.size ≤ au)); have n6_ := am_ ((by rw [hg]; exact Nat.ne_of_lt (blk_lt (rb_ ad.out)) : av ≠ au)); have n7_ := am_ ((by rw [hg]; exact Nat.ne_of_gt (blk_lt (rb_ ad.out)) : au ≠ av)); have n8_ := am_ ((by rw [hg]; exact Nat.ne_of_lt (blk_lt (rb_ ah.out)) : ar ≠ au)); have n9_ := am_ ((by rw [hg]; exact Nat.ne_of_gt (blk_lt (rb_ ah.out)) : au ≠ ar)); clear ad; clear ah; clear HB; have ad := n0_; have ah := n1_; have HB := n2_; have aj := n3_; have iV := n4_; have az := n5_; have bO := n6_; have bP := n7_; have cd := n8_; have ce := n9_; clear n0_ n1_ n2_ n3_ n4_ n5_ n6_ n7_ n8_ n9_; clear hb hbox hg))
 (try simp only [Act.put, List.setIfInBounds_toArray, List.set_cons_zero, List.set_cons_succ])
 go_cut [22] (fun v22 wc => ∃ (kq : Nat) (dN : Bool), v22 = .bool dN ∧ Aside0 (spec_ConcatDfa.j0 kq dN l0_0 l0_1 l1_0 l1_1 = some (r1, r2, r3)) ∧ Aside0 (kq ≤ k) ∧ Aside0 (wc.heap[av]? = some (.cells #[(.slice A0_0 l0_0.length c0_0), (.slice A0_1 l0_1.length c0_1)] 27 (0, 0))) ∧ Aside0 (wc.heap[ar]? = some (.cells #[(.slice A1_0 l1_0.length c1_0), (.slice A1_1 l1_1.length c1_1)] 27 (0, 0))) ∧ Aside0 (wc.heap[au]? = some (.cells #[(.slice none 0 0), (.slice none 0 0)] 27 (0, 0))) ∧ Aside0 (Below w.heap.size w wc))
 case first =>
  have H := HC3.out
  clear HC3
  replace H := Option.bind_eq_some_iff.mp H
  obtain ⟨dP, A70, H⟩ := H
  have A7 := am_ A70
  clear A70
  by_cases c8 : dP = true
  ·subst c8
   have H1 : ((spec_IsValidDfa.f k l1_0 l1_1).bind fun cn => (spec_ConcatDfa.j0 k (!cn) l0_0 l0_1 l1_0 l1_1)) = some (r1, r2, r3) := by rw [if_pos rfl] at H; exact H
   clear H
   have H := H1
   clear H1
   replace H := Option.bind_eq_some_iff.mp H
   obtain ⟨cn, A90, H⟩ := H
   replace H : (spec_ConcatDfa.j0 k (!cn) l0_0 l0_1 l1_0 l1_1) = some (r1, r2, r3) := H
   have A9 := am_ A90
   clear A90
   have H' := am_ H
   clear H
   have iW := cb.out
   have iX := cc.out
   have iY := bO.out
   have iZ := bP.out
   have cF := ck_ (v := (.slice A0_0 l0_0.length c0_0)) ad 0 rfl
   have cG := ck_ (v := (.slice A0_1 l0_1.length c0_1)) ad 1 rfl
   have cH := blk_frozen ad.out 0
   have cI := blk_frozen ad.out 1
   go_wp2_with (first | ((with_reducible refine gate_callee (f := 35) rfl ?_); refine gL_ (some 16) Try.func35 #[.agg #[.slice A0_0 l0_0.length c0_0, .slice A0_1 l0_1.length c0_1]] ?_; (with_reducible refine (spec_IsValidDfa.calls k _ _ l0_0 _ _ l0_1 true _ ?side1 ?side2 ?side3 ?side4 A7.out).mono ?_); (case side1 => exact rc_ (Kd.C_below dI.out HB.out)); (case side2 => exact eN.out); (case side3 => exact rc_ (Kd.C_below ei.out HB.out)); (case side4 => exact eO.out); rintro e w13 ⟨rfl, hb⟩; refine ⟨_, rfl, ?_⟩; have n0_ := am_ (blk_below (rb_ ad.out) hb); have n1_ := am_ (blk_below (rb_ ah.out) hb); have n2_ := am_ (blk_below (rb_ aj.out) hb); have n3_ := am_ (below_step (b3_ HB.out ax.out ay.out az.out) hb); clear ad; clear ah; clear aj; clear HB; have ad := n0_; have ah := n1_; have aj := n2_; have HB := n3_; clear n0_ n1_ n2_ n3_; (try clear hb); (try clear hb2); (try clear hk); (try clear hi); have ja := cd.out; have jb := ce.out; have cJ := ck_ (v := (.slice A1_0 l1_0.length c1_0)) ah 0 rfl; have cK := ck_ (v := (.slice A1_1 l1_1.length c1_1)) ah 1 rfl; have cL := blk_frozen ah.out 0; have cM := blk_frozen ah.out 1) | (go_at_call 35; (with_reducible refine (spec_IsValidDfa.calls k _ _ l1_0 _ _ l1_1 cn _ ?side1 ?side2 ?side3 ?side4 A9.out).mono ?_); (case side1 => exact rc_ (Kd.C_below dJ.out HB.out)); (case side2 => exact dK.out); (case side3 => exact rc_ (Kd.C_below dL.out HB.out)); (case side4 => exact dM.out); rintro e w16 ⟨rfl, hb⟩; have n0_ := am_ (blk_below (rb_ ad.out) hb); have n1_ := am_ (blk_below (rb_ ah.out) hb); have n2_ := am_ (blk_below (rb_ aj.out) hb); have n3_ := am_ (below_step (b3_ HB.out ax.out ay.out az.out) hb); clear ad; clear ah; clear aj; clear HB; have ad := n0_; have ah := n1_; have aj := n2_; have HB := n3_; clear n0_ n1_ n2_ n3_; (try clear hb); (try clear hb2); (try clear hk); (try clear hi)))
   go_meet
   case rel => exact ⟨_, (!cn), (by first | rfl | (simp; done) | (simp [*]; done)), H', ⟨by first | omega | exact Nat.le_refl _⟩, ⟨by refine rb_ ?_; exact ad.out⟩, ⟨by refine rb_ ?_; exact ah.out⟩, ⟨by refine rb_ ?_; exact aj.out⟩, ⟨by repeat (first | (with_reducible first | exact HB.out | apply below_alloc | apply pw_below_drewN | apply below_drew1 | refine below_set ?_ ax.out | refine below_set ?_ ay.out | refine below_set ?_ az.out) | exact HB.out)⟩⟩
  ·replace c8 := Bool.eq_false_iff.mpr c8
   subst c8
   have H1 : (spec_ConcatDfa.j0 k true l0_0 l0_1 l1_0 l1_1) = some (r1, r2, r3) := by rw [if_neg (show ¬ (false = true) by decide)] at H; exact H
   clear H
   have H := H1
   clear H1
   have H' := am_ H
   clear H
   have jc := cb.out
   have jd := cc.out
   have je := bO.out
   have jf := bP.out
   have cN := ck_ (v := (.slice A0_0 l0_0.length c0_0)) ad 0 rfl
   have cO := ck_ (v := (.slice A0_1 l0_1.length c0_1)) ad 1 rfl
   have cP := blk_frozen ad.out 0
   have cQ := blk_frozen ad.out 1
   go_wp2_with (first | ((with_reducible refine gate_callee (f := 35) rfl ?_); refine gL_ (some 16) Try.func35 #[.agg #[.slice A0_0 l0_0.length c0_0, .slice A0_1 l0_1.length c0_1]] ?_; (with_reducible refine (spec_IsValidDfa.calls k _ _ l0_0 _ _ l0_1 false _ ?side1 ?side2 ?side3 ?side4 A7.out).mono ?_); (case side1 => exact rc_ (Kd.C_below dI.out HB.out)); (case side2 => exact eN.out); (case side3 => exact rc_ (Kd.C_below ei.out HB.out)); (case side4 => exact eO.out); rintro e w20 ⟨rfl, hb⟩; refine ⟨_, rfl, ?_⟩; have n0_ := am_ (blk_below (rb_ ad.out) hb); have n1_ := am_ (blk_below (rb_ ah.out) hb); have n2_ := am_ (blk_below (rb_ aj.out) hb); have n3_ := am_ (below_step (b3_ HB.out ax.out ay.out az.out) hb); clear ad; clear ah; clear aj; clear HB; have ad := n0_; have ah := n1_; have aj := n2_; have HB := n3_; clear n0_ n1_ n2_ n3_; (try clear hb); (try clear hb2); (try clear hk); (try clear hi)))
   go_meet
   case rel => exact ⟨_, (true), (by first | rfl | (simp; done) | (simp [*]; done)), H', ⟨by first | omega | exact Nat.le_refl _⟩, ⟨by refine rb_ ?_; exact ad.out⟩, ⟨by refine rb_ ?_; exact ah.out⟩, ⟨by refine rb_ ?_; exact aj.out⟩, ⟨by repeat (first | (with_reducible first | exact HB.out | apply below_alloc | apply pw_below_drewN | apply below_drew1 | refine below_set ?_ ax.out | refine below_set ?_ ay.out | refine below_set ?_ az.out) | exact HB.out)⟩⟩
 case rest =>
  clear HC3
  try clear c1
  try clear c2
  try clear p2
  try clear c3
  try clear c8
  try clear c10
  try clear c11
  try clear c14
  try clear c17
  try clear c18
  try clear cF
  try clear cG
  try clear cJ
  try clear cK
  try clear cN
  try clear cO
  try clear cH
  try clear cI
  try clear cL
  try clear cM
  try clear cP
  try clear cQ
  obtain ⟨kq, dN, rfl, HA, HJ2, ad, ah, aj, HB⟩ := hcut
  cases kq with
  | zero => exact absurd HA.out (by simp [spec_ConcatDfa.j0])
  | succ kj2 =>
   have H := HA.out
   clear HA
   simp only [spec_ConcatDfa.j0] at H
   by_cases c21 : dN = true
   ·subst c21
    have H1 : (some (([] : List Bool), ([] : List (List Int)), false)) = some (r1, r2, r3) := by rw [if_pos rfl] at H; exact H
    clear H
    have H := H1
    clear H1
    simp only [Option.some.injEq, Prod.mk.injEq] at H
    obtain ⟨rfl, rfl, rfl⟩ := H
    have jg := bP.out
    have jh := bO.out
    have ji := ce.out
    have jj := cd.out
    have dl := ck_ (v := (.slice none 0 0)) aj 0 rfl
    have dm := ck_ (v := (.slice none 0 0)) aj 1 rfl
    have dn := blk_frozen aj.out 0
    have dp := blk_frozen aj.out 1
    go_wp2
    refine bodyPost_ret (results_ct rfl _ _ au 27 #[.slice none 0 0, .slice none 0 0] (0, 0) _ rfl (by refine rb_ ?_; refine blk_put (cs := #[.slice none 0 0, .slice none 0 0]) ?_ 1 _ rfl; refine rb_ ?_; refine blk_put (cs := #[.slice none 0 0, .slice none 0 0]) ?_ 0 _ rfl; refine rb_ ?_; exact aj.out) Try.underlying27 rfl (by kernel_rfl)) rfl ?_
    exact ⟨_, _, by first | rfl | (simp [errW_none, errW_some] <;> rfl) | (simp [*, errW_none, errW_some] <;> rfl), by first | exact Kd.R_nil _ _ _ _ _ | exact Kd.N_nil _ _ _ _ _ | exact Kd.V_nil _ _ _ _ _ | exact Kd.Q_nil _ _ _ _ _ | exact Kd.S_nil _ _ _ _ _, by first | exact Kd.S_nil _ _ _ _ _ | exact Kd.N_nil _ _ _ _ _ | exact Kd.V_nil _ _ _ _ _ | exact Kd.Q_nil _ _ _ _ _ | exact Kd.R_nil _ _ _ _ _, by repeat (first | (with_reducible first | exact HB.out | apply below_alloc | apply pw_below_drewN | apply below_drew1 | refine below_set ?_ ax.out | refine below_set ?_ ay.out | refine below_set ?_ az.out) | exact HB.out)⟩
   ·replace c21 := Bool.eq_false_iff.mpr c21
    subst c21
    have H1 : (if 0 < (l0_0.length : Int) then (if rdOf false l0_0 0 = true then (spec_ConcatDfa.j1 kj2 l0_0 l0_1 l1_0 l1_1 0 (([0] : List Int)) false) else (spec_ConcatDfa.j1 kj2 l0_0 l0_1 l1_0 l1_1 0 ([] : List Int) false)) else (none)) = some (r1, r2, r3) := by rw [if_neg (show ¬ (false = true) by decide)] at H; exact H
    clear H
    have H := H1
    clear H1
    by_cases c25 : 0 < (l0_0.length : Int)
    ·rw [if_pos c25] at H
     have c25b0 : decide (0 < (l0_0.length : Int)) = true := decide_eq_true c25
     have c25b1 : decide (0 < l0_0.length) = true := decide_eq_true (by omega)
     clear c25
     have HC26 := am_ H
     clear H
     go_upto_if 28 with (first | ((with_reducible refine gate_dst (N := 6) rfl ?_); refine box_event ?hg (N := 6) ?hd (cs := #[.int .i64 0, .slice none 0 0, .bool false]) (t := 78) ?hr ?_; (case hd => rfl); (case hg => rfl); (case hr => first | (go_simp; done) | (go_simp; rfl)); intro aw hg w27 hbox hb; have n0_ := am_ (blk_below (rb_ ad.out) hb); have n1_ := am_ (blk_below (rb_ ah.out) hb); have n2_ := am_ (blk_below (rb_ aj.out) hb); have n3_ := am_ (below_step (b3_ HB.out ax.out ay.out az.out) hb); have n4_ := am_ (hbox); have n5_ := am_ ((by rw [hg]; exact (below_size (b3_ HB.out ax.out ay.out az.out)) : w.heap.size ≤ aw)); have n6_ := am_ ((by rw [hg]; exact (below_size (b3_ HB.out ax.out ay.out az.out)) : w.heap.size ≤ aw)); have n7_ := am_ ((by rw [hg]; exact Nat.ne_of_lt (blk_lt (rb_ ad.out)) : av ≠ aw)); have n8_ := am_ ((by rw [hg]; exact Nat.ne_of_gt (blk_lt (rb_ ad.out)) : aw ≠ av)); have n9_ := am_ ((by rw [hg]; exact Nat.ne_of_lt (blk_lt (rb_ ah.out)) : ar ≠ aw)); have n10_ := am_ ((by rw [hg]; exact Nat.ne_of_gt (blk_lt (rb_ ah.out)) : aw ≠ ar)); have n11_ := am_ ((by rw [hg]; exact Nat.ne_of_lt (blk_lt (rb_ aj.out)) : au ≠ aw)); have n12_ := am_ ((by rw [hg]; exact Nat.ne_of_gt (blk_lt (rb_ aj.out)) : aw ≠ au)); clear ad; clear ah; clear aj; clear HB; have ad := n0_; have ah := n1_; have aj := n2_; have HB := n3_; have am := n4_; have ej := n5_; have aE := n6_; have bv := n7_; have cf := n8_; have bD := n9_; have cz := n10_; have br := n11_; have bV := n12_; clear n0_ n1_ n2_ n3_ n4_ n5_ n6_ n7_ n8_ n9_ n10_ n11_ n12_; clear hb hbox hg; have jk := cf.out; have jl := bv.out; have jm := cz.out; have jn := bD.out; have jo := bV.out; have jp := br.out; have dq := ck_ (v := (.int .i64 0)) am 0 rfl; have dr := ck_ (v := (.slice none 0 0)) am 1 rfl; have dt := ck_ (v := (.bool false)) am 2 rfl; have du := blk_frozen am.out 0; have dv := blk_frozen am.out 1; have dw := blk_frozen am.out 2; have jq := cb.out; have jr := cc.out; have js := bO.out; have jt := bP.out; have dx := ck_ (v := (.slice A0_0 l0_0.length c0_0)) ad 0 rfl; have dy := ck_ (v := (.slice A0_1 l0_1.length c0_1)) ad 1 rfl; have dz := blk_frozen ad.out 0; have dA := blk_frozen ad.out 1; have p416 : 0 ≤ (0 : Int) := (by omega); have q416 : 0 < (l0_0.length : Int) := of_decide_eq_true ah_; obtain ⟨bk, e416, bp⟩ := Kd.at_bool dI.out 0 p416 q416; cases e416; have qi416 : (0 < l0_0.length) = True := eq_true (by omega); (try rw [show ((0 : Int)).toNat = 0 from rfl] at bp); (try rw [Addr.add_zero'] at bp); have hn416_0 : bk.block ≠ aw := Nat.ne_of_lt (Nat.lt_of_lt_of_le (by have := World.block_lt_of_cell? _ _ bp; first | rwa [add_block] at this | exact this) ej.out); have hn416_1 : bk.block ≠ aw := Nat.ne_of_lt (Nat.lt_of_lt_of_le (by have := World.block_lt_of_cell? _ _ bp; first | rwa [add_block] at this | exact this) ej.out); have hn416_2 : bk.block ≠ aw := Nat.ne_of_lt (Nat.lt_of_lt_of_le (by have := World.block_lt_of_cell? _ _ bp; first | rwa [add_block] at this | exact this) ej.out); replace bp := (HB.out.cell (World.block_lt_of_cell? w _ bp)).trans bp; replace bp := (cell_far (p := ⟨aw, 0, none⟩) (by first | (rw [add_block]; exact hn416_0) | (show (Addr.add _ _).block ≠ _; rw [add_block]; exact hn416_0) | exact hn416_0) (.int .i64 0)).trans bp; replace bp := (cell_far (p := ⟨aw, 1, none⟩) (by first | (rw [add_block]; exact hn416_1) | (show (Addr.add _ _).block ≠ _; rw [add_block]; exact hn416_1) | exact hn416_1) (.slice none 0 0)).trans bp; replace bp := (cell_far (p := ⟨aw, 2, none⟩) (by first | (rw [add_block]; exact hn416_2) | (show (Addr.add _ _).block ≠ _; rw [add_block]; exact hn416_2) | exact hn416_2) (.bool false)).trans bp; clear hn416_0; clear hn416_1; clear hn416_2; replace p416 := eq_true p416; replace q416 := eq_true q416))
     (try simp only [Act.put, List.setIfInBounds_toArray, List.set_cons_zero, List.set_cons_succ])
     go_cut [] (fun wc => ∃ (kq : Nat) (ak : List Int) (cR : Value), Aside0 (spec_ConcatDfa.j1 kq l0_0 l0_1 l1_0 l1_1 0 ak false = some (r1, r2, r3)) ∧ Aside0 (kq ≤ kj2) ∧ Aside0 (Kd.R (Kd.int .i64) 3 wc w.heap.size (fun k_ => (w.heap.size ≤ k_)) cR ak) ∧ Aside0 (wc.heap[av]? = some (.cells #[(.slice (some bk) l0_0.length c0_0), (.slice A0_1 l0_1.length c0_1)] 27 (0, 0))) ∧ Aside0 (wc.heap[ar]? = some (.cells #[(.slice A1_0 l1_0.length c1_0), (.slice A1_1 l1_1.length c1_1)] 27 (0, 0))) ∧ Aside0 (wc.heap[au]? = some (.cells #[(.slice none 0 0), (.slice none 0 0)] 27 (0, 0))) ∧ Aside0 (wc.heap[aw]? = some (.cells #[.int .i64 0, cR, .bool false] 78 (0, 0))) ∧ Aside0 (Below w.heap.size w wc))
     case first =>
      have H := HC26.out
      clear HC26
      obtain ⟨bq35, hbq35⟩ : ∃ b_ : Bool, b_ = (rdOf false l0_0 0) := ⟨_, rfl⟩
      replace H : (if bq35 = true then (spec_ConcatDfa.j1 kj2 l0_0 l0_1 l1_0 l1_1 0 (([0] : List Int)) false) else (spec_ConcatDfa.j1 kj2 l0_0 l0_1 l1_0 l1_1 0 ([] : List Int) false)) = some (r1, r2, r3) := by rw [← hbq35] at H; exact H
      have Nbq35 := am_ hbq35
      clear hbq35
      (try rw [← Nbq35.out])
      by_cases c36 : bq35 = true
      ·subst c36
       have H1 : (spec_ConcatDfa.j1 kj2 l0_0 l0_1 l1_0 l1_1 0 (([0] : List Int)) false) = some (r1, r2, r3) := by rw [if_pos rfl] at H; exact H
       clear H
       have H := H1
       clear H1
       obtain ⟨ek, hy417⟩ : ∃ y_ : List Int, y_ = (([0] : List Int)) := ⟨_, rfl⟩
       replace H : (spec_ConcatDfa.j1 kj2 l0_0 l0_1 l1_0 l1_1 0 ek false) = some (r1, r2, r3) := by first | (rw [hy417]; with_reducible exact H) | (have H2_ := (Option.bind_some _ _).symm.trans H; rw [hy417]; with_reducible exact H2_) | (have H2_ := (Option.bind_some _ _).symm.trans H; with_reducible exact H2_) | with_reducible exact H | (rw [hy417]; exact H) | exact H
       have eP := am_ hy417
       clear hy417
       have H' := am_ H
       clear H
       go_wp2_with (first | ((with_reducible refine gate_dst (N := 29) rfl ?_); refine Kd.R_lit (Kd.int .i64) _ 3 ?hg (N := 29) ?hd (xs := ([0] : List Int)) (inner := [.int .i64 0]) (ok := fun _ => True) (okp := fun _ => True) ?hr ?hp (fun _ hk => hk) trivial (Below.refl _ _) (Nat.le_refl _) (by simp) ?_; (case hd => rfl); (case hg => rfl); (case hr => first | (go_simp; done) | (go_simp; rfl)); (case hp => exact (Reps.one (show Kd.M (Kd.int .i64) _ _ _ 0 [.int .i64 0] from rfl) (Reps.none _ _))); intro ks w37 ho38 hb hg_ hnew_; clear hg_ hnew_; (first | rw [← eP.out] at ho38 | (simp only [Int.reduceToNat] at ho38; rw [← eP.out] at ho38)); have n0_ := am_ (Kd.R_lower (Kd.R_newM (M := fun k_ => (w.heap.size ≤ k_)) ho38 (below_size (b4_ HB.out ax.out ay.out az.out aE.out)) (fun k_ h_ => h_)) (below_size (b4_ HB.out ax.out ay.out az.out aE.out))); have n1_ := am_ (blk_below (g := av) (o := .cells #[.slice (some bk) l0_0.length c0_0, .slice A0_1 l0_1.length c0_1] 27 (0, 0)) (by refine rb_ ?_; refine blk_far ?_ bv.out _; refine rb_ ?_; refine blk_far ?_ bv.out _; refine rb_ ?_; refine blk_far ?_ bv.out _; refine rb_ ?_; exact ad.out) hb); have n2_ := am_ (blk_below (g := ar) (o := .cells #[.slice A1_0 l1_0.length c1_0, .slice A1_1 l1_1.length c1_1] 27 (0, 0)) (by refine rb_ ?_; refine blk_far ?_ bD.out _; refine rb_ ?_; refine blk_far ?_ bD.out _; refine rb_ ?_; refine blk_far ?_ bD.out _; refine rb_ ?_; exact ah.out) hb); have n3_ := am_ (blk_below (g := au) (o := .cells #[.slice none 0 0, .slice none 0 0] 27 (0, 0)) (by refine rb_ ?_; refine blk_far ?_ br.out _; refine rb_ ?_; refine blk_far ?_ br.out _; refine rb_ ?_; refine blk_far ?_ br.out _; refine rb_ ?_; exact aj.out) hb); have n4_ := am_ (blk_below (g := aw) (o := .cells #[.int .i64 0, .slice none 0 0, .bool false] 78 (0, 0)) (by refine rb_ ?_; refine blk_put (cs := #[.int .i64 0, .slice none 0 0, .bool false]) ?_ 2 _ rfl; refine rb_ ?_; refine blk_put (cs := #[.int .i64 0, .slice none 0 0, .bool false]) ?_ 1 _ rfl; refine rb_ ?_; refine blk_put (cs := #[.int .i64 0, .slice none 0 0, .bool false]) ?_ 0 _ rfl; refine rb_ ?_; exact am.out) hb); have n5_ := am_ (below_step (b4_ HB.out ax.out ay.out az.out aE.out) hb); clear ad; clear ah; clear aj; clear am; clear HB; have eQ := n0_; have ad := n1_; have ah := n2_; have aj := n3_; have am := n4_; have HB := n5_; clear n0_ n1_ n2_ n3_ n4_ n5_; clear hb ho38; obtain ⟨fr, fs, gf⟩ := Kd.R_slice eQ.out; subst gf; have ju := cf.out; have jv := bv.out; have jw := cz.out; have jx := bD.out; have jy := bV.out; have jz := br.out; have dB := ck_ (v := (.int .i64 0)) am 0 rfl; have dC := ck_ (v := (.slice none 0 0)) am 1 rfl; have dD := ck_ (v := (.bool false)) am 2 rfl; have dE := blk_frozen am.out 0; have dF := blk_frozen am.out 1; have dG := blk_frozen am.out 2))
       go_meet
       case rel => exact ⟨_, (ek), (.slice fr ek.length fs), H', ⟨by have := HJ2.out; first | omega | exact Nat.le_refl _⟩, ⟨by refine rr_ ?_; exact Kd.R_mono (Kd.R_far (p := ⟨aw, 1, none⟩) (Kd.R_types eQ.out am.out (by decide)) (fun _ hk => hk.2) (.slice fr ek.length fs)) (fun _ hk => hk.1.1)⟩, ⟨by refine rb_ ?_; refine blk_far ?_ bv.out _; refine rb_ ?_; exact ad.out⟩, ⟨by refine rb_ ?_; refine blk_far ?_ bD.out _; refine rb_ ?_; exact ah.out⟩, ⟨by refine rb_ ?_; refine blk_far ?_ br.out _; refine rb_ ?_; exact aj.out⟩, ⟨by refine rb_ ?_; refine blk_put (cs := #[.int .i64 0, .slice none 0 0, .bool false]) ?_ 1 _ rfl; refine rb_ ?_; exact am.out⟩, ⟨by repeat (first | (with_reducible first | exact HB.out | apply below_alloc | apply pw_below_drewN | apply below_drew1 | refine below_set ?_ ax.out | refine below_set ?_ ay.out | refine below_set ?_ az.out | refine below_set ?_ aE.out) | exact HB.out)⟩⟩
      ·replace c36 := Bool.eq_false_iff.mpr c36
       subst c36
       have H1 : (spec_ConcatDfa.j1 kj2 l0_0 l0_1 l1_0 l1_1 0 ([] : List Int) false) = some (r1, r2, r3) := by rw [if_neg (show ¬ (false = true) by decide)] at H; exact H
       clear H
       have H := H1
       clear H1
       have H' := am_ H
       clear H
       go_wp2
       go_meet
       case rel => exact ⟨_, (([] : List Int)), (.slice none 0 0), H', ⟨by have := HJ2.out; first | omega | exact Nat.le_refl _⟩, ⟨by first | exact Kd.R_nil _ _ _ _ _ | exact Kd.N_nil _ _ _ _ _ | exact Kd.V_nil _ _ _ _ _ | exact Kd.Q_nil _ _ _ _ _ | exact Kd.S_nil _ _ _ _ _⟩, ⟨by refine rb_ ?_; refine blk_far ?_ bv.out _; refine rb_ ?_; refine blk_far ?_ bv.out _; refine rb_ ?_; refine blk_far ?_ bv.out _; refine rb_ ?_; exact ad.out⟩, ⟨by refine rb_ ?_; refine blk_far ?_ bD.out _; refine rb_ ?_; refine blk_far ?_ bD.out _; refine rb_ ?_; refine blk_far ?_ bD.out _; refine rb_ ?_; exact ah.out⟩, ⟨by refine rb_ ?_; refine blk_far ?_ br.out _; refine rb_ ?_; refine blk_far ?_ br.out _; refine rb_ ?_; refine blk_far ?_ br.out _; refine rb_ ?_; exact aj.out⟩, ⟨by refine rb_ ?_; refine blk_put (cs := #[.int .i64 0, .slice none 0 0, .bool false]) ?_ 2 _ rfl; refine rb_ ?_; refine blk_put (cs := #[.int .i64 0, .slice none 0 0, .bool false]) ?_ 1 _ rfl; refine rb_ ?_; refine blk_put (cs := #[.int .i64 0, .slice none 0 0, .bool false]) ?_ 0 _ rfl; refine rb_ ?_; exact am.out⟩, ⟨by repeat (first | (with_reducible first | exact HB.out | apply below_alloc | apply pw_below_drewN | apply below_drew1 | refine below_set ?_ ax.out | refine below_set ?_ ay.out | refine below_set ?_ az.out | refine below_set ?_ aE.out) | exact HB.out)⟩⟩
     case rest =>
      clear HC26
      try clear c1
      try clear c2
      try clear p2
      try clear c3
      try clear q3
      try clear c4
      try clear p4
      try clear q4
      try clear hx4
      try clear qi4
      try clear c8
      try clear c10
      try clear c11
      try clear c14
      try clear c17
      try clear c18
      try clear c21
      try clear c22
      try clear c23
      try clear c25
      try clear c25b0
      try clear c25b1
      try clear c28
      try clear c29
      try clear c30
      try clear c32
      try clear c33
      try clear c35
      try clear q35
      try clear c36
      try clear c40
      try clear c41
      try clear p41
      try clear q41
      try clear hx41
      try clear qi41
      try clear c42
      try clear cF
      try clear cG
      try clear cJ
      try clear cK
      try clear cN
      try clear cO
      try clear dl
      try clear dm
      try clear dq
      try clear dr
      try clear dt
      try clear dx
      try clear dy
      try clear dB
      try clear dC
      try clear dD
      try clear cH
      try clear cI
      try clear cL
      try clear cM
      try clear cP
      try clear cQ
      try clear dn
      try clear dp
      try clear du
      try clear dv
      try clear dw
      try clear dz
      try clear dA
      try clear dE
      try clear dF
      try clear dG
      try clear bp
      try clear p2
      try clear p416
      try clear q416
      obtain ⟨kq, ak, cR, HA, HJ25, ab, ad, ah, aj, am, HB⟩ := hcut
      cases kq with
      | zero => exact absurd HA.out (by simp [spec_ConcatDfa.j1])
      | succ kj25 =>
       have H := HA.out
       clear HA
       simp only [spec_ConcatDfa.j1] at H
       obtain ⟨ft, hy420⟩ : ∃ y_ : List (S78), y_ = (([(⟨0, ak, false⟩ : S78)] : List (S78))) := ⟨_, rfl⟩
       replace H : (spec_ConcatDfa.l0 kj25 ft 0 l0_0 l0_1 l1_0 l1_1 ([] : List Bool) ([] : List (List Int))) = some (r1, r2, r3) := by first | (rw [hy420]; with_reducible exact H) | (have H2_ := (Option.bind_some _ _).symm.trans H; rw [hy420]; with_reducible exact H2_) | (have H2_ := (Option.bind_some _ _).symm.trans H; with_reducible exact H2_) | with_reducible exact H | (rw [hy420]; exact H) | exact H
       have eR := am_ hy420
       clear hy420
       have H' := am_ H
       clear H
       have jA := cf.out
       have jB := bv.out
       have jC := cz.out
       have jD := bD.out
       have jE := bV.out
       have jF := br.out
       have dQ := ck_ (v := (.int .i64 0)) am 0 rfl
       have dR := ck_ (v := (cR)) am 1 rfl
       have dS := ck_ (v := (.bool false)) am 2 rfl
       have dT := blk_frozen am.out 0
       have dU := blk_frozen am.out 1
       have dV := blk_frozen am.out 2
       obtain ⟨aQ, aR, gg⟩ := Kd.R_slice ab.out
       subst gg
       go_wp2_with (first | ((with_reducible refine gate_dst (N := 32) rfl ?_); refine Kd.N_lit k78 _ 78 ?hg (N' := 32) ?hd (xs := ([(⟨0, ak, false⟩ : S78)] : List (S78))) (inner := [.int .i64 0, .slice aQ ak.length aR, .bool false]) (ok := (fun k_ => (w.heap.size ≤ k_) ∧ k_ ≠ av ∧ k_ ≠ ar ∧ k_ ≠ au ∧ k_ ≠ aw)) (okp := (fun k_ => (w.heap.size ≤ k_) ∧ k_ ≠ av ∧ k_ ≠ ar ∧ k_ ≠ au ∧ k_ ≠ aw)) ?hr ?hp (fun _ hk => hk) ((show ∀ k_, wc.heap.size ≤ k_ → (fun k_ => (w.heap.size ≤ k_) ∧ k_ ≠ av ∧ k_ ≠ ar ∧ k_ ≠ au ∧ k_ ≠ aw) k_ from fun k_ hk => ⟨(Nat.le_trans (below_size (b4_ HB.out ax.out ay.out az.out aE.out)) hk), Kd.freshB (g := av) (o := .cells #[.slice (some bk) l0_0.length c0_0, .slice A0_1 l0_1.length c0_1] 27 (0, 0)) (rb_ ad.out) k_ hk, Kd.freshB (g := ar) (o := .cells #[.slice A1_0 l1_0.length c1_0, .slice A1_1 l1_1.length c1_1] 27 (0, 0)) (rb_ ah.out) k_ hk, Kd.freshB (g := au) (o := .cells #[.slice none 0 0, .slice none 0 0] 27 (0, 0)) (rb_ aj.out) k_ hk, Kd.freshB (g := aw) (o := .cells #[.int .i64 0, .slice aQ ak.length aR, .bool false] 78 (0, 0)) (rb_ am.out) k_ hk⟩) _ (Nat.le_refl _)) (Below.refl _ _) (Nat.le_refl _) (by simp) ?_; (case hd => rfl); (case hg => rfl); (case hr => first | (go_simp; done) | (go_simp; rfl)); (case hp => exact (Reps.c3 (show Kd.FK k78 _ _ (⟨0, ak, false⟩ : S78) [.int .i64 0, .slice aQ ak.length aR, .bool false] from (k78_mkF _ _ (⟨0, ak, false⟩ : S78) (Kd.R_reads' (Kd.R_mono (ok' := (fun k_ => (w.heap.size ≤ k_) ∧ k_ ≠ av ∧ k_ ≠ ar ∧ k_ ≠ au ∧ k_ ≠ aw)) (Kd.R_types (Kd.R_types (Kd.R_types (Kd.R_types (ab.out) ad.out (by decide)) ah.out (by decide)) aj.out (by decide)) am.out (by decide)) (fun k_ hk => ⟨hk.1.1.1.1, ⟨hk.1.1.1.2, ⟨hk.1.1.2, ⟨hk.1.2, hk.2⟩⟩⟩⟩))).2.1 (Kd.R_F (Kd.R_mono (ok' := (fun k_ => (w.heap.size ≤ k_) ∧ k_ ≠ av ∧ k_ ≠ ar ∧ k_ ≠ au ∧ k_ ≠ aw)) (Kd.R_types (Kd.R_types (Kd.R_types (Kd.R_types (ab.out) ad.out (by decide)) ah.out (by decide)) aj.out (by decide)) am.out (by decide)) (fun k_ hk => ⟨hk.1.1.1.1, ⟨hk.1.1.1.2, ⟨hk.1.1.2, ⟨hk.1.2, hk.2⟩⟩⟩⟩))))) (Reps.none _ _))); intro kt w49 ho50 hb hg_ hnew_; clear hg_ hnew_; (first | rw [← eR.out] at ho50 | (simp only [Int.reduceToNat] at ho50; rw [← eR.out] at ho50)); have nx_ := am_ (Kd.R_below ab.out hb); have n0_ := am_ (Kd.N_lower ho50 (below_size (b4_ HB.out ax.out ay.out az.out aE.out))); have n1_ := am_ (blk_below (rb_ ad.out) hb); have n2_ := am_ (blk_below (rb_ ah.out) hb); have n3_ := am_ (blk_below (rb_ aj.out) hb); have n4_ := am_ (blk_below (rb_ am.out) hb); have n5_ := am_ (below_step (b4_ HB.out ax.out ay.out az.out aE.out) hb); clear ad; clear ah; clear aj; clear am; clear HB; clear ab; have ab := nx_; clear nx_; have dO := n0_; have ad := n1_; have ah := n2_; have aj := n3_; have am := n4_; have HB := n5_; clear n0_ n1_ n2_ n3_ n4_ n5_; clear hb ho50) | ((with_reducible refine gate_dst (N := 8) rfl ?_); refine box_event ?hg (N := 8) ?hd (cs := #[.slice none 0 0, .slice none 0 0]) (t := 27) ?hr ?_; (case hd => rfl); (case hg => rfl); (case hr => first | (go_simp; done) | (go_simp; rfl)); intro ao hg w51 hbox hb; have nx_ := am_ (Kd.R_below ab.out hb); clear ab; have ab := nx_; clear nx_; have n0_ := am_ (Kd.N_below (Kd.N_elderB (rn_ dO.out) ao (Nat.le_of_eq hg.symm)) hb); have n1_ := am_ (blk_below (rb_ ad.out) hb); have n2_ := am_ (blk_below (rb_ ah.out) hb); have n3_ := am_ (blk_below (rb_ aj.out) hb); have n4_ := am_ (blk_below (rb_ am.out) hb); have n5_ := am_ (below_step (b4_ HB.out ax.out ay.out az.out aE.out) hb); have n6_ := am_ (hbox); have n7_ := am_ ((by rw [hg]; exact (below_size (b4_ HB.out ax.out ay.out az.out aE.out)) : w.heap.size ≤ ao)); have n8_ := am_ ((by rw [hg]; exact (below_size (b4_ HB.out ax.out ay.out az.out aE.out)) : w.heap.size ≤ ao)); have n9_ := am_ ((by rw [hg]; exact Nat.ne_of_lt (blk_lt (rb_ ad.out)) : av ≠ ao)); have n10_ := am_ ((by rw [hg]; exact Nat.ne_of_gt (blk_lt (rb_ ad.out)) : ao ≠ av)); have n11_ := am_ ((by rw [hg]; exact Nat.ne_of_lt (blk_lt (rb_ ah.out)) : ar ≠ ao)); have n12_ := am_ ((by rw [hg]; exact Nat.ne_of_gt (blk_lt (rb_ ah.out)) : ao ≠ ar)); have n13_ := am_ ((by rw [hg]; exact Nat.ne_of_lt (blk_lt (rb_ aj.out)) : au ≠ ao)); have n14_ := am_ ((by rw [hg]; exact Nat.ne_of_gt (blk_lt (rb_ aj.out)) : ao ≠ au)); have n15_ := am_ ((by rw [hg]; exact Nat.ne_of_lt (blk_lt (rb_ am.out)) : aw ≠ ao)); have n16_ := am_ ((by rw [hg]; exact Nat.ne_of_gt (blk_lt (rb_ am.out)) : ao ≠ aw)); clear dO; clear ad; clear ah; clear aj; clear am; clear HB; have dO := n0_; have ad := n1_; have ah := n2_; have aj := n3_; have am := n4_; have HB := n5_; have an := n6_; have jG := n7_; have aG := n8_; have bF := n9_; have bW := n10_; have bI := n11_; have cg := n12_; have bG := n13_; have bX := n14_; have bJ := n15_; have ch := n16_; clear n0_ n1_ n2_ n3_ n4_ n5_ n6_ n7_ n8_ n9_ n10_ n11_ n12_ n13_ n14_ n15_ n16_; clear hb hbox hg; have jH := bW.out; have jI := bF.out; have jJ := cg.out; have jK := bI.out; have jL := bX.out; have jM := bG.out; have jN := ch.out; have jO := bJ.out; have dW := ck_ (v := (.slice none 0 0)) an 0 rfl; have dX := ck_ (v := (.slice none 0 0)) an 1 rfl; have dY := blk_frozen an.out 0; have dZ := blk_frozen an.out 1))
       go_loopg [7, 9] kj25 (fun kq v7 v9 w' => ∃ (co : List (S78)) (ae : Int) (aK : List Bool) (aJ : List (List Int)) (aD : Value) (aC : Value), v9 = .int .i64 ae ∧ Aside0 (spec_ConcatDfa.l0 kq co ae l0_0 l0_1 l1_0 l1_1 aK aJ = some (r1, r2, r3)) ∧ Aside0 (kq ≤ kj25) ∧ Aside0 (Kd.N k78 78 w' w.heap.size (fun k_ => (w.heap.size ≤ k_) ∧ some k_ ≠ (aD : Value).ownBlock ∧ some k_ ≠ (aC : Value).ownBlock ∧ k_ ≠ av ∧ k_ ≠ ar ∧ k_ ≠ au ∧ k_ ≠ aw ∧ k_ ≠ ao) v7 co) ∧ Aside0 (Kd.R (Kd.int .i64) 3 w' w.heap.size (fun k_ => (w.heap.size ≤ k_)) (.slice aQ ak.length aR) ak) ∧ Aside0 (Kd.R Kd.bool 4 w' w.heap.size (fun k_ => (w.heap.size ≤ k_)) aD aK) ∧ Aside0 (Kd.N (Kd.slice 3 (Kd.int .i64)) 67 w' w.heap.size (fun k_ => (w.heap.size ≤ k_) ∧ some k_ ≠ (v7 : Value).ownBlock ∧ some k_ ≠ ((.slice aQ ak.length aR) : Value).ownBlock ∧ some k_ ≠ (aD : Value).ownBlock ∧ k_ ≠ av ∧ k_ ≠ ar ∧ k_ ≠ au ∧ k_ ≠ aw ∧ k_ ≠ ao) aC aJ) ∧ Aside0 (w'.heap[av]? = some (.cells #[(.slice (some bk) l0_0.length c0_0), (.slice A0_1 l0_1.length c0_1)] 27 (0, 0))) ∧ Aside0 (w'.heap[ar]? = some (.cells #[(.slice A1_0 l1_0.length c1_0), (.slice A1_1 l1_1.length c1_1)] 27 (0, 0))) ∧ Aside0 (w'.heap[au]? = some (.cells #[(.slice none 0 0), (.slice none 0 0)] 27 (0, 0))) ∧ Aside0 (w'.heap[aw]? = some (.cells #[.int .i64 0, (.slice aQ ak.length aR), .bool false] 78 (0, 0))) ∧ Aside0 (w'.heap[ao]? = some (.cells #[aD, aC] 27 (0, 0))) ∧ Aside0 (Below w.heap.size w w'))
       case atStart => exact ⟨(ft), (0), (([] : List Bool)), (([] : List (List Int))), (.slice none 0 0), (.slice none 0 0), (by first | rfl | (simp; done) | (simp [*]; done)), H', ⟨Nat.le_refl _⟩, ⟨by refine rn_ ?_; exact Kd.N_mono (Kd.N_far (p := ⟨ao, 1, none⟩) (Kd.N_far (p := ⟨ao, 0, none⟩) (Kd.N_mono dO.out (fun k_ hk => (⟨hk, hk.2⟩ : _ ∧ k_ ≠ ao))) (fun _ hk => hk.2) (.slice none 0 0)) (fun _ hk => hk.2) (.slice none 0 0)) (fun _ hk => ⟨hk.1.1.1, ⟨(by simp [Value.ownBlock]), ⟨(by simp [Value.ownBlock]), ⟨hk.1.1.2.1, ⟨hk.1.1.2.2.1, ⟨hk.1.1.2.2.2.1, ⟨hk.1.1.2.2.2.2, hk.1.2⟩⟩⟩⟩⟩⟩⟩)⟩, ⟨by refine rr_ ?_; exact Kd.R_mono (Kd.R_mono (Kd.R_bound (Kd.R_far (p := ⟨ao, 1, none⟩) (Kd.R_far (p := ⟨ao, 0, none⟩) (Kd.R_types ab.out an.out (by decide)) (fun _ hk => hk.2) (.slice none 0 0)) (fun _ hk => hk.2) (.slice none 0 0))) (fun k_ hk => (⟨hk.1, hk.2.1⟩ : _ ∧ w.heap.size ≤ k_))) (fun _ hk => hk.2)⟩, ⟨by first | exact Kd.R_nil _ _ _ _ _ | exact Kd.N_nil _ _ _ _ _ | exact Kd.V_nil _ _ _ _ _ | exact Kd.Q_nil _ _ _ _ _ | exact Kd.S_nil _ _ _ _ _⟩, ⟨by first | exact Kd.S_nil _ _ _ _ _ | exact Kd.N_nil _ _ _ _ _ | exact Kd.V_nil _ _ _ _ _ | exact Kd.Q_nil _ _ _ _ _ | exact Kd.R_nil _ _ _ _ _⟩, ⟨by refine rb_ ?_; refine blk_far ?_ bF.out _; refine rb_ ?_; refine blk_far ?_ bF.out _; refine rb_ ?_; exact ad.out⟩, ⟨by refine rb_ ?_; refine blk_far ?_ bI.out _; refine rb_ ?_; refine blk_far ?_ bI.out _; refine rb_ ?_; exact ah.out⟩, ⟨by refine rb_ ?_; refine blk_far ?_ bG.out _; refine rb_ ?_; refine blk_far ?_ bG.out _; refine rb_ ?_; exact aj.out⟩, ⟨by refine rb_ ?_; refine blk_far ?_ bJ.out _; refine rb_ ?_; refine blk_far ?_ bJ.out _; refine rb_ ?_; exact am.out⟩, ⟨by refine rb_ ?_; refine blk_put (cs := #[.slice none 0 0, .slice none 0 0]) ?_ 1 _ rfl; refine rb_ ?_; refine blk_put (cs := #[.slice none 0 0, .slice none 0 0]) ?_ 0 _ rfl; refine rb_ ?_; exact an.out⟩, ⟨by exact zp27_0_ HB.out ax.out ay.out az.out aE.out aG.out⟩⟩
       case round =>
        clear H'
        try clear c1
        try clear c2
        try clear p2
        try clear c3
        try clear q3
        try clear c4
        try clear p4
        try clear q4
        try clear hx4
        try clear qi4
        try clear c5
        try clear c8
        try clear c10
        try clear c11
        try clear c14
        try clear c17
        try clear c18
        try clear c21
        try clear c22
        try clear c23
        try clear c25
        try clear c25b0
        try clear c25b1
        try clear c28
        try clear c29
        try clear c30
        try clear c32
        try clear c33
        try clear c35
        try clear q35
        try clear c36
        try clear c40
        try clear c41
        try clear p41
        try clear q41
        try clear hx41
        try clear qi41
        try clear c42
        try clear c44
        try clear c45
        try clear c46
        try clear c52
        try clear c53
        try clear c54
        try clear c55
        try clear cF
        try clear cG
        try clear cJ
        try clear cK
        try clear cN
        try clear cO
        try clear dl
        try clear dm
        try clear dq
        try clear dr
        try clear dt
        try clear dx
        try clear dy
        try clear dB
        try clear dC
        try clear dD
        try clear dQ
        try clear dR
        try clear dS
        try clear dW
        try clear dX
        try clear cH
        try clear cI
        try clear cL
        try clear cM
        try clear cP
        try clear cQ
        try clear dn
        try clear dp
        try clear du
        try clear dv
        try clear dw
        try clear dz
        try clear dA
        try clear dE
        try clear dF
        try clear dG
        try clear dT
        try clear dU
        try clear dV
        try clear dY
        try clear dZ
        try clear bp
        try clear p2
        try clear p4
        try clear p41
        try clear p416
        try clear q3
        try clear q35
        try clear q4
        try clear q41
        try clear q416
        obtain ⟨co, ae, aK, aJ, aD, aC, rfl, HA, HK3, al, ab, ai, ag, ad, ah, aj, am, an, HB⟩ := hrel
        cases gk with
        | zero => exact absurd HA.out (by simp [spec_ConcatDfa.l0])
        | succ k3 =>
         have H := HA.out
         clear HA
         simp only [spec_ConcatDfa.l0] at H
         by_cases c57 : ae < (co.length : Int)
         ·rw [if_pos c57] at H
          have c57b0 : decide (ae < (co.length : Int)) = true := decide_eq_true c57
          clear c57
          obtain ⟨fu, hy432⟩ : ∃ y_ : List Int, y_ = (([] : List Int)) := ⟨_, rfl⟩
          replace H : (spec_ConcatDfa.l1 k3 co ae fu 0 l0_0 l0_1 l1_0 l1_1 aK aJ) = some (r1, r2, r3) := by first | (rw [hy432]; with_reducible exact H) | (have H2_ := (Option.bind_some _ _).symm.trans H; rw [hy432]; with_reducible exact H2_) | (have H2_ := (Option.bind_some _ _).symm.trans H; with_reducible exact H2_) | with_reducible exact H | (rw [hy432]; exact H) | exact H
          have eS := am_ hy432
          clear hy432
          have H' := am_ H
          clear H
          obtain ⟨ku, kv, gh⟩ := Kd.N_slice al.out
          subst gh
          go_wp2_with (first | ((with_reducible refine gate_dst (N := 40) rfl ?_); refine Kd.R_lit (Kd.int .i64) _ 3 ?hg (N := 40) ?hd (xs := ([] : List Int)) (inner := []) (ok := fun _ => True) (okp := fun _ => True) ?hr ?hp (fun _ hk => hk) trivial (Below.refl _ _) (Nat.le_refl _) (by simp) ?_; (case hd => rfl); (case hg => rfl); (case hr => first | (go_simp; done) | (go_simp; rfl)); (case hp => exact (Reps.none _ _)); intro kw w59 ho60 hb hg_ hnew_; clear hg_ hnew_; (first | rw [← eS.out] at ho60 | (simp only [Int.reduceToNat] at ho60; rw [← eS.out] at ho60)); have n0_ := am_ (Kd.N_elder' (rn_ al.out) (Kd.R_base ho60) hb); have n1_ := am_ (Kd.R_elder' (rr_ ab.out) (Kd.R_base ho60) hb); have n2_ := am_ (Kd.R_below (rr_ ai.out) hb); have n3_ := am_ (Kd.N_elder' (rn_ ag.out) (Kd.R_base ho60) hb); have n4_ := am_ (Kd.R_lower (Kd.R_new' (Kd.R_newM (M := fun k_ => (w.heap.size ≤ k_)) ho60 (below_size (zp27_0_ HB.out ax.out ay.out az.out aE.out aG.out)) (fun k_ h_ => h_)) (Kd.R_lt (rr_ ab.out))) (below_size (zp27_0_ HB.out ax.out ay.out az.out aE.out aG.out))); have n5_ := am_ (blk_below (rb_ ad.out) hb); have n6_ := am_ (blk_below (rb_ ah.out) hb); have n7_ := am_ (blk_below (rb_ aj.out) hb); have n8_ := am_ (blk_below (rb_ am.out) hb); have n9_ := am_ (blk_below (rb_ an.out) hb); have n10_ := am_ (below_step (zp27_0_ HB.out ax.out ay.out az.out aE.out aG.out) hb); clear al; clear ab; clear ai; clear ag; clear ad; clear ah; clear aj; clear am; clear an; clear HB; have al := n0_; have ab := n1_; have ai := n2_; have ag := n3_; have fF := n4_; have ad := n5_; have ah := n6_; have aj := n7_; have am := n8_; have an := n9_; have HB := n10_; clear n0_ n1_ n2_ n3_ n4_ n5_ n6_ n7_ n8_ n9_ n10_; clear hb ho60))
          go_loopg [7, 10, 11] k3 (fun kq v7 v10 v11 w' => ∃ (af : List (S78)) (bi : List Int) (aq : Int), v11 = .int .i64 aq ∧ Aside0 (spec_ConcatDfa.l1 kq af ae bi aq l0_0 l0_1 l1_0 l1_1 aK aJ = some (r1, r2, r3)) ∧ Aside0 (kq ≤ k3) ∧ Aside0 (Kd.N k78 78 w' w.heap.size (fun k_ => (w.heap.size ≤ k_) ∧ some k_ ≠ (v10 : Value).ownBlock ∧ some k_ ≠ (aD : Value).ownBlock ∧ some k_ ≠ (aC : Value).ownBlock ∧ k_ ≠ av ∧ k_ ≠ ar ∧ k_ ≠ au ∧ k_ ≠ aw ∧ k_ ≠ ao) v7 af) ∧ Aside0 (Kd.R (Kd.int .i64) 3 w' w.heap.size (fun k_ => (w.heap.size ≤ k_) ∧ some k_ ≠ ((.slice aQ ak.length aR) : Value).ownBlock) v10 bi) ∧ Aside0 (Kd.R (Kd.int .i64) 3 w' w.heap.size (fun k_ => (w.heap.size ≤ k_) ∧ some k_ ≠ (v10 : Value).ownBlock) (.slice aQ ak.length aR) ak) ∧ Aside0 (Kd.R Kd.bool 4 w' w.heap.size (fun k_ => (w.heap.size ≤ k_)) aD aK) ∧ Aside0 (Kd.N (Kd.slice 3 (Kd.int .i64)) 67 w' w.heap.size (fun k_ => (w.heap.size ≤ k_) ∧ some k_ ≠ (v7 : Value).ownBlock ∧ some k_ ≠ (v10 : Value).ownBlock ∧ some k_ ≠ ((.slice aQ ak.length aR) : Value).ownBlock ∧ some k_ ≠ (aD : Value).ownBlock ∧ k_ ≠ av ∧ k_ ≠ ar ∧ k_ ≠ au ∧ k_ ≠ aw ∧ k_ ≠ ao) aC aJ) ∧ Aside0 (w'.heap[av]? = some (.cells #[(.slice (some bk) l0_0.length c0_0), (.slice A0_1 l0_1.length c0_1)] 27 (0, 0))) ∧ Aside0 (w'.heap[ar]? = some (.cells #[(.slice A1_0 l1_0.length c1_0), (.slice A1_1 l1_1.length c1_1)] 27 (0, 0))) ∧ Aside0 (w'.heap[au]? = some (.cells #[(.slice none 0 0), (.slice none 0 0)] 27 (0, 0))) ∧ Aside0 (w'.heap[aw]? = some (.cells #[.int .i64 0, (.slice aQ ak.length aR), .bool false] 78 (0, 0))) ∧ Aside0 (w'.heap[ao]? = some (.cells #[aD, aC] 27 (0, 0))) ∧ Aside0 (Below w.heap.size w w'))
          case atStart => exact ⟨(co), (fu), (0), (by first | rfl | (simp; done) | (simp [*]; done)), H', ⟨Nat.le_refl _⟩, ⟨by refine rn_ ?_; exact Kd.N_mono al.out (fun _ hk => ⟨hk.1.1, ⟨hk.2, ⟨hk.1.2.1, ⟨hk.1.2.2.1, ⟨hk.1.2.2.2.1, ⟨hk.1.2.2.2.2.1, ⟨hk.1.2.2.2.2.2.1, ⟨hk.1.2.2.2.2.2.2.1, hk.1.2.2.2.2.2.2.2⟩⟩⟩⟩⟩⟩⟩⟩)⟩, ⟨by refine rr_ ?_; exact Kd.R_mono fF.out (fun _ hk => ⟨hk.1.1, hk.2⟩)⟩, ⟨by refine rr_ ?_; exact ab.out⟩, ⟨by refine rr_ ?_; exact ai.out⟩, ⟨by refine rn_ ?_; exact Kd.N_mono ag.out (fun _ hk => ⟨hk.1.1, ⟨hk.1.2.1, ⟨hk.2, ⟨hk.1.2.2.1, ⟨hk.1.2.2.2.1, ⟨hk.1.2.2.2.2.1, ⟨hk.1.2.2.2.2.2.1, ⟨hk.1.2.2.2.2.2.2.1, ⟨hk.1.2.2.2.2.2.2.2.1, hk.1.2.2.2.2.2.2.2.2⟩⟩⟩⟩⟩⟩⟩⟩⟩)⟩, ⟨by refine rb_ ?_; exact ad.out⟩, ⟨by refine rb_ ?_; exact ah.out⟩, ⟨by refine rb_ ?_; exact aj.out⟩, ⟨by refine rb_ ?_; exact am.out⟩, ⟨by refine rb_ ?_; exact an.out⟩, ⟨by exact zp27_0_ HB.out ax.out ay.out az.out aE.out aG.out⟩⟩
          case round =>
           clear H'
           try clear c1
           try clear c2
           try clear p2
           try clear c3
           try clear q3
           try clear c4
           try clear p4
           try clear q4
           try clear hx4
           try clear qi4
           try clear c5
           try clear c8
           try clear c10
           try clear c11
           try clear c14
           try clear c17
           try clear c18
           try clear c21
           try clear c22
           try clear c23
           try clear c25
           try clear c25b0
           try clear c25b1
           try clear c28
           try clear c29
           try clear c30
           try clear c32
           try clear c33
           try clear c35
           try clear q35
           try clear c36
           try clear c40
           try clear c41
           try clear p41
           try clear q41
           try clear hx41
           try clear qi41
           try clear c42
           try clear c44
           try clear c45
           try clear c46
           try clear c52
           try clear c53
           try clear c54
           try clear c55
           try clear c57
           try clear c57b0
           try clear cF
           try clear cG
           try clear cJ
           try clear cK
           try clear cN
           try clear cO
           try clear dl
           try clear dm
           try clear dq
           try clear dr
           try clear dt
           try clear dx
           try clear dy
           try clear dB
           try clear dC
           try clear dD
           try clear dQ
           try clear dR
           try clear dS
           try clear dW
           try clear dX
           try clear cH
           try clear cI
           try clear cL
           try clear cM
           try clear cP
           try clear cQ
           try clear dn
           try clear dp
           try clear du
           try clear dv
           try clear dw
           try clear dz
           try clear dA
           try clear dE
           try clear dF
           try clear dG
           try clear dT
           try clear dU
           try clear dV
           try clear dY
           try clear dZ
           try clear bp
           try clear p2
           try clear p4
           try clear p41
           try clear p416
           try clear q3
           try clear q35
           try clear q4
           try clear q41
           try clear q416
           obtain ⟨af, bi, aq, rfl, HA, HK4, al, aA, ab, ai, ag, ad, ah, aj, am, an, HB⟩ := hrel
           cases gk with
           | zero => exact absurd HA.out (by simp [spec_ConcatDfa.l1])
           | succ k4 =>
            have H := HA.out
            clear HA
            simp only [spec_ConcatDfa.l1] at H
            by_cases c61 : aq < 3
            ·rw [if_pos c61] at H
             have c61b0 : decide (aq < 3) = true := decide_eq_true c61
             clear c61
             by_cases c62 : 0 ≤ ae
             ·rw [if_pos c62] at H
              have c62b0 : decide (0 ≤ ae) = true := decide_eq_true c62
              clear c62
              by_cases c63 : ae < (af.length : Int)
              ·rw [if_pos c63] at H
               have c63b0 : decide (ae < (af.length : Int)) = true := decide_eq_true c63
               clear c63
               by_cases c64 : 0 ≤ ((rd_T78 af ae).f0)
               ·rw [if_pos c64] at H
                have c64b0 : decide (0 ≤ ((rd_T78 af ae).f0)) = true := decide_eq_true c64
                clear c64
                by_cases c65 : ((rd_T78 af ae).f0) < (l0_1.length : Int)
                ·rw [if_pos c65] at H
                 have c65b0 : decide (((rd_T78 af ae).f0) < (l0_1.length : Int)) = true := decide_eq_true c65
                 clear c65
                 by_cases c66 : 0 ≤ aq
                 ·rw [if_pos c66] at H
                  have c66b0 : decide (0 ≤ aq) = true := decide_eq_true c66
                  clear c66
                  by_cases c67 : aq < ((rd_L1 l0_1 ((rd_T78 af ae).f0)).length : Int)
                  ·rw [if_pos c67] at H
                   have c67b0 : decide (aq < ((rd_L1 l0_1 ((rd_T78 af ae).f0)).length : Int)) = true := decide_eq_true c67
                   clear c67
                   replace H := Option.bind_eq_some_iff.mp H
                   obtain ⟨aN, fv, H⟩ := H
                   have A68 := am_ fv
                   clear fv
                   by_cases c69 : 0 ≤ (rd (rd_L1 l0_1 ((rd_T78 af ae).f0)) aq)
                   ·rw [if_pos c69] at H
                    have c69b0 : decide (0 ≤ (rd (rd_L1 l0_1 ((rd_T78 af ae).f0)) aq)) = true := decide_eq_true c69
                    clear c69
                    by_cases c70 : (rd (rd_L1 l0_1 ((rd_T78 af ae).f0)) aq) < (l0_0.length : Int)
                    ·rw [if_pos c70] at H
                     have c70b0 : decide ((rd (rd_L1 l0_1 ((rd_T78 af ae).f0)) aq) < (l0_0.length : Int)) = true := decide_eq_true c70
                     clear c70
                     have HC71 := am_ H
                     clear H
                     try go_wp2
                     replace al := am_ (Kd.N_drew al.out)
                     replace aA := am_ (Kd.R_drew aA.out)
                     replace ab := am_ (Kd.R_drew ab.out)
                     replace ai := am_ (Kd.R_drew ai.out)
                     replace ag := am_ (Kd.N_drew ag.out)
                     replace ad := am_ (blk_drew ad.out)
                     replace ah := am_ (blk_drew ah.out)
                     replace aj := am_ (blk_drew aj.out)
                     replace am := am_ (blk_drew am.out)
                     replace an := am_ (blk_drew an.out)
                     replace HB := am_ (below_drew1 HB.out)
                     obtain ⟨kx, bE, fw⟩ := Kd.N_slice al.out
                     (first | subst fw | (injection fw with f1_ f2_ f3_; have f4_ := f1_.symm; have f5_ := f3_.symm; clear f1_ f2_ f3_; subst f4_; subst f5_))
                     have p443 : 0 ≤ (ae : Int) := of_decide_eq_true ah_
                     have q443 : ae < (af.length : Int) := of_decide_eq_true ah_
                     obtain ⟨aI, A443_1, c443_1, e443, ea, cS, eb, hl443_1, hi443_1⟩ := at_T78 (Kd.N_reads' al.out).2.2 ae p443 q443
                     cases e443
                     obtain ⟨ce443, hce443, hMe443, hcc443⟩ := Kd.N_get al.out z78 ae p443 (by first | exact q443 | exact of_decide_eq_true ah_ | (have e_ := (Kd.N_reads' al.out).1; omega))
                     obtain ⟨ua443_1, uc443_1, rfl, ul443_1, ge443_1⟩ := k78_openF hMe443
                     have hv443_1 := hcc443 1 _ rfl
                     rw [add_field _ _ 1 (by omega)] at hv443_1
                     replace hv443_1 := Option.some.inj (hv443_1.symm.trans cS)
                     injection hv443_1 with hva_ hvn_ hvc_
                     rw [hva_] at ge443_1
                     rw [hvc_] at ul443_1
                     have bm := am_ (show Kd.V (Kd.int .i64) 3 _ w.heap.size _ _ ((rd_T78 af ae).f1) from Kd.V_mk ul443_1 ge443_1)
                     clear hva_ hvn_ hvc_ ge443_1 ul443_1 hcc443 hce443
                     have bu := am_ hi443_1
                     have hC := am_ hl443_1
                     clear hi443_1 hl443_1
                     replace p443 := eq_true p443
                     replace q443 := eq_true q443
                     have p444 : 0 ≤ (((rd_T78 af ae).f0) : Int) := of_decide_eq_true ah_
                     have q444 : ((rd_T78 af ae).f0) < (l0_1.length : Int) := of_decide_eq_true ah_
                     obtain ⟨bK, A444_0, c444_0, e444, cl, hl444_0, hi444_0⟩ := at_L1 ei.out ((rd_T78 af ae).f0) p444 q444
                     have ba := cl
                     cases e444
                     replace cl := (HB.out.cell (World.block_lt_of_cell? w _ cl)).trans cl
                     have ec := am_ hi444_0
                     have hD := am_ hl444_0
                     clear hi444_0 hl444_0
                     replace p444 := eq_true p444
                     replace q444 := eq_true q444
                     have p445 : 0 ≤ (aq : Int) := of_decide_eq_true ah_
                     have q445 : aq < ((rd_L1 l0_1 ((rd_T78 af ae).f0)).length : Int) := of_decide_eq_true ah_
                     obtain ⟨cT, e445, cm⟩ := Kd.at_int ec.out aq p445 q445
                     have bb := cm
                     cases e445
                     replace cm := (HB.out.cell (World.block_lt_of_cell? w _ cm)).trans cm
                     replace p445 := eq_true p445
                     replace q445 := eq_true q445
                     have p446 : 0 ≤ (ae : Int) := of_decide_eq_true ah_
                     have q446 : ae < (af.length : Int) := of_decide_eq_true ah_
                     obtain ⟨fG, A446_1, c446_1, e446, ed, cU, ee, hl446_1, hi446_1⟩ := at_T78 (Kd.N_reads' al.out).2.2 ae p446 q446
                     obtain rfl : aI = fG := (by injection e446)
                     obtain ⟨ce446, hce446, hMe446, hcc446⟩ := Kd.N_get al.out z78 ae p446 (by first | exact q446 | exact of_decide_eq_true ah_ | (have e_ := (Kd.N_reads' al.out).1; omega))
                     obtain ⟨ua446_1, uc446_1, rfl, ul446_1, ge446_1⟩ := k78_openF hMe446
                     have hv446_1 := hcc446 1 _ rfl
                     rw [add_field _ _ 1 (by omega)] at hv446_1
                     replace hv446_1 := Option.some.inj (hv446_1.symm.trans cU)
                     injection hv446_1 with hva_ hvn_ hvc_
                     rw [hva_] at ge446_1
                     rw [hvc_] at ul446_1
                     have bn := am_ (show Kd.V (Kd.int .i64) 3 _ w.heap.size _ _ ((rd_T78 af ae).f1) from Kd.V_mk ul446_1 ge446_1)
                     clear hva_ hvn_ hvc_ ge446_1 ul446_1 hcc446 hce446
                     have bj := am_ hi446_1
                     have ef := am_ hl446_1
                     clear hi446_1 hl446_1
                     replace p446 := eq_true p446
                     replace q446 := eq_true q446
                     have ea_ := Option.some.inj (cS.symm.trans cU)
                     injection ea_ with ea_ en_ ec_
                     subst ea_
                     subst ec_
                     clear en_
                     refine start_ (n := 23) (S := fun w' => w'.cell? ⟨av, 0, none⟩ = some (.slice (some bk) l0_0.length c0_0) ∧ w'.cell? ⟨av, 1, none⟩ = some (.slice (some bK) l0_1.length c0_1) ∧ w'.cell? ⟨ar, 0, none⟩ = some (.slice A1_0 l1_0.length c1_0) ∧ w'.cell? ⟨ar, 1, none⟩ = some (.slice A1_1 l1_1.length c1_1) ∧ w'.cell? (aI.add ((ae).toNat * 3)) = some (.int .i64 ((rd_T78 af ae).f0)) ∧ w'.cell? ⟨(aI.add ((ae).toNat * 3)).block, (aI.add ((ae).toNat * 3)).off + 1, none⟩ = some (.slice A443_1 ((rd_T78 af ae).f1).length c443_1) ∧ w'.cell? ⟨(aI.add ((ae).toNat * 3)).block, (aI.add ((ae).toNat * 3)).off + 2, none⟩ = some (.bool ((rd_T78 af ae).f2)) ∧ w'.cell? (bK.add (((rd_T78 af ae).f0)).toNat) = some (.slice (some cT) (rd_L1 l0_1 ((rd_T78 af ae).f0)).length c444_0) ∧ w'.cell? (cT.add (aq).toNat) = some (.int .i64 (rd (rd_L1 l0_1 ((rd_T78 af ae).f0)) aq)) ∧ w'.cell? (aI.add ((ae).toNat * 3)) = some (.int .i64 ((rd_T78 af ae).f0)) ∧ w'.cell? ⟨(aI.add ((ae).toNat * 3)).block, (aI.add ((ae).toNat * 3)).off + 1, none⟩ = some (.slice A443_1 ((rd_T78 af ae).f1).length c443_1) ∧ w'.cell? ⟨(aI.add ((ae).toNat * 3)).block, (aI.add ((ae).toNat * 3)).off + 2, none⟩ = some (.bool ((rd_T78 af ae).f2))) (ds := []) (bl 23 0) (by kernel_rfl) rfl rfl ⟨(blk_cell ad.out 0).trans rfl, (blk_cell ad.out 1).trans rfl, (blk_cell ah.out 0).trans rfl, (blk_cell ah.out 1).trans rfl, ea, cS, eb, ((HB.out.cell (World.block_lt_of_cell? w _ ba)).trans ba), ((HB.out.cell (World.block_lt_of_cell? w _ bb)).trans bb), ed, cU, ee⟩ (fun hHeld => ?_); refine with_tabW spec_ConcatDfa.tab15 spec_ConcatDfa.bits15 (fun HT_ HW_ => ?_)
                     generalize wr.drew = w72 at al aA ab ai ag ad ah aj am an HB bm bn bu ec bj ea cS eb cl cm ed cU ee hHeld ⊢
                     refine pu_ 0 45 (bl 23 1) HT_ ?_
                     refine pu_ 2 47 (bl 23 5) HT_ ?_
                     refine pu_ 3 48 (bl 23 13) HT_ ?_
                     refine pu_ 4 49 (bl 23 29) HT_ ?_
                     refine pu_ 5 50 (bl 23 61) HT_ ?_
                     refine pu_ 9 54 (bl 23 573) HT_ ?_
                     refine pu_ 13 58 (bl 23 8765) HT_ ?_
                     refine pu_ 14 59 (bl 23 25149) HT_ ?_
                     refine pu_ 15 60 (bl 23 57917) HT_ ?_
                     refine pu_ 16 61 (bl 23 123453) HT_ ?_
                     refine pu_ 18 63 (bl 23 385597) HT_ ?_
                     refine tk_ 1 46 (bl 23 385599) HT_ HW_ hHeld ?_
                     refine tk_ 6 51 (bl 23 385663) HT_ HW_ hHeld ?_
                     refine pu_ 7 52 (bl 23 385791) HT_ ?_
                     refine tk_ 8 53 (bl 23 386047) HT_ HW_ hHeld ?_
                     refine pu_ 10 55 (bl 23 387071) HT_ ?_
                     refine tk_ 11 56 (bl 23 389119) HT_ HW_ hHeld ?_
                     refine tk_ 12 57 (bl 23 393215) HT_ HW_ hHeld ?_
                     refine tk_ 17 62 (bl 23 524287) HT_ HW_ hHeld ?_
                     refine join_ (σ := Value × Nat) 1 (bl 23 4194303) (fun s_ => [(64, s_.1), (12, .pointer (some ⟨s_.2, 0, none⟩)), (65, .agg #[.int .i64 (rd (rd_L1 l0_1 ((rd_T78 af ae).f0)) aq), s_.1, .bool false])]) (fun s_ w' => (w'.cell? ⟨av, 0, none⟩ = some (.slice (some bk) l0_0.length c0_0) ∧ w'.cell? ⟨av, 1, none⟩ = some (.slice (some bK) l0_1.length c0_1) ∧ w'.cell? ⟨ar, 0, none⟩ = some (.slice A1_0 l1_0.length c1_0) ∧ w'.cell? ⟨ar, 1, none⟩ = some (.slice A1_1 l1_1.length c1_1) ∧ w'.cell? (aI.add ((ae).toNat * 3)) = some (.int .i64 ((rd_T78 af ae).f0)) ∧ w'.cell? ⟨(aI.add ((ae).toNat * 3)).block, (aI.add ((ae).toNat * 3)).off + 1, none⟩ = some (.slice A443_1 ((rd_T78 af ae).f1).length c443_1) ∧ w'.cell? ⟨(aI.add ((ae).toNat * 3)).block, (aI.add ((ae).toNat * 3)).off + 2, none⟩ = some (.bool ((rd_T78 af ae).f2)) ∧ w'.cell? (bK.add (((rd_T78 af ae).f0)).toNat) = some (.slice (some cT) (rd_L1 l0_1 ((rd_T78 af ae).f0)).length c444_0) ∧ w'.cell? (cT.add (aq).toNat) = some (.int .i64 (rd (rd_L1 l0_1 ((rd_T78 af ae).f0)) aq)) ∧ w'.cell? (aI.add ((ae).toNat * 3)) = some (.int .i64 ((rd_T78 af ae).f0)) ∧ w'.cell? ⟨(aI.add ((ae).toNat * 3)).block, (aI.add ((ae).toNat * 3)).off + 1, none⟩ = some (.slice A443_1 ((rd_T78 af ae).f1).length c443_1) ∧ w'.cell? ⟨(aI.add ((ae).toNat * 3)).block, (aI.add ((ae).toNat * 3)).off + 2, none⟩ = some (.bool ((rd_T78 af ae).f2))) ∧ (Kd.V (Kd.int .i64) 3 w' w.heap.size (fun k_ => (w.heap.size ≤ k_) ∧ some k_ ≠ (s_.1 : Value).ownBlock ∧ some k_ ≠ (u10 : Value).ownBlock ∧ some k_ ≠ (aD : Value).ownBlock ∧ some k_ ≠ (aC : Value).ownBlock ∧ some k_ ≠ (.slice (some aI) af.length bE : Value).ownBlock ∧ k_ ≠ av ∧ k_ ≠ ar ∧ k_ ≠ au ∧ k_ ≠ aw ∧ k_ ≠ ao ∧ k_ ≠ s_.2) (.slice A443_1 ((rd_T78 af ae).f1).length c443_1) ((rd_T78 af ae).f1)) ∧ (Kd.V (Kd.int .i64) 3 w' w.heap.size (fun k_ => (w.heap.size ≤ k_) ∧ some k_ ≠ (s_.1 : Value).ownBlock ∧ some k_ ≠ (u10 : Value).ownBlock ∧ some k_ ≠ (aD : Value).ownBlock ∧ some k_ ≠ (aC : Value).ownBlock ∧ some k_ ≠ (.slice (some aI) af.length bE : Value).ownBlock ∧ k_ ≠ av ∧ k_ ≠ ar ∧ k_ ≠ au ∧ k_ ≠ aw ∧ k_ ≠ ao ∧ k_ ≠ s_.2) (.slice A443_1 ((rd_T78 af ae).f1).length c443_1) ((rd_T78 af ae).f1)) ∧ (Kd.R (Kd.int .i64) 3 w' w.heap.size (fun k_ => (w.heap.size ≤ k_) ∧ some k_ ≠ (u10 : Value).ownBlock ∧ some k_ ≠ (.slice aQ ak.length aR : Value).ownBlock) s_.1 aN) ∧ (Kd.R (Kd.int .i64) 3 w' w.heap.size (fun k_ => (w.heap.size ≤ k_) ∧ some k_ ≠ (s_.1 : Value).ownBlock ∧ some k_ ≠ (.slice aQ ak.length aR : Value).ownBlock) u10 bi) ∧ (Kd.R (Kd.int .i64) 3 w' w.heap.size (fun k_ => (w.heap.size ≤ k_) ∧ some k_ ≠ (s_.1 : Value).ownBlock ∧ some k_ ≠ (u10 : Value).ownBlock) (.slice aQ ak.length aR) ak) ∧ (Kd.R Kd.bool 4 w' w.heap.size (fun k_ => (w.heap.size ≤ k_)) aD aK) ∧ (Kd.N (Kd.slice 3 (Kd.int .i64)) 67 w' w.heap.size (fun k_ => (w.heap.size ≤ k_) ∧ some k_ ≠ (s_.1 : Value).ownBlock ∧ some k_ ≠ (u10 : Value).ownBlock ∧ some k_ ≠ (.slice aQ ak.length aR : Value).ownBlock ∧ some k_ ≠ (aD : Value).ownBlock ∧ some k_ ≠ (.slice (some aI) af.length bE : Value).ownBlock ∧ k_ ≠ av ∧ k_ ≠ ar ∧ k_ ≠ au ∧ k_ ≠ aw ∧ k_ ≠ ao ∧ k_ ≠ s_.2) aC aJ) ∧ (Kd.N k78 78 w' w.heap.size (fun k_ => (w.heap.size ≤ k_) ∧ some k_ ≠ (s_.1 : Value).ownBlock ∧ some k_ ≠ (u10 : Value).ownBlock ∧ some k_ ≠ (aD : Value).ownBlock ∧ some k_ ≠ (aC : Value).ownBlock ∧ k_ ≠ av ∧ k_ ≠ ar ∧ k_ ≠ au ∧ k_ ≠ aw ∧ k_ ≠ ao ∧ k_ ≠ s_.2) (.slice (some aI) af.length bE) af) ∧ (w'.heap[av]? = some (.cells #[.slice (some bk) l0_0.length c0_0, .slice (some bK) l0_1.length c0_1] 27 (0, 0))) ∧ (w'.heap[ar]? = some (.cells #[.slice A1_0 l1_0.length c1_0, .slice A1_1 l1_1.length c1_1] 27 (0, 0))) ∧ (w'.heap[au]? = some (.cells #[.slice none 0 0, .slice none 0 0] 27 (0, 0))) ∧ (w'.heap[aw]? = some (.cells #[.int .i64 0, .slice aQ ak.length aR, .bool false] 78 (0, 0))) ∧ (w'.heap[ao]? = some (.cells #[aD, aC] 27 (0, 0))) ∧ (w'.heap[s_.2]? = some (.cells #[.int .i64 0, .slice none 0 0, .bool false] 78 (0, 0))) ∧ (w.heap.size ≤ s_.2) ∧ (w.heap.size ≤ s_.2) ∧ (av ≠ s_.2) ∧ (s_.2 ≠ av) ∧ (ar ≠ s_.2) ∧ (s_.2 ≠ ar) ∧ (au ≠ s_.2) ∧ (s_.2 ≠ au) ∧ (aw ≠ s_.2) ∧ (s_.2 ≠ aw) ∧ (ao ≠ s_.2) ∧ (s_.2 ≠ ao) ∧ (Below w.heap.size w w')) ?_ ?_
                     rotate_left
                     ·intro hCont
                      refine two_ (i := 19) (j := 21) (Ni := some 64) (Nj := some 12) (bl 23 1048575) (bl 23 2621439) rfl rfl rfl rfl (two_of HT_.out (by kernel_rfl)) (by decide) (by decide) (fun K hK => ?_) (fun K hK => ?_)
                      ·skip
                       refine gO_ Try.func73 #[.agg #[.slice A1_0 l1_0.length c1_0, .slice A1_1 l1_1.length c1_1], .slice A443_1 ((rd_T78 af ae).f1).length c443_1, .int .i64 aq] ?_
                       with_reducible refine (spec_l6Move.calls k4 _ _ l1_0 _ _ l1_1 _ _ ((rd_T78 af ae).f1) aq aN _ ?side1 ?side2 ?side3 ?side4 ?side5 ?side6 A68.out).mono ?_
                       (case side1 => exact rc_ (Kd.C_below dJ.out HB.out))
                       (case side2 => exact dK.out)
                       (case side3 => exact rc_ (Kd.C_below dL.out HB.out))
                       (case side4 => exact dM.out)
                       (case side5 => exact rc_ (by repeat (first | (with_reducible exact bj.out) | (with_reducible refine Kd.C_alloc ?_ _) | (with_reducible refine Kd.C_drewN ?_ _) | (with_reducible refine Kd.C_drew ?_) | exact bj.out)))
                       (case side6 => exact ef.out)
                       rintro e w74 ⟨cp, rfl, ho0, hb⟩
                       have cq := (hb.cell (World.block_lt_of_cell? _ _ (hHeld.2.2.2.2.1))).trans (hHeld.2.2.2.2.1)
                       have cr := (hb.cell (World.block_lt_of_cell? _ _ (hHeld.2.2.2.2.2.1))).trans (hHeld.2.2.2.2.2.1)
                       have ct := (hb.cell (World.block_lt_of_cell? _ _ (hHeld.2.2.2.2.2.2.1))).trans (hHeld.2.2.2.2.2.2.1)
                       have cZ := (hb.cell (World.block_lt_of_cell? _ _ (hHeld.2.2.2.2.2.2.2.2.2.1))).trans (hHeld.2.2.2.2.2.2.2.2.2.1)
                       have cu := (hb.cell (World.block_lt_of_cell? _ _ (hHeld.2.2.2.2.2.2.2.2.2.2.1))).trans (hHeld.2.2.2.2.2.2.2.2.2.2.1)
                       have cv := (hb.cell (World.block_lt_of_cell? _ _ (hHeld.2.2.2.2.2.2.2.2.2.2.2))).trans (hHeld.2.2.2.2.2.2.2.2.2.2.2)
                       refine ⟨_, rfl, ?_⟩
                       replace al := am_ (Kd.N_elder' (rn_ al.out) (Kd.R_base ho0) hb)
                       replace ai := am_ (Kd.R_below (rr_ ai.out) hb)
                       replace ag := am_ (Kd.N_elder' (rn_ ag.out) (Kd.R_base ho0) hb)
                       replace bm := am_ (Kd.V_elder' (rv_ bm.out) (Kd.R_base ho0) hb)
                       replace bn := am_ (Kd.V_elder' (rv_ bn.out) (Kd.R_base ho0) hb)
                       replace bq := am_ (Kd.R_lower (Kd.R_new' (Kd.R_new' (Kd.R_newM (M := fun k_ => (w.heap.size ≤ k_)) ho0 (below_size (zp27_0_ HB.out ax.out ay.out az.out aE.out aG.out)) (fun k_ h_ => h_)) (Kd.R_lt (rr_ aA.out))) (Kd.R_lt (rr_ ab.out))) (below_size (zp27_0_ HB.out ax.out ay.out az.out aE.out aG.out)))
                       replace aA := am_ (Kd.R_elder' (rr_ aA.out) (Kd.R_base ho0) hb)
                       replace ab := am_ (Kd.R_elder' (rr_ ab.out) (Kd.R_base ho0) hb)
                       replace ad := am_ (blk_below (rb_ ad.out) hb)
                       replace ah := am_ (blk_below (rb_ ah.out) hb)
                       replace aj := am_ (blk_below (rb_ aj.out) hb)
                       replace am := am_ (blk_below (rb_ am.out) hb)
                       replace an := am_ (blk_below (rb_ an.out) hb)
                       replace bu := am_ (Kd.C_below (by repeat (first | (with_reducible exact bu.out) | (with_reducible refine Kd.C_alloc ?_ _) | (with_reducible refine Kd.C_drewN ?_ _) | (with_reducible refine Kd.C_drew ?_) | exact bu.out)) hb)
                       replace bj := am_ (Kd.C_below (by repeat (first | (with_reducible exact bj.out) | (with_reducible refine Kd.C_alloc ?_ _) | (with_reducible refine Kd.C_drewN ?_ _) | (with_reducible refine Kd.C_drew ?_) | exact bj.out)) hb)
                       replace HB := am_ (below_step (zp27_0_ HB.out ax.out ay.out az.out aE.out aG.out) hb)
                       (try clear hb)
                       (try clear hb2)
                       (try clear hk)
                       (try clear hi)
                       (try clear ho0)
                       obtain ⟨gi, gj, fx⟩ := Kd.R_slice bq.out
                       (first | subst fx | (injection fx with f1_ f2_ f3_; have f4_ := f1_.symm; have f5_ := f3_.symm; clear f1_ f2_ f3_; subst f4_; subst f5_))
                       refine hK.out _ _ ⟨(blk_cell ad.out 0).trans rfl, (blk_cell ad.out 1).trans rfl, (blk_cell ah.out 0).trans rfl, (blk_cell ah.out 1).trans rfl, cq, cr, ct, ((HB.out.cell (World.block_lt_of_cell? w _ ba)).trans ba), ((HB.out.cell (World.block_lt_of_cell? w _ bb)).trans bb), cZ, cu, cv⟩ (fun hHeld => ?_)
                       clear hK K
                       refine norm_ (a' := ?_) ?_ ?_
                       rotate_left
                       ·show Act.put _ (some 64) _ = _
                        simp only [pn_, sz_, ss_, i64_w, i32_w]
                        rfl
                       refine pu_ 20 65 (bl 23 2097151) HT_ ?_
                       refine on_ 21 (some 12) (bl 23 4194303) HT_ (fun K hK => ?_)
                       refine box_step ?hg (N := 12) ?hd (cs := #[.int .i64 0, .slice none 0 0, .bool false]) (t := 78) ?hr ?_; (case hd => rfl); (case hg => rfl); (case hr => first | (go_simp; done) | (go_simp; rfl))
                       intro aa hg w76 hbox hb
                       have cq := (hb.cell (World.block_lt_of_cell? _ _ (hHeld.2.2.2.2.1))).trans (hHeld.2.2.2.2.1)
                       have cr := (hb.cell (World.block_lt_of_cell? _ _ (hHeld.2.2.2.2.2.1))).trans (hHeld.2.2.2.2.2.1)
                       have ct := (hb.cell (World.block_lt_of_cell? _ _ (hHeld.2.2.2.2.2.2.1))).trans (hHeld.2.2.2.2.2.2.1)
                       have cZ := (hb.cell (World.block_lt_of_cell? _ _ (hHeld.2.2.2.2.2.2.2.2.2.1))).trans (hHeld.2.2.2.2.2.2.2.2.2.1)
                       have cu := (hb.cell (World.block_lt_of_cell? _ _ (hHeld.2.2.2.2.2.2.2.2.2.2.1))).trans (hHeld.2.2.2.2.2.2.2.2.2.2.1)
                       have cv := (hb.cell (World.block_lt_of_cell? _ _ (hHeld.2.2.2.2.2.2.2.2.2.2.2))).trans (hHeld.2.2.2.2.2.2.2.2.2.2.2)
                       have n0_ := am_ (Kd.N_below (Kd.N_elderB (rn_ al.out) aa (Nat.le_of_eq hg.symm)) hb)
                       have n1_ := am_ (Kd.R_below (rr_ aA.out) hb)
                       have n2_ := am_ (Kd.R_below (rr_ ab.out) hb)
                       have n3_ := am_ (Kd.R_below (rr_ ai.out) hb)
                       have n4_ := am_ (Kd.N_below (Kd.N_elderB (rn_ ag.out) aa (Nat.le_of_eq hg.symm)) hb)
                       have n5_ := am_ (Kd.V_below (Kd.V_elderB (rv_ bm.out) aa (Nat.le_of_eq hg.symm)) hb)
                       have n6_ := am_ (Kd.V_below (Kd.V_elderB (rv_ bn.out) aa (Nat.le_of_eq hg.symm)) hb)
                       have n7_ := am_ (Kd.R_below (rr_ bq.out) hb)
                       have n8_ := am_ (blk_below (rb_ ad.out) hb)
                       have n9_ := am_ (blk_below (rb_ ah.out) hb)
                       have n10_ := am_ (blk_below (rb_ aj.out) hb)
                       have n11_ := am_ (blk_below (rb_ am.out) hb)
                       have n12_ := am_ (blk_below (rb_ an.out) hb)
                       have n13_ := am_ (Kd.C_below (by repeat (first | (with_reducible exact bu.out) | (with_reducible refine Kd.C_alloc ?_ _) | (with_reducible refine Kd.C_drewN ?_ _) | (with_reducible refine Kd.C_drew ?_) | exact bu.out)) hb)
                       have n14_ := am_ (Kd.C_below (by repeat (first | (with_reducible exact bj.out) | (with_reducible refine Kd.C_alloc ?_ _) | (with_reducible refine Kd.C_drewN ?_ _) | (with_reducible refine Kd.C_drew ?_) | exact bj.out)) hb)
                       have n15_ := am_ (below_step (zp27_0_ HB.out ax.out ay.out az.out aE.out aG.out) hb)
                       have n16_ := am_ (hbox)
                       have n17_ := am_ ((by rw [hg]; exact (below_size (zp27_0_ HB.out ax.out ay.out az.out aE.out aG.out)) : w.heap.size ≤ aa))
                       have n18_ := am_ ((by rw [hg]; exact (below_size (zp27_0_ HB.out ax.out ay.out az.out aE.out aG.out)) : w.heap.size ≤ aa))
                       have n19_ := am_ ((by rw [hg]; exact Nat.ne_of_lt (blk_lt (rb_ ad.out)) : av ≠ aa))
                       have n20_ := am_ ((by rw [hg]; exact Nat.ne_of_gt (blk_lt (rb_ ad.out)) : aa ≠ av))
                       have n21_ := am_ ((by rw [hg]; exact Nat.ne_of_lt (blk_lt (rb_ ah.out)) : ar ≠ aa))
                       have n22_ := am_ ((by rw [hg]; exact Nat.ne_of_gt (blk_lt (rb_ ah.out)) : aa ≠ ar))
                       have n23_ := am_ ((by rw [hg]; exact Nat.ne_of_lt (blk_lt (rb_ aj.out)) : au ≠ aa))
                       have n24_ := am_ ((by rw [hg]; exact Nat.ne_of_gt (blk_lt (rb_ aj.out)) : aa ≠ au))
                       have n25_ := am_ ((by rw [hg]; exact Nat.ne_of_lt (blk_lt (rb_ am.out)) : aw ≠ aa))
                       have n26_ := am_ ((by rw [hg]; exact Nat.ne_of_gt (blk_lt (rb_ am.out)) : aa ≠ aw))
                       have n27_ := am_ ((by rw [hg]; exact Nat.ne_of_lt (blk_lt (rb_ an.out)) : ao ≠ aa))
                       have n28_ := am_ ((by rw [hg]; exact Nat.ne_of_gt (blk_lt (rb_ an.out)) : aa ≠ ao))
                       clear al aA ab ai ag bm bn bq ad ah aj am an bu bj HB
                       have al := n0_; have aA := n1_; have ab := n2_; have ai := n3_; have ag := n4_; have bm := n5_; have bn := n6_; have bq := n7_; have ad := n8_; have ah := n9_; have aj := n10_; have am := n11_; have an := n12_; have bu := n13_; have bj := n14_; have HB := n15_; have ap := n16_; have be := n17_; have bc := n18_; have aT := n19_; have bw := n20_; have aU := n21_; have bx := n22_; have bf := n23_; have bz := n24_; have bg := n25_; have bA := n26_; have bh := n27_; have bB := n28_
                       clear n0_ n1_ n2_ n3_ n4_ n5_ n6_ n7_ n8_ n9_ n10_ n11_ n12_ n13_ n14_ n15_ n16_ n17_ n18_ n19_ n20_ n21_ n22_ n23_ n24_ n25_ n26_ n27_ n28_ hb hbox hg
                       refine hK.out _ _ ⟨(blk_cell ad.out 0).trans rfl, (blk_cell ad.out 1).trans rfl, (blk_cell ah.out 0).trans rfl, (blk_cell ah.out 1).trans rfl, cq, cr, ct, ((HB.out.cell (World.block_lt_of_cell? w _ ba)).trans ba), ((HB.out.cell (World.block_lt_of_cell? w _ bb)).trans bb), cZ, cu, cv⟩ (fun hHeld => ?_)
                       clear hK K
                       refine norm_ (a' := ?_) ?_ ?_
                       rotate_left
                       ·show Act.put _ (some 12) _ = _
                        simp only [pn_, sz_, ss_, i64_w, i32_w]
                        rfl
                       exact norm_ (by simp only [putAll, Act.put, List.setIfInBounds_toArray, List.set_cons_zero, List.set_cons_succ]) (hCont (.slice gi aN.length gj, aa) _ ⟨hHeld, (by refine rv_ ?_; exact Kd.V_mono bm.out (fun _ hk => ⟨hk.1.1.1.1, ⟨hk.1.2, ⟨hk.1.1.1.2.1, ⟨hk.1.1.1.2.2.1, ⟨hk.1.1.1.2.2.2.1, ⟨hk.1.1.2, ⟨hk.1.1.1.2.2.2.2.1, ⟨hk.1.1.1.2.2.2.2.2.1, ⟨hk.1.1.1.2.2.2.2.2.2.1, ⟨hk.1.1.1.2.2.2.2.2.2.2.1, ⟨hk.1.1.1.2.2.2.2.2.2.2.2, hk.2⟩⟩⟩⟩⟩⟩⟩⟩⟩⟩⟩)), (by refine rv_ ?_; exact Kd.V_mono bn.out (fun _ hk => ⟨hk.1.1.1.1, ⟨hk.1.2, ⟨hk.1.1.1.2.1, ⟨hk.1.1.1.2.2.1, ⟨hk.1.1.1.2.2.2.1, ⟨hk.1.1.2, ⟨hk.1.1.1.2.2.2.2.1, ⟨hk.1.1.1.2.2.2.2.2.1, ⟨hk.1.1.1.2.2.2.2.2.2.1, ⟨hk.1.1.1.2.2.2.2.2.2.2.1, ⟨hk.1.1.1.2.2.2.2.2.2.2.2, hk.2⟩⟩⟩⟩⟩⟩⟩⟩⟩⟩⟩)), (by refine rr_ ?_; exact Kd.R_mono bq.out (fun _ hk => ⟨hk.1.1.1, ⟨hk.1.2, hk.2⟩⟩)), (by refine rr_ ?_; exact Kd.R_mono aA.out (fun _ hk => ⟨hk.1.1, ⟨hk.2, hk.1.2⟩⟩)), (by refine rr_ ?_; exact Kd.R_mono ab.out (fun _ hk => ⟨hk.1.1, ⟨hk.2, hk.1.2⟩⟩)), (rr_ ai.out), (by refine rn_ ?_; exact Kd.N_mono ag.out (fun _ hk => ⟨hk.1.1.1, ⟨hk.1.2, ⟨hk.1.1.2.2.1, ⟨hk.1.1.2.2.2.1, ⟨hk.1.1.2.2.2.2.1, ⟨hk.1.1.2.1, ⟨hk.1.1.2.2.2.2.2.1, ⟨hk.1.1.2.2.2.2.2.2.1, ⟨hk.1.1.2.2.2.2.2.2.2.1, ⟨hk.1.1.2.2.2.2.2.2.2.2.1, ⟨hk.1.1.2.2.2.2.2.2.2.2.2, hk.2⟩⟩⟩⟩⟩⟩⟩⟩⟩⟩⟩)), (by refine rn_ ?_; exact Kd.N_mono al.out (fun _ hk => ⟨hk.1.1.1, ⟨hk.1.2, ⟨hk.1.1.2.1, ⟨hk.1.1.2.2.1, ⟨hk.1.1.2.2.2.1, ⟨hk.1.1.2.2.2.2.1, ⟨hk.1.1.2.2.2.2.2.1, ⟨hk.1.1.2.2.2.2.2.2.1, ⟨hk.1.1.2.2.2.2.2.2.2.1, ⟨hk.1.1.2.2.2.2.2.2.2.2, hk.2⟩⟩⟩⟩⟩⟩⟩⟩⟩⟩)), (rb_ ad.out), (rb_ ah.out), (rb_ aj.out), (rb_ am.out), (rb_ an.out), (rb_ ap.out), be.out, bc.out, aT.out, bw.out, aU.out, bx.out, bf.out, bz.out, bg.out, bA.out, bh.out, bB.out, (zp27_1_ HB.out ax.out ay.out az.out aE.out aG.out bc.out)⟩)
                      ·skip
                       refine box_step ?hg (N := 12) ?hd (cs := #[.int .i64 0, .slice none 0 0, .bool false]) (t := 78) ?hr ?_; (case hd => rfl); (case hg => rfl); (case hr => first | (go_simp; done) | (go_simp; rfl))
                       intro aa hg w74 hbox hb
                       have cq := (hb.cell (World.block_lt_of_cell? _ _ (hHeld.2.2.2.2.1))).trans (hHeld.2.2.2.2.1)
                       have cr := (hb.cell (World.block_lt_of_cell? _ _ (hHeld.2.2.2.2.2.1))).trans (hHeld.2.2.2.2.2.1)
                       have ct := (hb.cell (World.block_lt_of_cell? _ _ (hHeld.2.2.2.2.2.2.1))).trans (hHeld.2.2.2.2.2.2.1)
                       have cZ := (hb.cell (World.block_lt_of_cell? _ _ (hHeld.2.2.2.2.2.2.2.2.2.1))).trans (hHeld.2.2.2.2.2.2.2.2.2.1)
                       have cu := (hb.cell (World.block_lt_of_cell? _ _ (hHeld.2.2.2.2.2.2.2.2.2.2.1))).trans (hHeld.2.2.2.2.2.2.2.2.2.2.1)
                       have cv := (hb.cell (World.block_lt_of_cell? _ _ (hHeld.2.2.2.2.2.2.2.2.2.2.2))).trans (hHeld.2.2.2.2.2.2.2.2.2.2.2)
                       have n0_ := am_ (Kd.N_below (Kd.N_elderB (rn_ al.out) aa (Nat.le_of_eq hg.symm)) hb)
                       have n1_ := am_ (Kd.R_below (rr_ aA.out) hb)
                       have n2_ := am_ (Kd.R_below (rr_ ab.out) hb)
                       have n3_ := am_ (Kd.R_below (rr_ ai.out) hb)
                       have n4_ := am_ (Kd.N_below (Kd.N_elderB (rn_ ag.out) aa (Nat.le_of_eq hg.symm)) hb)
                       have n5_ := am_ (Kd.V_below (Kd.V_elderB (rv_ bm.out) aa (Nat.le_of_eq hg.symm)) hb)
                       have n6_ := am_ (Kd.V_below (Kd.V_elderB (rv_ bn.out) aa (Nat.le_of_eq hg.symm)) hb)
                       have n7_ := am_ (blk_below (rb_ ad.out) hb)
                       have n8_ := am_ (blk_below (rb_ ah.out) hb)
                       have n9_ := am_ (blk_below (rb_ aj.out) hb)
                       have n10_ := am_ (blk_below (rb_ am.out) hb)
                       have n11_ := am_ (blk_below (rb_ an.out) hb)
                       have n12_ := am_ (Kd.C_below (by repeat (first | (with_reducible exact bu.out) | (with_reducible refine Kd.C_alloc ?_ _) | (with_reducible refine Kd.C_drewN ?_ _) | (with_reducible refine Kd.C_drew ?_) | exact bu.out)) hb)
                       have n13_ := am_ (Kd.C_below (by repeat (first | (with_reducible exact bj.out) | (with_reducible refine Kd.C_alloc ?_ _) | (with_reducible refine Kd.C_drewN ?_ _) | (with_reducible refine Kd.C_drew ?_) | exact bj.out)) hb)
                       have n14_ := am_ (below_step (zp27_0_ HB.out ax.out ay.out az.out aE.out aG.out) hb)
                       have n15_ := am_ (hbox)
                       have n16_ := am_ ((by rw [hg]; exact (below_size (zp27_0_ HB.out ax.out ay.out az.out aE.out aG.out)) : w.heap.size ≤ aa))
                       have n17_ := am_ ((by rw [hg]; exact (below_size (zp27_0_ HB.out ax.out ay.out az.out aE.out aG.out)) : w.heap.size ≤ aa))
                       have n18_ := am_ ((by rw [hg]; exact Nat.ne_of_lt (blk_lt (rb_ ad.out)) : av ≠ aa))
                       have n19_ := am_ ((by rw [hg]; exact Nat.ne_of_gt (blk_lt (rb_ ad.out)) : aa ≠ av))
                       have n20_ := am_ ((by rw [hg]; exact Nat.ne_of_lt (blk_lt (rb_ ah.out)) : ar ≠ aa))
                       have n21_ := am_ ((by rw [hg]; exact Nat.ne_of_gt (blk_lt (rb_ ah.out)) : aa ≠ ar))
                       have n22_ := am_ ((by rw [hg]; exact Nat.ne_of_lt (blk_lt (rb_ aj.out)) : au ≠ aa))
                       have n23_ := am_ ((by rw [hg]; exact Nat.ne_of_gt (blk_lt (rb_ aj.out)) : aa ≠ au))
                       have n24_ := am_ ((by rw [hg]; exact Nat.ne_of_lt (blk_lt (rb_ am.out)) : aw ≠ aa))
                       have n25_ := am_ ((by rw [hg]; exact Nat.ne_of_gt (blk_lt (rb_ am.out)) : aa ≠ aw))
                       have n26_ := am_ ((by rw [hg]; exact Nat.ne_of_lt (blk_lt (rb_ an.out)) : ao ≠ aa))
                       have n27_ := am_ ((by rw [hg]; exact Nat.ne_of_gt (blk_lt (rb_ an.out)) : aa ≠ ao))
                       clear al aA ab ai ag bm bn ad ah aj am an bu bj HB
                       have al := n0_; have aA := n1_; have ab := n2_; have ai := n3_; have ag := n4_; have bm := n5_; have bn := n6_; have ad := n7_; have ah := n8_; have aj := n9_; have am := n10_; have an := n11_; have bu := n12_; have bj := n13_; have HB := n14_; have ap := n15_; have be := n16_; have bc := n17_; have aT := n18_; have bw := n19_; have aU := n20_; have bx := n21_; have bf := n22_; have bz := n23_; have bg := n24_; have bA := n25_; have bh := n26_; have bB := n27_
                       clear n0_ n1_ n2_ n3_ n4_ n5_ n6_ n7_ n8_ n9_ n10_ n11_ n12_ n13_ n14_ n15_ n16_ n17_ n18_ n19_ n20_ n21_ n22_ n23_ n24_ n25_ n26_ n27_ hb hbox hg
                       refine hK.out _ _ ⟨(blk_cell ad.out 0).trans rfl, (blk_cell ad.out 1).trans rfl, (blk_cell ah.out 0).trans rfl, (blk_cell ah.out 1).trans rfl, cq, cr, ct, ((HB.out.cell (World.block_lt_of_cell? w _ ba)).trans ba), ((HB.out.cell (World.block_lt_of_cell? w _ bb)).trans bb), cZ, cu, cv⟩ (fun hHeld => ?_)
                       clear hK K
                       refine norm_ (a' := ?_) ?_ ?_
                       rotate_left
                       ·show Act.put _ (some 12) _ = _
                        simp only [pn_, sz_, ss_, i64_w, i32_w]
                        rfl
                       refine on_ 19 (some 64) (bl 23 3145727) HT_ (fun K hK => ?_)
                       refine gO_ Try.func73 #[.agg #[.slice A1_0 l1_0.length c1_0, .slice A1_1 l1_1.length c1_1], .slice A443_1 ((rd_T78 af ae).f1).length c443_1, .int .i64 aq] ?_
                       with_reducible refine (spec_l6Move.calls k4 _ _ l1_0 _ _ l1_1 _ _ ((rd_T78 af ae).f1) aq aN _ ?side1 ?side2 ?side3 ?side4 ?side5 ?side6 A68.out).mono ?_
                       (case side1 => exact rc_ (Kd.C_below dJ.out HB.out))
                       (case side2 => exact dK.out)
                       (case side3 => exact rc_ (Kd.C_below dL.out HB.out))
                       (case side4 => exact dM.out)
                       (case side5 => exact rc_ (by repeat (first | (with_reducible exact bj.out) | (with_reducible refine Kd.C_alloc ?_ _) | (with_reducible refine Kd.C_drewN ?_ _) | (with_reducible refine Kd.C_drew ?_) | exact bj.out)))
                       (case side6 => exact ef.out)
                       rintro e w75 ⟨cp, rfl, ho0, hb⟩
                       have cq := (hb.cell (World.block_lt_of_cell? _ _ (hHeld.2.2.2.2.1))).trans (hHeld.2.2.2.2.1)
                       have cr := (hb.cell (World.block_lt_of_cell? _ _ (hHeld.2.2.2.2.2.1))).trans (hHeld.2.2.2.2.2.1)
                       have ct := (hb.cell (World.block_lt_of_cell? _ _ (hHeld.2.2.2.2.2.2.1))).trans (hHeld.2.2.2.2.2.2.1)
                       have cZ := (hb.cell (World.block_lt_of_cell? _ _ (hHeld.2.2.2.2.2.2.2.2.2.1))).trans (hHeld.2.2.2.2.2.2.2.2.2.1)
                       have cu := (hb.cell (World.block_lt_of_cell? _ _ (hHeld.2.2.2.2.2.2.2.2.2.2.1))).trans (hHeld.2.2.2.2.2.2.2.2.2.2.1)
                       have cv := (hb.cell (World.block_lt_of_cell? _ _ (hHeld.2.2.2.2.2.2.2.2.2.2.2))).trans (hHeld.2.2.2.2.2.2.2.2.2.2.2)
                       refine ⟨_, rfl, ?_⟩
                       replace al := am_ (Kd.N_elder' (rn_ al.out) (Kd.R_base ho0) hb)
                       replace ai := am_ (Kd.R_below (rr_ ai.out) hb)
                       replace ag := am_ (Kd.N_elder' (rn_ ag.out) (Kd.R_base ho0) hb)
                       replace bm := am_ (Kd.V_elder' (rv_ bm.out) (Kd.R_base ho0) hb)
                       replace bn := am_ (Kd.V_elder' (rv_ bn.out) (Kd.R_base ho0) hb)
                       replace bq := am_ (Kd.R_lower (Kd.R_new' (Kd.R_new' (Kd.R_newM (M := fun k_ => (w.heap.size ≤ k_)) ho0 (below_size (zp27_1_ HB.out ax.out ay.out az.out aE.out aG.out bc.out)) (fun k_ h_ => h_)) (Kd.R_lt (rr_ aA.out))) (Kd.R_lt (rr_ ab.out))) (below_size (zp27_1_ HB.out ax.out ay.out az.out aE.out aG.out bc.out)))
                       replace aA := am_ (Kd.R_elder' (rr_ aA.out) (Kd.R_base ho0) hb)
                       replace ab := am_ (Kd.R_elder' (rr_ ab.out) (Kd.R_base ho0) hb)
                       replace ad := am_ (blk_below (rb_ ad.out) hb)
                       replace ah := am_ (blk_below (rb_ ah.out) hb)
                       replace aj := am_ (blk_below (rb_ aj.out) hb)
                       replace am := am_ (blk_below (rb_ am.out) hb)
                       replace an := am_ (blk_below (rb_ an.out) hb)
                       replace bu := am_ (Kd.C_below (by repeat (first | (with_reducible exact bu.out) | (with_reducible refine Kd.C_alloc ?_ _) | (with_reducible refine Kd.C_drewN ?_ _) | (with_reducible refine Kd.C_drew ?_) | exact bu.out)) hb)
                       replace bj := am_ (Kd.C_below (by repeat (first | (with_reducible exact bj.out) | (with_reducible refine Kd.C_alloc ?_ _) | (with_reducible refine Kd.C_drewN ?_ _) | (with_reducible refine Kd.C_drew ?_) | exact bj.out)) hb)
                       replace ap := am_ (blk_below (rb_ ap.out) hb)
                       replace HB := am_ (below_step (zp27_1_ HB.out ax.out ay.out az.out aE.out aG.out bc.out) hb)
                       (try clear hb)
                       (try clear hb2)
                       (try clear hk)
                       (try clear hi)
                       (try clear ho0)
                       obtain ⟨gl, gm, fy⟩ := Kd.R_slice bq.out
                       (first | subst fy | (injection fy with f1_ f2_ f3_; have f4_ := f1_.symm; have f5_ := f3_.symm; clear f1_ f2_ f3_; subst f4_; subst f5_))
                       refine hK.out _ _ ⟨(blk_cell ad.out 0).trans rfl, (blk_cell ad.out 1).trans rfl, (blk_cell ah.out 0).trans rfl, (blk_cell ah.out 1).trans rfl, cq, cr, ct, ((HB.out.cell (World.block_lt_of_cell? w _ ba)).trans ba), ((HB.out.cell (World.block_lt_of_cell? w _ bb)).trans bb), cZ, cu, cv⟩ (fun hHeld => ?_)
                       clear hK K
                       refine norm_ (a' := ?_) ?_ ?_
                       rotate_left
                       ·show Act.put _ (some 64) _ = _
                        simp only [pn_, sz_, ss_, i64_w, i32_w]
                        rfl
                       refine pu_ 20 65 (bl 23 4194303) HT_ ?_
                       exact norm_ (by simp only [putAll, Act.put, List.setIfInBounds_toArray, List.set_cons_zero, List.set_cons_succ]) (hCont (.slice gl aN.length gm, aa) _ ⟨hHeld, (by refine rv_ ?_; exact Kd.V_mono bm.out (fun _ hk => ⟨hk.1.1.1.1, ⟨hk.2, ⟨hk.1.1.1.2.1, ⟨hk.1.1.1.2.2.1, ⟨hk.1.1.1.2.2.2.1, ⟨hk.1.1.2, ⟨hk.1.1.1.2.2.2.2.1, ⟨hk.1.1.1.2.2.2.2.2.1, ⟨hk.1.1.1.2.2.2.2.2.2.1, ⟨hk.1.1.1.2.2.2.2.2.2.2.1, ⟨hk.1.1.1.2.2.2.2.2.2.2.2, hk.1.2⟩⟩⟩⟩⟩⟩⟩⟩⟩⟩⟩)), (by refine rv_ ?_; exact Kd.V_mono bn.out (fun _ hk => ⟨hk.1.1.1.1, ⟨hk.2, ⟨hk.1.1.1.2.1, ⟨hk.1.1.1.2.2.1, ⟨hk.1.1.1.2.2.2.1, ⟨hk.1.1.2, ⟨hk.1.1.1.2.2.2.2.1, ⟨hk.1.1.1.2.2.2.2.2.1, ⟨hk.1.1.1.2.2.2.2.2.2.1, ⟨hk.1.1.1.2.2.2.2.2.2.2.1, ⟨hk.1.1.1.2.2.2.2.2.2.2.2, hk.1.2⟩⟩⟩⟩⟩⟩⟩⟩⟩⟩⟩)), (by refine rr_ ?_; exact Kd.R_mono bq.out (fun _ hk => ⟨hk.1.1.1, ⟨hk.1.2, hk.2⟩⟩)), (by refine rr_ ?_; exact Kd.R_mono aA.out (fun _ hk => ⟨hk.1.1, ⟨hk.2, hk.1.2⟩⟩)), (by refine rr_ ?_; exact Kd.R_mono ab.out (fun _ hk => ⟨hk.1.1, ⟨hk.2, hk.1.2⟩⟩)), (rr_ ai.out), (by refine rn_ ?_; exact Kd.N_mono ag.out (fun _ hk => ⟨hk.1.1.1, ⟨hk.2, ⟨hk.1.1.2.2.1, ⟨hk.1.1.2.2.2.1, ⟨hk.1.1.2.2.2.2.1, ⟨hk.1.1.2.1, ⟨hk.1.1.2.2.2.2.2.1, ⟨hk.1.1.2.2.2.2.2.2.1, ⟨hk.1.1.2.2.2.2.2.2.2.1, ⟨hk.1.1.2.2.2.2.2.2.2.2.1, ⟨hk.1.1.2.2.2.2.2.2.2.2.2, hk.1.2⟩⟩⟩⟩⟩⟩⟩⟩⟩⟩⟩)), (by refine rn_ ?_; exact Kd.N_mono al.out (fun _ hk => ⟨hk.1.1.1, ⟨hk.2, ⟨hk.1.1.2.1, ⟨hk.1.1.2.2.1, ⟨hk.1.1.2.2.2.1, ⟨hk.1.1.2.2.2.2.1, ⟨hk.1.1.2.2.2.2.2.1, ⟨hk.1.1.2.2.2.2.2.2.1, ⟨hk.1.1.2.2.2.2.2.2.2.1, ⟨hk.1.1.2.2.2.2.2.2.2.2, hk.1.2⟩⟩⟩⟩⟩⟩⟩⟩⟩⟩)), (rb_ ad.out), (rb_ ah.out), (rb_ aj.out), (rb_ am.out), (rb_ an.out), (rb_ ap.out), be.out, bc.out, aT.out, bw.out, aU.out, bx.out, bf.out, bz.out, bg.out, bA.out, bh.out, bB.out, (zp27_1_ HB.out ax.out ay.out az.out aE.out aG.out bc.out)⟩)
                     rintro ⟨cp, aa⟩ w77 ⟨hS_, h0_, h1_, h2_, h3_, h4_, h5_, h6_, h7_, h8_, h9_, h10_, h11_, h12_, h13_, h14_, h15_, h16_, h17_, h18_, h19_, h20_, h21_, h22_, h23_, h24_, h25_, h26_⟩
                     have n0_ : Aside0 (Kd.V (Kd.int .i64) 3 w77 w.heap.size (fun k_ => (w.heap.size ≤ k_) ∧ some k_ ≠ (cp : Value).ownBlock ∧ some k_ ≠ (u10 : Value).ownBlock ∧ some k_ ≠ (aD : Value).ownBlock ∧ some k_ ≠ (aC : Value).ownBlock ∧ some k_ ≠ (.slice (some aI) af.length bE : Value).ownBlock ∧ k_ ≠ av ∧ k_ ≠ ar ∧ k_ ≠ au ∧ k_ ≠ aw ∧ k_ ≠ ao ∧ k_ ≠ aa) (.slice A443_1 ((rd_T78 af ae).f1).length c443_1) ((rd_T78 af ae).f1)) := ⟨h0_⟩
                     have n1_ : Aside0 (Kd.V (Kd.int .i64) 3 w77 w.heap.size (fun k_ => (w.heap.size ≤ k_) ∧ some k_ ≠ (cp : Value).ownBlock ∧ some k_ ≠ (u10 : Value).ownBlock ∧ some k_ ≠ (aD : Value).ownBlock ∧ some k_ ≠ (aC : Value).ownBlock ∧ some k_ ≠ (.slice (some aI) af.length bE : Value).ownBlock ∧ k_ ≠ av ∧ k_ ≠ ar ∧ k_ ≠ au ∧ k_ ≠ aw ∧ k_ ≠ ao ∧ k_ ≠ aa) (.slice A443_1 ((rd_T78 af ae).f1).length c443_1) ((rd_T78 af ae).f1)) := ⟨h1_⟩
                     have n2_ : Aside0 (Kd.R (Kd.int .i64) 3 w77 w.heap.size (fun k_ => (w.heap.size ≤ k_) ∧ some k_ ≠ (u10 : Value).ownBlock ∧ some k_ ≠ (.slice aQ ak.length aR : Value).ownBlock) cp aN) := ⟨h2_⟩
                     have n3_ : Aside0 (Kd.R (Kd.int .i64) 3 w77 w.heap.size (fun k_ => (w.heap.size ≤ k_) ∧ some k_ ≠ (cp : Value).ownBlock ∧ some k_ ≠ (.slice aQ ak.length aR : Value).ownBlock) u10 bi) := ⟨h3_⟩
                     have n4_ : Aside0 (Kd.R (Kd.int .i64) 3 w77 w.heap.size (fun k_ => (w.heap.size ≤ k_) ∧ some k_ ≠ (cp : Value).ownBlock ∧ some k_ ≠ (u10 : Value).ownBlock) (.slice aQ ak.length aR) ak) := ⟨h4_⟩
                     have n5_ : Aside0 (Kd.R Kd.bool 4 w77 w.heap.size (fun k_ => (w.heap.size ≤ k_)) aD aK) := ⟨h5_⟩
                     have n6_ : Aside0 (Kd.N (Kd.slice 3 (Kd.int .i64)) 67 w77 w.heap.size (fun k_ => (w.heap.size ≤ k_) ∧ some k_ ≠ (cp : Value).ownBlock ∧ some k_ ≠ (u10 : Value).ownBlock ∧ some k_ ≠ (.slice aQ ak.length aR : Value).ownBlock ∧ some k_ ≠ (aD : Value).ownBlock ∧ some k_ ≠ (.slice (some aI) af.length bE : Value).ownBlock ∧ k_ ≠ av ∧ k_ ≠ ar ∧ k_ ≠ au ∧ k_ ≠ aw ∧ k_ ≠ ao ∧ k_ ≠ aa) aC aJ) := ⟨h6_⟩
                     have n7_ : Aside0 (Kd.N k78 78 w77 w.heap.size (fun k_ => (w.heap.size ≤ k_) ∧ some k_ ≠ (cp : Value).ownBlock ∧ some k_ ≠ (u10 : Value).ownBlock ∧ some k_ ≠ (aD : Value).ownBlock ∧ some k_ ≠ (aC : Value).ownBlock ∧ k_ ≠ av ∧ k_ ≠ ar ∧ k_ ≠ au ∧ k_ ≠ aw ∧ k_ ≠ ao ∧ k_ ≠ aa) (.slice (some aI) af.length bE) af) := ⟨h7_⟩
                     have n8_ : Aside0 (w77.heap[av]? = some (.cells #[.slice (some bk) l0_0.length c0_0, .slice (some bK) l0_1.length c0_1] 27 (0, 0))) := ⟨h8_⟩
                     have n9_ : Aside0 (w77.heap[ar]? = some (.cells #[.slice A1_0 l1_0.length c1_0, .slice A1_1 l1_1.length c1_1] 27 (0, 0))) := ⟨h9_⟩
                     have n10_ : Aside0 (w77.heap[au]? = some (.cells #[.slice none 0 0, .slice none 0 0] 27 (0, 0))) := ⟨h10_⟩
                     have n11_ : Aside0 (w77.heap[aw]? = some (.cells #[.int .i64 0, .slice aQ ak.length aR, .bool false] 78 (0, 0))) := ⟨h11_⟩
                     have n12_ : Aside0 (w77.heap[ao]? = some (.cells #[aD, aC] 27 (0, 0))) := ⟨h12_⟩
                     have n13_ : Aside0 (w77.heap[aa]? = some (.cells #[.int .i64 0, .slice none 0 0, .bool false] 78 (0, 0))) := ⟨h13_⟩
                     have n14_ : Aside0 (w.heap.size ≤ aa) := ⟨h14_⟩
                     have n15_ : Aside0 (w.heap.size ≤ aa) := ⟨h15_⟩
                     have n16_ : Aside0 (av ≠ aa) := ⟨h16_⟩
                     have n17_ : Aside0 (aa ≠ av) := ⟨h17_⟩
                     have n18_ : Aside0 (ar ≠ aa) := ⟨h18_⟩
                     have n19_ : Aside0 (aa ≠ ar) := ⟨h19_⟩
                     have n20_ : Aside0 (au ≠ aa) := ⟨h20_⟩
                     have n21_ : Aside0 (aa ≠ au) := ⟨h21_⟩
                     have n22_ : Aside0 (aw ≠ aa) := ⟨h22_⟩
                     have n23_ : Aside0 (aa ≠ aw) := ⟨h23_⟩
                     have n24_ : Aside0 (ao ≠ aa) := ⟨h24_⟩
                     have n25_ : Aside0 (aa ≠ ao) := ⟨h25_⟩
                     have n26_ : Aside0 (Below w.heap.size w w77) := ⟨h26_⟩
                     clear al aA ab ai ag ad ah aj am an HB h0_ h1_ h2_ h3_ h4_ h5_ h6_ h7_ h8_ h9_ h10_ h11_ h12_ h13_ h14_ h15_ h16_ h17_ h18_ h19_ h20_ h21_ h22_ h23_ h24_ h25_ h26_
                     have bm := n0_; have bn := n1_; have bq := n2_; have aA := n3_; have ab := n4_; have ai := n5_; have ag := n6_; have al := n7_; have ad := n8_; have ah := n9_; have aj := n10_; have am := n11_; have an := n12_; have ap := n13_; have be := n14_; have bc := n15_; have aT := n16_; have bw := n17_; have aU := n18_; have bx := n19_; have bf := n20_; have bz := n21_; have bg := n22_; have bA := n23_; have bh := n24_; have bB := n25_; have HB := n26_
                     clear n0_ n1_ n2_ n3_ n4_ n5_ n6_ n7_ n8_ n9_ n10_ n11_ n12_ n13_ n14_ n15_ n16_ n17_ n18_ n19_ n20_ n21_ n22_ n23_ n24_ n25_ n26_
                     have hHeld : w77.cell? ⟨av, 0, none⟩ = some (.slice (some bk) l0_0.length c0_0) ∧ w77.cell? ⟨av, 1, none⟩ = some (.slice (some bK) l0_1.length c0_1) ∧ w77.cell? ⟨ar, 0, none⟩ = some (.slice A1_0 l1_0.length c1_0) ∧ w77.cell? ⟨ar, 1, none⟩ = some (.slice A1_1 l1_1.length c1_1) ∧ w77.cell? (aI.add ((ae).toNat * 3)) = some (.int .i64 ((rd_T78 af ae).f0)) ∧ w77.cell? ⟨(aI.add ((ae).toNat * 3)).block, (aI.add ((ae).toNat * 3)).off + 1, none⟩ = some (.slice A443_1 ((rd_T78 af ae).f1).length c443_1) ∧ w77.cell? ⟨(aI.add ((ae).toNat * 3)).block, (aI.add ((ae).toNat * 3)).off + 2, none⟩ = some (.bool ((rd_T78 af ae).f2)) ∧ w77.cell? (bK.add (((rd_T78 af ae).f0)).toNat) = some (.slice (some cT) (rd_L1 l0_1 ((rd_T78 af ae).f0)).length c444_0) ∧ w77.cell? (cT.add (aq).toNat) = some (.int .i64 (rd (rd_L1 l0_1 ((rd_T78 af ae).f0)) aq)) ∧ w77.cell? (aI.add ((ae).toNat * 3)) = some (.int .i64 ((rd_T78 af ae).f0)) ∧ w77.cell? ⟨(aI.add ((ae).toNat * 3)).block, (aI.add ((ae).toNat * 3)).off + 1, none⟩ = some (.slice A443_1 ((rd_T78 af ae).f1).length c443_1) ∧ w77.cell? ⟨(aI.add ((ae).toNat * 3)).block, (aI.add ((ae).toNat * 3)).off + 2, none⟩ = some (.bool ((rd_T78 af ae).f2)) := hS_
                     obtain ⟨aX, aY, fz⟩ := Kd.R_slice bq.out
                     (first | subst fz | (injection fz with f1_ f2_ f3_; have f4_ := f1_.symm; have f5_ := f3_.symm; clear f1_ f2_ f3_; subst f4_; subst f5_))
                     refine norm_ (a' := ?_) ?_ ?_
                     rotate_left
                     ·simp only [putAll, Act.put, List.setIfInBounds_toArray, List.set_cons_zero, List.set_cons_succ]
                      rfl
                     refine on_ 22 none (bl 23 8388607) HT_ (fun K hK => ?_)
                     have hs79 : w77.cell? ⟨aa, 0, none⟩ = some (.int .i64 0) := (blk_cell ap.out 0).trans rfl
                     have hfs79 := blk_frozen ap.out 0
                     have hns79_0 := aT.out
                     have hns79_1 := aU.out
                     have hns79_2 := bf.out
                     have hns79_3 := bg.out
                     have hns79_4 := bh.out
                     have hms79_0 := bw.out
                     have hms79_1 := bx.out
                     have hms79_2 := bz.out
                     have hms79_3 := bA.out
                     have hms79_4 := bB.out
                     have hs80 : w77.cell? ⟨aa, 1, none⟩ = some (.slice none 0 0) := (blk_cell ap.out 1).trans rfl
                     have hfs80 := blk_frozen ap.out 1
                     have hns80_0 := aT.out
                     have hns80_1 := aU.out
                     have hns80_2 := bf.out
                     have hns80_3 := bg.out
                     have hns80_4 := bh.out
                     have hms80_0 := bw.out
                     have hms80_1 := bx.out
                     have hms80_2 := bz.out
                     have hms80_3 := bA.out
                     have hms80_4 := bB.out
                     have hs81 : w77.cell? ⟨aa, 2, none⟩ = some (.bool false) := (blk_cell ap.out 2).trans rfl
                     have hfs81 := blk_frozen ap.out 2
                     have hns81_0 := aT.out
                     have hns81_1 := aU.out
                     have hns81_2 := bf.out
                     have hns81_3 := bg.out
                     have hns81_4 := bh.out
                     have hms81_0 := bw.out
                     have hms81_1 := bx.out
                     have hms81_2 := bz.out
                     have hms81_3 := bA.out
                     have hms81_4 := bB.out
                     refine skip_ (w1 := ?_) (by rfl) rfl ?_ ?_
                     rotate_left
                     ·go_simp
                      rfl
                     refine hK.out _ _ ⟨((cell_far (p := ⟨aa, _, none⟩) aT.out _).trans (((cell_far (p := ⟨aa, _, none⟩) aT.out _).trans (((cell_far (p := ⟨aa, _, none⟩) aT.out _).trans (hHeld.1)))))), ((cell_far (p := ⟨aa, _, none⟩) aT.out _).trans (((cell_far (p := ⟨aa, _, none⟩) aT.out _).trans (((cell_far (p := ⟨aa, _, none⟩) aT.out _).trans (hHeld.2.1)))))), ((cell_far (p := ⟨aa, _, none⟩) aU.out _).trans (((cell_far (p := ⟨aa, _, none⟩) aU.out _).trans (((cell_far (p := ⟨aa, _, none⟩) aU.out _).trans (hHeld.2.2.1)))))), ((cell_far (p := ⟨aa, _, none⟩) aU.out _).trans (((cell_far (p := ⟨aa, _, none⟩) aU.out _).trans (((cell_far (p := ⟨aa, _, none⟩) aU.out _).trans (hHeld.2.2.2.1)))))), ((cell_far (p := ⟨aa, _, none⟩) (by first | exact Kd.own_blk (Kd.N_away al.out (fun _ hk => hk.2.2.2.2.2.2.2.2.2.2)) | (rw [add_block]; exact Kd.own_blk (Kd.N_away al.out (fun _ hk => hk.2.2.2.2.2.2.2.2.2.2))) | (show (Addr.add _ _).block ≠ _; rw [add_block]; exact Kd.own_blk (Kd.N_away al.out (fun _ hk => hk.2.2.2.2.2.2.2.2.2.2))) | (dsimp only; exact Kd.own_blk (Kd.N_away al.out (fun _ hk => hk.2.2.2.2.2.2.2.2.2.2)))) _).trans (((cell_far (p := ⟨aa, _, none⟩) (by first | exact Kd.own_blk (Kd.N_away al.out (fun _ hk => hk.2.2.2.2.2.2.2.2.2.2)) | (rw [add_block]; exact Kd.own_blk (Kd.N_away al.out (fun _ hk => hk.2.2.2.2.2.2.2.2.2.2))) | (show (Addr.add _ _).block ≠ _; rw [add_block]; exact Kd.own_blk (Kd.N_away al.out (fun _ hk => hk.2.2.2.2.2.2.2.2.2.2))) | (dsimp only; exact Kd.own_blk (Kd.N_away al.out (fun _ hk => hk.2.2.2.2.2.2.2.2.2.2)))) _).trans (((cell_far (p := ⟨aa, _, none⟩) (by first | exact Kd.own_blk (Kd.N_away al.out (fun _ hk => hk.2.2.2.2.2.2.2.2.2.2)) | (rw [add_block]; exact Kd.own_blk (Kd.N_away al.out (fun _ hk => hk.2.2.2.2.2.2.2.2.2.2))) | (show (Addr.add _ _).block ≠ _; rw [add_block]; exact Kd.own_blk (Kd.N_away al.out (fun _ hk => hk.2.2.2.2.2.2.2.2.2.2))) | (dsimp only; exact Kd.own_blk (Kd.N_away al.out (fun _ hk => hk.2.2.2.2.2.2.2.2.2.2)))) _).trans (hHeld.2.2.2.2.1)))))), ((cell_far (p := ⟨aa, _, none⟩) (by first | exact Kd.own_blk (Kd.N_away al.out (fun _ hk => hk.2.2.2.2.2.2.2.2.2.2)) | (rw [add_block]; exact Kd.own_blk (Kd.N_away al.out (fun _ hk => hk.2.2.2.2.2.2.2.2.2.2))) | (show (Addr.add _ _).block ≠ _; rw [add_block]; exact Kd.own_blk (Kd.N_away al.out (fun _ hk => hk.2.2.2.2.2.2.2.2.2.2))) | (dsimp only; exact Kd.own_blk (Kd.N_away al.out (fun _ hk => hk.2.2.2.2.2.2.2.2.2.2)))) _).trans (((cell_far (p := ⟨aa, _, none⟩) (by first | exact Kd.own_blk (Kd.N_away al.out (fun _ hk => hk.2.2.2.2.2.2.2.2.2.2)) | (rw [add_block]; exact Kd.own_blk (Kd.N_away al.out (fun _ hk => hk.2.2.2.2.2.2.2.2.2.2))) | (show (Addr.add _ _).block ≠ _; rw [add_block]; exact Kd.own_blk (Kd.N_away al.out (fun _ hk => hk.2.2.2.2.2.2.2.2.2.2))) | (dsimp only; exact Kd.own_blk (Kd.N_away al.out (fun _ hk => hk.2.2.2.2.2.2.2.2.2.2)))) _).trans (((cell_far (p := ⟨aa, _, none⟩) (by first | exact Kd.own_blk (Kd.N_away al.out (fun _ hk => hk.2.2.2.2.2.2.2.2.2.2)) | (rw [add_block]; exact Kd.own_blk (Kd.N_away al.out (fun _ hk => hk.2.2.2.2.2.2.2.2.2.2))) | (show (Addr.add _ _).block ≠ _; rw [add_block]; exact Kd.own_blk (Kd.N_away al.out (fun _ hk => hk.2.2.2.2.2.2.2.2.2.2))) | (dsimp only; exact Kd.own_blk (Kd.N_away al.out (fun _ hk => hk.2.2.2.2.2.2.2.2.2.2)))) _).trans (hHeld.2.2.2.2.2.1)))))), ((cell_far (p := ⟨aa, _, none⟩) (by first | exact Kd.own_blk (Kd.N_away al.out (fun _ hk => hk.2.2.2.2.2.2.2.2.2.2)) | (rw [add_block]; exact Kd.own_blk (Kd.N_away al.out (fun _ hk => hk.2.2.2.2.2.2.2.2.2.2))) | (show (Addr.add _ _).block ≠ _; rw [add_block]; exact Kd.own_blk (Kd.N_away al.out (fun _ hk => hk.2.2.2.2.2.2.2.2.2.2))) | (dsimp only; exact Kd.own_blk (Kd.N_away al.out (fun _ hk => hk.2.2.2.2.2.2.2.2.2.2)))) _).trans (((cell_far (p := ⟨aa, _, none⟩) (by first | exact Kd.own_blk (Kd.N_away al.out (fun _ hk => hk.2.2.2.2.2.2.2.2.2.2)) | (rw [add_block]; exact Kd.own_blk (Kd.N_away al.out (fun _ hk => hk.2.2.2.2.2.2.2.2.2.2))) | (show (Addr.add _ _).block ≠ _; rw [add_block]; exact Kd.own_blk (Kd.N_away al.out (fun _ hk => hk.2.2.2.2.2.2.2.2.2.2))) | (dsimp only; exact Kd.own_blk (Kd.N_away al.out (fun _ hk => hk.2.2.2.2.2.2.2.2.2.2)))) _).trans (((cell_far (p := ⟨aa, _, none⟩) (by first | exact Kd.own_blk (Kd.N_away al.out (fun _ hk => hk.2.2.2.2.2.2.2.2.2.2)) | (rw [add_block]; exact Kd.own_blk (Kd.N_away al.out (fun _ hk => hk.2.2.2.2.2.2.2.2.2.2))) | (show (Addr.add _ _).block ≠ _; rw [add_block]; exact Kd.own_blk (Kd.N_away al.out (fun _ hk => hk.2.2.2.2.2.2.2.2.2.2))) | (dsimp only; exact Kd.own_blk (Kd.N_away al.out (fun _ hk => hk.2.2.2.2.2.2.2.2.2.2)))) _).trans (hHeld.2.2.2.2.2.2.1)))))), ((cell_far (p := ⟨aa, _, none⟩) (by first | exact Nat.ne_of_lt (Nat.lt_of_lt_of_le (by have := World.block_lt_of_cell? _ _ ba; first | rwa [add_block] at this | exact this) be.out) | (rw [add_block]; exact Nat.ne_of_lt (Nat.lt_of_lt_of_le (by have := World.block_lt_of_cell? _ _ ba; first | rwa [add_block] at this | exact this) be.out)) | (show (Addr.add _ _).block ≠ _; rw [add_block]; exact Nat.ne_of_lt (Nat.lt_of_lt_of_le (by have := World.block_lt_of_cell? _ _ ba; first | rwa [add_block] at this | exact this) be.out)) | (dsimp only; exact Nat.ne_of_lt (Nat.lt_of_lt_of_le (by have := World.block_lt_of_cell? _ _ ba; first | rwa [add_block] at this | exact this) be.out))) _).trans (((cell_far (p := ⟨aa, _, none⟩) (by first | exact Nat.ne_of_lt (Nat.lt_of_lt_of_le (by have := World.block_lt_of_cell? _ _ ba; first | rwa [add_block] at this | exact this) be.out) | (rw [add_block]; exact Nat.ne_of_lt (Nat.lt_of_lt_of_le (by have := World.block_lt_of_cell? _ _ ba; first | rwa [add_block] at this | exact this) be.out)) | (show (Addr.add _ _).block ≠ _; rw [add_block]; exact Nat.ne_of_lt (Nat.lt_of_lt_of_le (by have := World.block_lt_of_cell? _ _ ba; first | rwa [add_block] at this | exact this) be.out)) | (dsimp only; exact Nat.ne_of_lt (Nat.lt_of_lt_of_le (by have := World.block_lt_of_cell? _ _ ba; first | rwa [add_block] at this | exact this) be.out))) _).trans (((cell_far (p := ⟨aa, _, none⟩) (by first | exact Nat.ne_of_lt (Nat.lt_of_lt_of_le (by have := World.block_lt_of_cell? _ _ ba; first | rwa [add_block] at this | exact this) be.out) | (rw [add_block]; exact Nat.ne_of_lt (Nat.lt_of_lt_of_le (by have := World.block_lt_of_cell? _ _ ba; first | rwa [add_block] at this | exact this) be.out)) | (show (Addr.add _ _).block ≠ _; rw [add_block]; exact Nat.ne_of_lt (Nat.lt_of_lt_of_le (by have := World.block_lt_of_cell? _ _ ba; first | rwa [add_block] at this | exact this) be.out)) | (dsimp only; exact Nat.ne_of_lt (Nat.lt_of_lt_of_le (by have := World.block_lt_of_cell? _ _ ba; first | rwa [add_block] at this | exact this) be.out))) _).trans (hHeld.2.2.2.2.2.2.2.1)))))), ((cell_far (p := ⟨aa, _, none⟩) (by first | exact Nat.ne_of_lt (Nat.lt_of_lt_of_le (by have := World.block_lt_of_cell? _ _ bb; first | rwa [add_block] at this | exact this) be.out) | (rw [add_block]; exact Nat.ne_of_lt (Nat.lt_of_lt_of_le (by have := World.block_lt_of_cell? _ _ bb; first | rwa [add_block] at this | exact this) be.out)) | (show (Addr.add _ _).block ≠ _; rw [add_block]; exact Nat.ne_of_lt (Nat.lt_of_lt_of_le (by have := World.block_lt_of_cell? _ _ bb; first | rwa [add_block] at this | exact this) be.out)) | (dsimp only; exact Nat.ne_of_lt (Nat.lt_of_lt_of_le (by have := World.block_lt_of_cell? _ _ bb; first | rwa [add_block] at this | exact this) be.out))) _).trans (((cell_far (p := ⟨aa, _, none⟩) (by first | exact Nat.ne_of_lt (Nat.lt_of_lt_of_le (by have := World.block_lt_of_cell? _ _ bb; first | rwa [add_block] at this | exact this) be.out) | (rw [add_block]; exact Nat.ne_of_lt (Nat.lt_of_lt_of_le (by have := World.block_lt_of_cell? _ _ bb; first | rwa [add_block] at this | exact this) be.out)) | (show (Addr.add _ _).block ≠ _; rw [add_block]; exact Nat.ne_of_lt (Nat.lt_of_lt_of_le (by have := World.block_lt_of_cell? _ _ bb; first | rwa [add_block] at this | exact this) be.out)) | (dsimp only; exact Nat.ne_of_lt (Nat.lt_of_lt_of_le (by have := World.block_lt_of_cell? _ _ bb; first | rwa [add_block] at this | exact this) be.out))) _).trans (((cell_far (p := ⟨aa, _, none⟩) (by first | exact Nat.ne_of_lt (Nat.lt_of_lt_of_le (by have := World.block_lt_of_cell? _ _ bb; first | rwa [add_block] at this | exact this) be.out) | (rw [add_block]; exact Nat.ne_of_lt (Nat.lt_of_lt_of_le (by have := World.block_lt_of_cell? _ _ bb; first | rwa [add_block] at this | exact this) be.out)) | (show (Addr.add _ _).block ≠ _; rw [add_block]; exact Nat.ne_of_lt (Nat.lt_of_lt_of_le (by have := World.block_lt_of_cell? _ _ bb; first | rwa [add_block] at this | exact this) be.out)) | (dsimp only; exact Nat.ne_of_lt (Nat.lt_of_lt_of_le (by have := World.block_lt_of_cell? _ _ bb; first | rwa [add_block] at this | exact this) be.out))) _).trans (hHeld.2.2.2.2.2.2.2.2.1)))))), ((cell_far (p := ⟨aa, _, none⟩) (by first | exact Kd.own_blk (Kd.N_away al.out (fun _ hk => hk.2.2.2.2.2.2.2.2.2.2)) | (rw [add_block]; exact Kd.own_blk (Kd.N_away al.out (fun _ hk => hk.2.2.2.2.2.2.2.2.2.2))) | (show (Addr.add _ _).block ≠ _; rw [add_block]; exact Kd.own_blk (Kd.N_away al.out (fun _ hk => hk.2.2.2.2.2.2.2.2.2.2))) | (dsimp only; exact Kd.own_blk (Kd.N_away al.out (fun _ hk => hk.2.2.2.2.2.2.2.2.2.2)))) _).trans (((cell_far (p := ⟨aa, _, none⟩) (by first | exact Kd.own_blk (Kd.N_away al.out (fun _ hk => hk.2.2.2.2.2.2.2.2.2.2)) | (rw [add_block]; exact Kd.own_blk (Kd.N_away al.out (fun _ hk => hk.2.2.2.2.2.2.2.2.2.2))) | (show (Addr.add _ _).block ≠ _; rw [add_block]; exact Kd.own_blk (Kd.N_away al.out (fun _ hk => hk.2.2.2.2.2.2.2.2.2.2))) | (dsimp only; exact Kd.own_blk (Kd.N_away al.out (fun _ hk => hk.2.2.2.2.2.2.2.2.2.2)))) _).trans (((cell_far (p := ⟨aa, _, none⟩) (by first | exact Kd.own_blk (Kd.N_away al.out (fun _ hk => hk.2.2.2.2.2.2.2.2.2.2)) | (rw [add_block]; exact Kd.own_blk (Kd.N_away al.out (fun _ hk => hk.2.2.2.2.2.2.2.2.2.2))) | (show (Addr.add _ _).block ≠ _; rw [add_block]; exact Kd.own_blk (Kd.N_away al.out (fun _ hk => hk.2.2.2.2.2.2.2.2.2.2))) | (dsimp only; exact Kd.own_blk (Kd.N_away al.out (fun _ hk => hk.2.2.2.2.2.2.2.2.2.2)))) _).trans (hHeld.2.2.2.2.2.2.2.2.2.1)))))), ((cell_far (p := ⟨aa, _, none⟩) (by first | exact Kd.own_blk (Kd.N_away al.out (fun _ hk => hk.2.2.2.2.2.2.2.2.2.2)) | (rw [add_block]; exact Kd.own_blk (Kd.N_away al.out (fun _ hk => hk.2.2.2.2.2.2.2.2.2.2))) | (show (Addr.add _ _).block ≠ _; rw [add_block]; exact Kd.own_blk (Kd.N_away al.out (fun _ hk => hk.2.2.2.2.2.2.2.2.2.2))) | (dsimp only; exact Kd.own_blk (Kd.N_away al.out (fun _ hk => hk.2.2.2.2.2.2.2.2.2.2)))) _).trans (((cell_far (p := ⟨aa, _, none⟩) (by first | exact Kd.own_blk (Kd.N_away al.out (fun _ hk => hk.2.2.2.2.2.2.2.2.2.2)) | (rw [add_block]; exact Kd.own_blk (Kd.N_away al.out (fun _ hk => hk.2.2.2.2.2.2.2.2.2.2))) | (show (Addr.add _ _).block ≠ _; rw [add_block]; exact Kd.own_blk (Kd.N_away al.out (fun _ hk => hk.2.2.2.2.2.2.2.2.2.2))) | (dsimp only; exact Kd.own_blk (Kd.N_away al.out (fun _ hk => hk.2.2.2.2.2.2.2.2.2.2)))) _).trans (((cell_far (p := ⟨aa, _, none⟩) (by first | exact Kd.own_blk (Kd.N_away al.out (fun _ hk => hk.2.2.2.2.2.2.2.2.2.2)) | (rw [add_block]; exact Kd.own_blk (Kd.N_away al.out (fun _ hk => hk.2.2.2.2.2.2.2.2.2.2))) | (show (Addr.add _ _).block ≠ _; rw [add_block]; exact Kd.own_blk (Kd.N_away al.out (fun _ hk => hk.2.2.2.2.2.2.2.2.2.2))) | (dsimp only; exact Kd.own_blk (Kd.N_away al.out (fun _ hk => hk.2.2.2.2.2.2.2.2.2.2)))) _).trans (hHeld.2.2.2.2.2.2.2.2.2.2.1)))))), ((cell_far (p := ⟨aa, _, none⟩) (by first | exact Kd.own_blk (Kd.N_away al.out (fun _ hk => hk.2.2.2.2.2.2.2.2.2.2)) | (rw [add_block]; exact Kd.own_blk (Kd.N_away al.out (fun _ hk => hk.2.2.2.2.2.2.2.2.2.2))) | (show (Addr.add _ _).block ≠ _; rw [add_block]; exact Kd.own_blk (Kd.N_away al.out (fun _ hk => hk.2.2.2.2.2.2.2.2.2.2))) | (dsimp only; exact Kd.own_blk (Kd.N_away al.out (fun _ hk => hk.2.2.2.2.2.2.2.2.2.2)))) _).trans (((cell_far (p := ⟨aa, _, none⟩) (by first | exact Kd.own_blk (Kd.N_away al.out (fun _ hk => hk.2.2.2.2.2.2.2.2.2.2)) | (rw [add_block]; exact Kd.own_blk (Kd.N_away al.out (fun _ hk => hk.2.2.2.2.2.2.2.2.2.2))) | (show (Addr.add _ _).block ≠ _; rw [add_block]; exact Kd.own_blk (Kd.N_away al.out (fun _ hk => hk.2.2.2.2.2.2.2.2.2.2))) | (dsimp only; exact Kd.own_blk (Kd.N_away al.out (fun _ hk => hk.2.2.2.2.2.2.2.2.2.2)))) _).trans (((cell_far (p := ⟨aa, _, none⟩) (by first | exact Kd.own_blk (Kd.N_away al.out (fun _ hk => hk.2.2.2.2.2.2.2.2.2.2)) | (rw [add_block]; exact Kd.own_blk (Kd.N_away al.out (fun _ hk => hk.2.2.2.2.2.2.2.2.2.2))) | (show (Addr.add _ _).block ≠ _; rw [add_block]; exact Kd.own_blk (Kd.N_away al.out (fun _ hk => hk.2.2.2.2.2.2.2.2.2.2))) | (dsimp only; exact Kd.own_blk (Kd.N_away al.out (fun _ hk => hk.2.2.2.2.2.2.2.2.2.2)))) _).trans (hHeld.2.2.2.2.2.2.2.2.2.2.2))))))⟩ (fun hHeld => ?_)
                     clear hK K
                     refine done_ (done_of HT_.out (by kernel_rfl)) ?_
                     have n0_ : Aside0 (Kd.N k78 78 (((w77.setCell ⟨aa, 0, none⟩ (.int .i64 (rd (rd_L1 l0_1 ((rd_T78 af ae).f0)) aq))).setCell ⟨aa, 1, none⟩ (.slice aX aN.length aY)).setCell ⟨aa, 2, none⟩ (.bool false)) w.heap.size (fun k_ => (w.heap.size ≤ k_) ∧ some k_ ≠ (u10 : Value).ownBlock ∧ some k_ ≠ (aD : Value).ownBlock ∧ some k_ ≠ (aC : Value).ownBlock ∧ some k_ ≠ (.slice aX aN.length aY : Value).ownBlock ∧ k_ ≠ av ∧ k_ ≠ ar ∧ k_ ≠ au ∧ k_ ≠ aw ∧ k_ ≠ ao ∧ k_ ≠ aa) (.slice (some aI) af.length bE) af) := ⟨by refine rn_ ?_; exact Kd.N_mono (Kd.N_far (p := ⟨aa, 2, none⟩) (Kd.N_far (p := ⟨aa, 1, none⟩) (Kd.N_far (p := ⟨aa, 0, none⟩) (Kd.N_mono al.out (fun k_ hk => (⟨hk, hk.2.2.2.2.2.2.2.2.2.2⟩ : _ ∧ k_ ≠ aa))) (fun _ hk => hk.2) (.int .i64 (rd (rd_L1 l0_1 ((rd_T78 af ae).f0)) aq))) (fun _ hk => hk.2) (.slice aX aN.length aY)) (fun _ hk => hk.2) (.bool false)) (fun _ hk => ⟨hk.1.1, ⟨hk.1.2.2.1, ⟨hk.1.2.2.2.1, ⟨hk.1.2.2.2.2.1, ⟨hk.1.2.1, ⟨hk.1.2.2.2.2.2.1, ⟨hk.1.2.2.2.2.2.2.1, ⟨hk.1.2.2.2.2.2.2.2.1, ⟨hk.1.2.2.2.2.2.2.2.2.1, ⟨hk.1.2.2.2.2.2.2.2.2.2.1, hk.1.2.2.2.2.2.2.2.2.2.2⟩⟩⟩⟩⟩⟩⟩⟩⟩⟩)⟩
                     have n1_ : Aside0 (Kd.R (Kd.int .i64) 3 (((w77.setCell ⟨aa, 0, none⟩ (.int .i64 (rd (rd_L1 l0_1 ((rd_T78 af ae).f0)) aq))).setCell ⟨aa, 1, none⟩ (.slice aX aN.length aY)).setCell ⟨aa, 2, none⟩ (.bool false)) w.heap.size (fun k_ => (w.heap.size ≤ k_) ∧ some k_ ≠ (.slice aQ ak.length aR : Value).ownBlock ∧ some k_ ≠ (.slice aX aN.length aY : Value).ownBlock) u10 bi) := ⟨by refine rr_ ?_; exact Kd.R_mono (Kd.R_far (p := ⟨aa, 2, none⟩) (Kd.R_far (p := ⟨aa, 1, none⟩) (Kd.R_far (p := ⟨aa, 0, none⟩) (Kd.R_types aA.out ap.out (by decide)) (fun _ hk => hk.2) (.int .i64 (rd (rd_L1 l0_1 ((rd_T78 af ae).f0)) aq))) (fun _ hk => hk.2) (.slice aX aN.length aY)) (fun _ hk => hk.2) (.bool false)) (fun _ hk => ⟨hk.1.1, ⟨hk.1.2.2, hk.1.2.1⟩⟩)⟩
                     have n2_ : Aside0 (Kd.R (Kd.int .i64) 3 (((w77.setCell ⟨aa, 0, none⟩ (.int .i64 (rd (rd_L1 l0_1 ((rd_T78 af ae).f0)) aq))).setCell ⟨aa, 1, none⟩ (.slice aX aN.length aY)).setCell ⟨aa, 2, none⟩ (.bool false)) w.heap.size (fun k_ => (w.heap.size ≤ k_) ∧ some k_ ≠ (u10 : Value).ownBlock ∧ some k_ ≠ (.slice aX aN.length aY : Value).ownBlock) (.slice aQ ak.length aR) ak) := ⟨by refine rr_ ?_; exact Kd.R_mono (Kd.R_far (p := ⟨aa, 2, none⟩) (Kd.R_far (p := ⟨aa, 1, none⟩) (Kd.R_far (p := ⟨aa, 0, none⟩) (Kd.R_types ab.out ap.out (by decide)) (fun _ hk => hk.2) (.int .i64 (rd (rd_L1 l0_1 ((rd_T78 af ae).f0)) aq))) (fun _ hk => hk.2) (.slice aX aN.length aY)) (fun _ hk => hk.2) (.bool false)) (fun _ hk => ⟨hk.1.1, ⟨hk.1.2.2, hk.1.2.1⟩⟩)⟩
                     have n3_ : Aside0 (Kd.R Kd.bool 4 (((w77.setCell ⟨aa, 0, none⟩ (.int .i64 (rd (rd_L1 l0_1 ((rd_T78 af ae).f0)) aq))).setCell ⟨aa, 1, none⟩ (.slice aX aN.length aY)).setCell ⟨aa, 2, none⟩ (.bool false)) w.heap.size (fun k_ => (w.heap.size ≤ k_)) aD aK) := ⟨by refine rr_ ?_; exact Kd.R_mono (Kd.R_far (p := ⟨aa, 2, none⟩) (Kd.R_far (p := ⟨aa, 1, none⟩) (Kd.R_far (p := ⟨aa, 0, none⟩) (Kd.R_types ai.out ap.out (by decide)) (fun _ hk => hk.2) (.int .i64 (rd (rd_L1 l0_1 ((rd_T78 af ae).f0)) aq))) (fun _ hk => hk.2) (.slice aX aN.length aY)) (fun _ hk => hk.2) (.bool false)) (fun _ hk => hk.1)⟩
                     have n4_ : Aside0 (Kd.N (Kd.slice 3 (Kd.int .i64)) 67 (((w77.setCell ⟨aa, 0, none⟩ (.int .i64 (rd (rd_L1 l0_1 ((rd_T78 af ae).f0)) aq))).setCell ⟨aa, 1, none⟩ (.slice aX aN.length aY)).setCell ⟨aa, 2, none⟩ (.bool false)) w.heap.size (fun k_ => (w.heap.size ≤ k_) ∧ some k_ ≠ (.slice (some aI) af.length bE : Value).ownBlock ∧ some k_ ≠ (u10 : Value).ownBlock ∧ some k_ ≠ (.slice aQ ak.length aR : Value).ownBlock ∧ some k_ ≠ (aD : Value).ownBlock ∧ some k_ ≠ (.slice aX aN.length aY : Value).ownBlock ∧ k_ ≠ av ∧ k_ ≠ ar ∧ k_ ≠ au ∧ k_ ≠ aw ∧ k_ ≠ ao ∧ k_ ≠ aa) aC aJ) := ⟨by refine rn_ ?_; exact Kd.N_mono (Kd.N_far (p := ⟨aa, 2, none⟩) (Kd.N_far (p := ⟨aa, 1, none⟩) (Kd.N_far (p := ⟨aa, 0, none⟩) (Kd.N_mono ag.out (fun k_ hk => (⟨hk, hk.2.2.2.2.2.2.2.2.2.2.2⟩ : _ ∧ k_ ≠ aa))) (fun _ hk => hk.2) (.int .i64 (rd (rd_L1 l0_1 ((rd_T78 af ae).f0)) aq))) (fun _ hk => hk.2) (.slice aX aN.length aY)) (fun _ hk => hk.2) (.bool false)) (fun _ hk => ⟨hk.1.1, ⟨hk.1.2.2.2.2.2.1, ⟨hk.1.2.2.1, ⟨hk.1.2.2.2.1, ⟨hk.1.2.2.2.2.1, ⟨hk.1.2.1, ⟨hk.1.2.2.2.2.2.2.1, ⟨hk.1.2.2.2.2.2.2.2.1, ⟨hk.1.2.2.2.2.2.2.2.2.1, ⟨hk.1.2.2.2.2.2.2.2.2.2.1, ⟨hk.1.2.2.2.2.2.2.2.2.2.2.1, hk.1.2.2.2.2.2.2.2.2.2.2.2⟩⟩⟩⟩⟩⟩⟩⟩⟩⟩⟩)⟩
                     have n5_ : Aside0 (Kd.V (Kd.int .i64) 3 (((w77.setCell ⟨aa, 0, none⟩ (.int .i64 (rd (rd_L1 l0_1 ((rd_T78 af ae).f0)) aq))).setCell ⟨aa, 1, none⟩ (.slice aX aN.length aY)).setCell ⟨aa, 2, none⟩ (.bool false)) w.heap.size (fun k_ => (w.heap.size ≤ k_) ∧ some k_ ≠ (.slice (some aI) af.length bE : Value).ownBlock ∧ some k_ ≠ (u10 : Value).ownBlock ∧ some k_ ≠ (aD : Value).ownBlock ∧ some k_ ≠ (aC : Value).ownBlock ∧ some k_ ≠ (.slice aX aN.length aY : Value).ownBlock ∧ k_ ≠ av ∧ k_ ≠ ar ∧ k_ ≠ au ∧ k_ ≠ aw ∧ k_ ≠ ao ∧ k_ ≠ aa) (.slice A443_1 ((rd_T78 af ae).f1).length c443_1) ((rd_T78 af ae).f1)) := ⟨by refine rv_ ?_; exact Kd.V_mono (Kd.V_far (p := ⟨aa, 2, none⟩) (Kd.V_far (p := ⟨aa, 1, none⟩) (Kd.V_far (p := ⟨aa, 0, none⟩) (Kd.V_mono bm.out (fun k_ hk => (⟨hk, hk.2.2.2.2.2.2.2.2.2.2.2⟩ : _ ∧ k_ ≠ aa))) (fun _ hk => hk.2) (.int .i64 (rd (rd_L1 l0_1 ((rd_T78 af ae).f0)) aq))) (fun _ hk => hk.2) (.slice aX aN.length aY)) (fun _ hk => hk.2) (.bool false)) (fun _ hk => ⟨hk.1.1, ⟨hk.1.2.2.2.2.2.1, ⟨hk.1.2.2.1, ⟨hk.1.2.2.2.1, ⟨hk.1.2.2.2.2.1, ⟨hk.1.2.1, ⟨hk.1.2.2.2.2.2.2.1, ⟨hk.1.2.2.2.2.2.2.2.1, ⟨hk.1.2.2.2.2.2.2.2.2.1, ⟨hk.1.2.2.2.2.2.2.2.2.2.1, ⟨hk.1.2.2.2.2.2.2.2.2.2.2.1, hk.1.2.2.2.2.2.2.2.2.2.2.2⟩⟩⟩⟩⟩⟩⟩⟩⟩⟩⟩)⟩
                     have n6_ : Aside0 (Kd.V (Kd.int .i64) 3 (((w77.setCell ⟨aa, 0, none⟩ (.int .i64 (rd (rd_L1 l0_1 ((rd_T78 af ae).f0)) aq))).setCell ⟨aa, 1, none⟩ (.slice aX aN.length aY)).setCell ⟨aa, 2, none⟩ (.bool false)) w.heap.size (fun k_ => (w.heap.size ≤ k_) ∧ some k_ ≠ (.slice (some aI) af.length bE : Value).ownBlock ∧ some k_ ≠ (u10 : Value).ownBlock ∧ some k_ ≠ (aD : Value).ownBlock ∧ some k_ ≠ (aC : Value).ownBlock ∧ some k_ ≠ (.slice aX aN.length aY : Value).ownBlock ∧ k_ ≠ av ∧ k_ ≠ ar ∧ k_ ≠ au ∧ k_ ≠ aw ∧ k_ ≠ ao ∧ k_ ≠ aa) (.slice A443_1 ((rd_T78 af ae).f1).length c443_1) ((rd_T78 af ae).f1)) := ⟨by refine rv_ ?_; exact Kd.V_mono (Kd.V_far (p := ⟨aa, 2, none⟩) (Kd.V_far (p := ⟨aa, 1, none⟩) (Kd.V_far (p := ⟨aa, 0, none⟩) (Kd.V_mono bn.out (fun k_ hk => (⟨hk, hk.2.2.2.2.2.2.2.2.2.2.2⟩ : _ ∧ k_ ≠ aa))) (fun _ hk => hk.2) (.int .i64 (rd (rd_L1 l0_1 ((rd_T78 af ae).f0)) aq))) (fun _ hk => hk.2) (.slice aX aN.length aY)) (fun _ hk => hk.2) (.bool false)) (fun _ hk => ⟨hk.1.1, ⟨hk.1.2.2.2.2.2.1, ⟨hk.1.2.2.1, ⟨hk.1.2.2.2.1, ⟨hk.1.2.2.2.2.1, ⟨hk.1.2.1, ⟨hk.1.2.2.2.2.2.2.1, ⟨hk.1.2.2.2.2.2.2.2.1, ⟨hk.1.2.2.2.2.2.2.2.2.1, ⟨hk.1.2.2.2.2.2.2.2.2.2.1, ⟨hk.1.2.2.2.2.2.2.2.2.2.2.1, hk.1.2.2.2.2.2.2.2.2.2.2.2⟩⟩⟩⟩⟩⟩⟩⟩⟩⟩⟩)⟩
                     have n7_ : Aside0 (Kd.R (Kd.int .i64) 3 (((w77.setCell ⟨aa, 0, none⟩ (.int .i64 (rd (rd_L1 l0_1 ((rd_T78 af ae).f0)) aq))).setCell ⟨aa, 1, none⟩ (.slice aX aN.length aY)).setCell ⟨aa, 2, none⟩ (.bool false)) w.heap.size (fun k_ => (w.heap.size ≤ k_) ∧ some k_ ≠ (u10 : Value).ownBlock ∧ some k_ ≠ (.slice aQ ak.length aR : Value).ownBlock) (.slice aX aN.length aY) aN) := ⟨by refine rr_ ?_; exact Kd.R_mono (Kd.R_far (p := ⟨aa, 2, none⟩) (Kd.R_far (p := ⟨aa, 1, none⟩) (Kd.R_far (p := ⟨aa, 0, none⟩) (Kd.R_types bq.out ap.out (by decide)) (fun _ hk => hk.2) (.int .i64 (rd (rd_L1 l0_1 ((rd_T78 af ae).f0)) aq))) (fun _ hk => hk.2) (.slice aX aN.length aY)) (fun _ hk => hk.2) (.bool false)) (fun _ hk => ⟨hk.1.1, ⟨hk.1.2.1, hk.1.2.2⟩⟩)⟩
                     have n8_ : Aside0 ((((w77.setCell ⟨aa, 0, none⟩ (.int .i64 (rd (rd_L1 l0_1 ((rd_T78 af ae).f0)) aq))).setCell ⟨aa, 1, none⟩ (.slice aX aN.length aY)).setCell ⟨aa, 2, none⟩ (.bool false)).heap[av]? = some (.cells #[.slice (some bk) l0_0.length c0_0, .slice (some bK) l0_1.length c0_1] 27 (0, 0))) := ⟨by refine rb_ ?_; refine blk_far ?_ aT.out _; refine rb_ ?_; refine blk_far ?_ aT.out _; refine rb_ ?_; refine blk_far ?_ aT.out _; refine rb_ ?_; exact ad.out⟩
                     have n9_ : Aside0 ((((w77.setCell ⟨aa, 0, none⟩ (.int .i64 (rd (rd_L1 l0_1 ((rd_T78 af ae).f0)) aq))).setCell ⟨aa, 1, none⟩ (.slice aX aN.length aY)).setCell ⟨aa, 2, none⟩ (.bool false)).heap[ar]? = some (.cells #[.slice A1_0 l1_0.length c1_0, .slice A1_1 l1_1.length c1_1] 27 (0, 0))) := ⟨by refine rb_ ?_; refine blk_far ?_ aU.out _; refine rb_ ?_; refine blk_far ?_ aU.out _; refine rb_ ?_; refine blk_far ?_ aU.out _; refine rb_ ?_; exact ah.out⟩
                     have n10_ : Aside0 ((((w77.setCell ⟨aa, 0, none⟩ (.int .i64 (rd (rd_L1 l0_1 ((rd_T78 af ae).f0)) aq))).setCell ⟨aa, 1, none⟩ (.slice aX aN.length aY)).setCell ⟨aa, 2, none⟩ (.bool false)).heap[au]? = some (.cells #[.slice none 0 0, .slice none 0 0] 27 (0, 0))) := ⟨by refine rb_ ?_; refine blk_far ?_ bf.out _; refine rb_ ?_; refine blk_far ?_ bf.out _; refine rb_ ?_; refine blk_far ?_ bf.out _; refine rb_ ?_; exact aj.out⟩
                     have n11_ : Aside0 ((((w77.setCell ⟨aa, 0, none⟩ (.int .i64 (rd (rd_L1 l0_1 ((rd_T78 af ae).f0)) aq))).setCell ⟨aa, 1, none⟩ (.slice aX aN.length aY)).setCell ⟨aa, 2, none⟩ (.bool false)).heap[aw]? = some (.cells #[.int .i64 0, .slice aQ ak.length aR, .bool false] 78 (0, 0))) := ⟨by refine rb_ ?_; refine blk_far ?_ bg.out _; refine rb_ ?_; refine blk_far ?_ bg.out _; refine rb_ ?_; refine blk_far ?_ bg.out _; refine rb_ ?_; exact am.out⟩
                     have n12_ : Aside0 ((((w77.setCell ⟨aa, 0, none⟩ (.int .i64 (rd (rd_L1 l0_1 ((rd_T78 af ae).f0)) aq))).setCell ⟨aa, 1, none⟩ (.slice aX aN.length aY)).setCell ⟨aa, 2, none⟩ (.bool false)).heap[ao]? = some (.cells #[aD, aC] 27 (0, 0))) := ⟨by refine rb_ ?_; refine blk_far ?_ bh.out _; refine rb_ ?_; refine blk_far ?_ bh.out _; refine rb_ ?_; refine blk_far ?_ bh.out _; refine rb_ ?_; exact an.out⟩
                     have n13_ : Aside0 ((((w77.setCell ⟨aa, 0, none⟩ (.int .i64 (rd (rd_L1 l0_1 ((rd_T78 af ae).f0)) aq))).setCell ⟨aa, 1, none⟩ (.slice aX aN.length aY)).setCell ⟨aa, 2, none⟩ (.bool false)).heap[aa]? = some (.cells #[.int .i64 (rd (rd_L1 l0_1 ((rd_T78 af ae).f0)) aq), .slice aX aN.length aY, .bool false] 78 (0, 0))) := ⟨by refine rb_ ?_; refine blk_put (cs := #[.int .i64 (rd (rd_L1 l0_1 ((rd_T78 af ae).f0)) aq), .slice aX aN.length aY, .bool false]) ?_ 2 _ rfl; refine rb_ ?_; refine blk_put (cs := #[.int .i64 (rd (rd_L1 l0_1 ((rd_T78 af ae).f0)) aq), .slice none 0 0, .bool false]) ?_ 1 _ rfl; refine rb_ ?_; refine blk_put (cs := #[.int .i64 0, .slice none 0 0, .bool false]) ?_ 0 _ rfl; refine rb_ ?_; exact ap.out⟩
                     have n14_ : Aside0 (Below w.heap.size w (((w77.setCell ⟨aa, 0, none⟩ (.int .i64 (rd (rd_L1 l0_1 ((rd_T78 af ae).f0)) aq))).setCell ⟨aa, 1, none⟩ (.slice aX aN.length aY)).setCell ⟨aa, 2, none⟩ (.bool false))) := ⟨by exact zp27_1_ HB.out ax.out ay.out az.out aE.out aG.out bc.out⟩
                     (try clear al)
                     (try clear aA)
                     (try clear ab)
                     (try clear ai)
                     (try clear ag)
                     (try clear bm)
                     (try clear bn)
                     (try clear bq)
                     (try clear ad)
                     (try clear ah)
                     (try clear aj)
                     (try clear am)
                     (try clear an)
                     (try clear ap)
                     (try clear HB)
                     generalize (((w77.setCell ⟨aa, 0, none⟩ (.int .i64 (rd (rd_L1 l0_1 ((rd_T78 af ae).f0)) aq))).setCell ⟨aa, 1, none⟩ (.slice aX aN.length aY)).setCell ⟨aa, 2, none⟩ (.bool false)) = w82 at n0_ n1_ n2_ n3_ n4_ n5_ n6_ n7_ n8_ n9_ n10_ n11_ n12_ n13_ n14_ ⊢
                     have al := n0_; have aA := n1_; have ab := n2_; have ai := n3_; have ag := n4_; have bm := n5_; have bn := n6_; have bq := n7_; have ad := n8_; have ah := n9_; have aj := n10_; have am := n11_; have an := n12_; have ap := n13_; have HB := n14_
                     clear n0_ n1_ n2_ n3_ n4_ n5_ n6_ n7_ n8_ n9_ n10_ n11_ n12_ n13_ n14_
                     have jP := cb.out
                     have jQ := cc.out
                     have jR := bO.out
                     have jS := bP.out
                     have jT := bv.out
                     have jU := cf.out
                     have jV := bF.out
                     have jW := bW.out
                     have jX := aT.out
                     have jY := bw.out
                     have fg := ck_ (v := (.slice (some bk) l0_0.length c0_0)) ad 0 rfl
                     have fh := ck_ (v := (.slice (some bK) l0_1.length c0_1)) ad 1 rfl
                     have fi := blk_frozen ad.out 0
                     have fj := blk_frozen ad.out 1
                     have jZ := bx.out
                     have ka := aU.out
                     have kb := bz.out
                     have kc := bf.out
                     have kd := bA.out
                     have ke := bg.out
                     have kf := bB.out
                     have kg := bh.out
                     have fk : w82.cell? ⟨aa, 0, none⟩ = some (.int .i64 (rd (rd_L1 l0_1 ((rd_T78 af ae).f0)) aq)) := (blk_cell ap.out 0).trans rfl
                     have fl := ck_ (v := (.slice aX aN.length aY)) ap 1 rfl
                     have fm := ck_ (v := (.bool false)) ap 2 rfl
                     have fn := blk_frozen ap.out 0
                     have fo := blk_frozen ap.out 1
                     have fp := blk_frozen ap.out 2
                     have p451 : 0 ≤ ((rd (rd_L1 l0_1 ((rd_T78 af ae).f0)) aq) : Int) := of_decide_eq_true ah_
                     have q451 : (rd (rd_L1 l0_1 ((rd_T78 af ae).f0)) aq) < (l0_0.length : Int) := of_decide_eq_true ah_
                     obtain ⟨fH, e451, cV⟩ := Kd.at_bool dI.out (rd (rd_L1 l0_1 ((rd_T78 af ae).f0)) aq) p451 q451
                     obtain rfl : bk = fH := (by injection e451)
                     replace cV := (HB.out.cell (World.block_lt_of_cell? w _ cV)).trans cV
                     replace p451 := eq_true p451
                     replace q451 := eq_true q451
                     go_upto_if 71 with (fail)
                     go_cut [] (fun wc => ∃ (kq : Nat) (aH : List Int) (bQ : Value), Aside0 (spec_ConcatDfa.j4 kq af ae bi aq l0_0 l0_1 l1_0 l1_1 aK aJ (rd (rd_L1 l0_1 ((rd_T78 af ae).f0)) aq) aH false = some (r1, r2, r3)) ∧ Aside0 (kq ≤ k4) ∧ Aside0 (Kd.N k78 78 wc w.heap.size (fun k_ => (w.heap.size ≤ k_) ∧ some k_ ≠ (u10 : Value).ownBlock ∧ some k_ ≠ (aD : Value).ownBlock ∧ some k_ ≠ (aC : Value).ownBlock ∧ some k_ ≠ (bQ : Value).ownBlock ∧ k_ ≠ av ∧ k_ ≠ ar ∧ k_ ≠ au ∧ k_ ≠ aw ∧ k_ ≠ ao ∧ k_ ≠ aa) (.slice (some aI) af.length bE) af) ∧ Aside0 (Kd.R (Kd.int .i64) 3 wc w.heap.size (fun k_ => (w.heap.size ≤ k_) ∧ some k_ ≠ ((.slice aQ ak.length aR) : Value).ownBlock ∧ some k_ ≠ (bQ : Value).ownBlock) u10 bi) ∧ Aside0 (Kd.R (Kd.int .i64) 3 wc w.heap.size (fun k_ => (w.heap.size ≤ k_) ∧ some k_ ≠ (u10 : Value).ownBlock ∧ some k_ ≠ (bQ : Value).ownBlock) (.slice aQ ak.length aR) ak) ∧ Aside0 (Kd.R Kd.bool 4 wc w.heap.size (fun k_ => (w.heap.size ≤ k_)) aD aK) ∧ Aside0 (Kd.N (Kd.slice 3 (Kd.int .i64)) 67 wc w.heap.size (fun k_ => (w.heap.size ≤ k_) ∧ some k_ ≠ ((.slice (some aI) af.length bE) : Value).ownBlock ∧ some k_ ≠ (u10 : Value).ownBlock ∧ some k_ ≠ ((.slice aQ ak.length aR) : Value).ownBlock ∧ some k_ ≠ (aD : Value).ownBlock ∧ some k_ ≠ (bQ : Value).ownBlock ∧ k_ ≠ av ∧ k_ ≠ ar ∧ k_ ≠ au ∧ k_ ≠ aw ∧ k_ ≠ ao ∧ k_ ≠ aa) aC aJ) ∧ Aside0 (Kd.R (Kd.int .i64) 3 wc w.heap.size (fun k_ => (w.heap.size ≤ k_) ∧ some k_ ≠ (u10 : Value).ownBlock ∧ some k_ ≠ ((.slice aQ ak.length aR) : Value).ownBlock) bQ aH) ∧ Aside0 (wc.heap[av]? = some (.cells #[(.slice (some bk) l0_0.length c0_0), (.slice (some bK) l0_1.length c0_1)] 27 (0, 0))) ∧ Aside0 (wc.heap[ar]? = some (.cells #[(.slice A1_0 l1_0.length c1_0), (.slice A1_1 l1_1.length c1_1)] 27 (0, 0))) ∧ Aside0 (wc.heap[au]? = some (.cells #[(.slice none 0 0), (.slice none 0 0)] 27 (0, 0))) ∧ Aside0 (wc.heap[aw]? = some (.cells #[.int .i64 0, (.slice aQ ak.length aR), .bool false] 78 (0, 0))) ∧ Aside0 (wc.heap[ao]? = some (.cells #[aD, aC] 27 (0, 0))) ∧ Aside0 (wc.heap[aa]? = some (.cells #[.int .i64 (rd (rd_L1 l0_1 ((rd_T78 af ae).f0)) aq), bQ, .bool false] 78 (0, 0))) ∧ Aside0 (Below w.heap.size w wc))
                     case first =>
                      have H := HC71.out
                      clear HC71
                      obtain ⟨bq94, hbq94⟩ : ∃ b_ : Bool, b_ = (rdOf false l0_0 (rd (rd_L1 l0_1 ((rd_T78 af ae).f0)) aq)) := ⟨_, rfl⟩
                      replace H : (if bq94 = true then ((spec_l6Put.f k4 aN 0).bind fun bR => (spec_ConcatDfa.j4 k4 af ae bi aq l0_0 l0_1 l1_0 l1_1 aK aJ (rd (rd_L1 l0_1 ((rd_T78 af ae).f0)) aq) bR false)) else (spec_ConcatDfa.j4 k4 af ae bi aq l0_0 l0_1 l1_0 l1_1 aK aJ (rd (rd_L1 l0_1 ((rd_T78 af ae).f0)) aq) aN false)) = some (r1, r2, r3) := by rw [← hbq94] at H; exact H
                      have Nbq94 := am_ hbq94
                      clear hbq94
                      (try rw [← Nbq94.out])
                      by_cases c95 : bq94 = true
                      ·subst c95
                       have H1 : ((spec_l6Put.f k4 aN 0).bind fun bR => (spec_ConcatDfa.j4 k4 af ae bi aq l0_0 l0_1 l1_0 l1_1 aK aJ (rd (rd_L1 l0_1 ((rd_T78 af ae).f0)) aq) bR false)) = some (r1, r2, r3) := by rw [if_pos rfl] at H; exact H
                       clear H
                       have H := H1
                       clear H1
                       replace H := Option.bind_eq_some_iff.mp H
                       obtain ⟨bR, fA, H⟩ := H
                       have A96 := am_ fA
                       clear fA
                       have H' := am_ H
                       clear H
                       have kh := bw.out
                       have ki := aT.out
                       have kj := bx.out
                       have kk := aU.out
                       have kl := bz.out
                       have km := bf.out
                       have hE := bA.out
                       have hF := bg.out
                       have hG := bB.out
                       have hH := bh.out
                       have eB : w82.cell? ⟨aa, 0, none⟩ = some (.int .i64 (rd (rd_L1 l0_1 ((rd_T78 af ae).f0)) aq)) := (blk_cell ap.out 0).trans rfl
                       have eC := ck_ (v := (.slice aX aN.length aY)) ap 1 rfl
                       have eD := ck_ (v := (.bool false)) ap 2 rfl
                       have eE := blk_frozen ap.out 0
                       have eF := blk_frozen ap.out 1
                       have eG := blk_frozen ap.out 2
                       go_wp2_with (first | ((with_reducible refine gate_callee (f := 74) rfl ?_); refine gL_ (some 74) Try.func74 #[.slice aX aN.length aY, .int .i64 0] ?_; (with_reducible refine (spec_l6Put.calls k4 (fun k_ => some k_ = (.slice aX aN.length aY : Value).ownBlock) (.slice aX aN.length aY) aN 0 bR w _ ?side1 ?side2 A96.out).mono ?_); (case side1 => exact zp27_1_ HB.out ax.out ay.out az.out aE.out aG.out bc.out); (case side2 => exact Kd.R_tight rfl bq.out); rintro e w103 ⟨el, rfl, ho0, hb, hkp⟩; refine ⟨_, rfl, ?_⟩; have n0_ := am_ (Kd.N_mono (ok' := fun k_ => (w.heap.size ≤ k_) ∧ some k_ ≠ (u10 : Value).ownBlock ∧ some k_ ≠ (aD : Value).ownBlock ∧ some k_ ≠ (aC : Value).ownBlock ∧ k_ ≠ av ∧ k_ ≠ ar ∧ k_ ≠ au ∧ k_ ≠ aw ∧ k_ ≠ ao ∧ k_ ≠ aa ∧ some k_ ≠ (el : Value).ownBlock) (Kd.N_keptB (al.out) hkp (fun k_ hk_ hs_ => (hk_.2.2.2.2.1) hs_)) (fun k_ hk_ => ⟨hk_.1.1, hk_.1.2.1, hk_.1.2.2.1, hk_.1.2.2.2.1, hk_.1.2.2.2.2.2.1, hk_.1.2.2.2.2.2.2.1, hk_.1.2.2.2.2.2.2.2.1, hk_.1.2.2.2.2.2.2.2.2.1, hk_.1.2.2.2.2.2.2.2.2.2.1, hk_.1.2.2.2.2.2.2.2.2.2.2, fun e_ => Or.elim (ho0.1 k_ e_.symm) (fun hs_ => hk_.2.1 hs_) (fun hn_ => Nat.not_le.2 hk_.2.2 hn_)⟩)); have n1_ := am_ (Kd.R_mono (ok' := fun k_ => (w.heap.size ≤ k_) ∧ some k_ ≠ (.slice aQ ak.length aR : Value).ownBlock ∧ some k_ ≠ (el : Value).ownBlock) (Kd.R_keptB (aA.out) hkp (fun k_ hk_ hs_ => (hk_.2.2) hs_)) (fun k_ hk_ => ⟨hk_.1.1, hk_.1.2.1, fun e_ => Or.elim (ho0.1 k_ e_.symm) (fun hs_ => hk_.2.1 hs_) (fun hn_ => Nat.not_le.2 hk_.2.2 hn_)⟩)); have n2_ := am_ (Kd.R_mono (ok' := fun k_ => (w.heap.size ≤ k_) ∧ some k_ ≠ (u10 : Value).ownBlock ∧ some k_ ≠ (el : Value).ownBlock) (Kd.R_keptB (ab.out) hkp (fun k_ hk_ hs_ => (hk_.2.2) hs_)) (fun k_ hk_ => ⟨hk_.1.1, hk_.1.2.1, fun e_ => Or.elim (ho0.1 k_ e_.symm) (fun hs_ => hk_.2.1 hs_) (fun hn_ => Nat.not_le.2 hk_.2.2 hn_)⟩)); have n3_ := am_ (Kd.R_mono (ok' := fun k_ => (w.heap.size ≤ k_)) (Kd.R_keptB ((Kd.R_apart' ai.out (Kd.R_typed bq.out) (by decide))) hkp (fun k_ hk_ hs_ => (hk_.2) hs_)) (fun k_ hk_ => hk_.1.1)); have n4_ := am_ (Kd.N_mono (ok' := fun k_ => (w.heap.size ≤ k_) ∧ some k_ ≠ (.slice (some aI) af.length bE : Value).ownBlock ∧ some k_ ≠ (u10 : Value).ownBlock ∧ some k_ ≠ (.slice aQ ak.length aR : Value).ownBlock ∧ some k_ ≠ (aD : Value).ownBlock ∧ k_ ≠ av ∧ k_ ≠ ar ∧ k_ ≠ au ∧ k_ ≠ aw ∧ k_ ≠ ao ∧ k_ ≠ aa ∧ some k_ ≠ (el : Value).ownBlock) (Kd.N_keptB (ag.out) hkp (fun k_ hk_ hs_ => (hk_.2.2.2.2.2.1) hs_)) (fun k_ hk_ => ⟨hk_.1.1, hk_.1.2.1, hk_.1.2.2.1, hk_.1.2.2.2.1, hk_.1.2.2.2.2.1, hk_.1.2.2.2.2.2.2.1, hk_.1.2.2.2.2.2.2.2.1, hk_.1.2.2.2.2.2.2.2.2.1, hk_.1.2.2.2.2.2.2.2.2.2.1, hk_.1.2.2.2.2.2.2.2.2.2.2.1, hk_.1.2.2.2.2.2.2.2.2.2.2.2, fun e_ => Or.elim (ho0.1 k_ e_.symm) (fun hs_ => hk_.2.1 hs_) (fun hn_ => Nat.not_le.2 hk_.2.2 hn_)⟩)); have n5_ := am_ (blk_kept (rb_ ad.out) hkp (fun hs_ => (fun e_ => (Kd.R_ne bq.out ad.out (by decide)) e_) hs_)); have n6_ := am_ (blk_kept (rb_ ah.out) hkp (fun hs_ => (fun e_ => (Kd.R_ne bq.out ah.out (by decide)) e_) hs_)); have n7_ := am_ (blk_kept (rb_ aj.out) hkp (fun hs_ => (fun e_ => (Kd.R_ne bq.out aj.out (by decide)) e_) hs_)); have n8_ := am_ (blk_kept (rb_ am.out) hkp (fun hs_ => (fun e_ => (Kd.R_ne bq.out am.out (by decide)) e_) hs_)); have n9_ := am_ (blk_kept (rb_ an.out) hkp (fun hs_ => (fun e_ => (Kd.R_ne bq.out an.out (by decide)) e_) hs_)); have n10_ := am_ (blk_kept (rb_ ap.out) hkp (fun hs_ => (fun e_ => (Kd.R_ne bq.out ap.out (by decide)) e_) hs_)); have n11_ := am_ (Kd.R_mono (ok' := fun k_ => (w.heap.size ≤ k_) ∧ some k_ ≠ (u10 : Value).ownBlock ∧ some k_ ≠ (.slice aQ ak.length aR : Value).ownBlock) ho0 (fun k_ hk_ => ⟨Or.elim hk_ (fun hs_ => (bq.out.1 k_ (hs_).symm).1) (fun hn_ => (Nat.le_trans (below_size (zp27_1_ HB.out ax.out ay.out az.out aE.out aG.out bc.out)) hn_)), Or.elim hk_ (fun hs_ => fun e_ => (((aA.out).1 k_ e_.symm).2.2) hs_) (fun hn_ => (Kd.fresh' (Kd.R_lt (rr_ aA.out)) k_ hn_)), Or.elim hk_ (fun hs_ => fun e_ => (((ab.out).1 k_ e_.symm).2.2) hs_) (fun hn_ => (Kd.fresh' (Kd.R_lt (rr_ ab.out)) k_ hn_))⟩)); have n12_ := am_ (hb); clear al; clear aA; clear ab; clear ai; clear ag; clear ad; clear ah; clear aj; clear am; clear an; clear ap; clear HB; clear bq; clear bm; clear bn; have al := n0_; have aA := n1_; have ab := n2_; have ai := n3_; have ag := n4_; have ad := n5_; have ah := n6_; have aj := n7_; have am := n8_; have an := n9_; have ap := n10_; have eT := n11_; have HB := n12_; clear n0_ n1_ n2_ n3_ n4_ n5_ n6_ n7_ n8_ n9_ n10_ n11_ n12_; (try clear hb); (try clear hkp); (try clear ho0); obtain ⟨cw, cx, fI⟩ := Kd.R_slice eT.out; subst fI; have eH : w103.cell? ⟨aa, 0, none⟩ = some (.int .i64 (rd (rd_L1 l0_1 ((rd_T78 af ae).f0)) aq)) := (blk_cell ap.out 0).trans rfl; have eI := ck_ (v := (.slice aX aN.length aY)) ap 1 rfl; have eJ := ck_ (v := (.bool false)) ap 2 rfl; have eK := blk_frozen ap.out 0; have eL := blk_frozen ap.out 1; have eM := blk_frozen ap.out 2))
                       go_meet
                       case rel => exact ⟨_, (bR), (.slice cw bR.length cx), H', ⟨by have := HJ2.out; have := HJ25.out; have := HK3.out; have := HK4.out; first | omega | exact Nat.le_refl _⟩, ⟨by refine rn_ ?_; exact Kd.N_mono (Kd.N_far (p := ⟨aa, 1, none⟩) (Kd.N_mono al.out (fun k_ hk => (⟨hk, hk.2.2.2.2.2.2.2.2.2.1⟩ : _ ∧ k_ ≠ aa))) (fun _ hk => hk.2) (.slice cw bR.length cx)) (fun _ hk => ⟨hk.1.1, ⟨hk.1.2.1, ⟨hk.1.2.2.1, ⟨hk.1.2.2.2.1, ⟨hk.1.2.2.2.2.2.2.2.2.2.2, ⟨hk.1.2.2.2.2.1, ⟨hk.1.2.2.2.2.2.1, ⟨hk.1.2.2.2.2.2.2.1, ⟨hk.1.2.2.2.2.2.2.2.1, ⟨hk.1.2.2.2.2.2.2.2.2.1, hk.1.2.2.2.2.2.2.2.2.2.1⟩⟩⟩⟩⟩⟩⟩⟩⟩⟩)⟩, ⟨by refine rr_ ?_; exact Kd.R_mono (Kd.R_far (p := ⟨aa, 1, none⟩) (Kd.R_types aA.out ap.out (by decide)) (fun _ hk => hk.2) (.slice cw bR.length cx)) (fun _ hk => ⟨hk.1.1, ⟨hk.1.2.1, hk.1.2.2⟩⟩)⟩, ⟨by refine rr_ ?_; exact Kd.R_mono (Kd.R_far (p := ⟨aa, 1, none⟩) (Kd.R_types ab.out ap.out (by decide)) (fun _ hk => hk.2) (.slice cw bR.length cx)) (fun _ hk => ⟨hk.1.1, ⟨hk.1.2.1, hk.1.2.2⟩⟩)⟩, ⟨by refine rr_ ?_; exact Kd.R_mono (Kd.R_far (p := ⟨aa, 1, none⟩) (Kd.R_types ai.out ap.out (by decide)) (fun _ hk => hk.2) (.slice cw bR.length cx)) (fun _ hk => hk.1)⟩, ⟨by refine rn_ ?_; exact Kd.N_mono (Kd.N_far (p := ⟨aa, 1, none⟩) (Kd.N_mono ag.out (fun k_ hk => (⟨hk, hk.2.2.2.2.2.2.2.2.2.2.1⟩ : _ ∧ k_ ≠ aa))) (fun _ hk => hk.2) (.slice cw bR.length cx)) (fun _ hk => ⟨hk.1.1, ⟨hk.1.2.1, ⟨hk.1.2.2.1, ⟨hk.1.2.2.2.1, ⟨hk.1.2.2.2.2.1, ⟨hk.1.2.2.2.2.2.2.2.2.2.2.2, ⟨hk.1.2.2.2.2.2.1, ⟨hk.1.2.2.2.2.2.2.1, ⟨hk.1.2.2.2.2.2.2.2.1, ⟨hk.1.2.2.2.2.2.2.2.2.1, ⟨hk.1.2.2.2.2.2.2.2.2.2.1, hk.1.2.2.2.2.2.2.2.2.2.2.1⟩⟩⟩⟩⟩⟩⟩⟩⟩⟩⟩)⟩, ⟨by refine rr_ ?_; exact Kd.R_mono (Kd.R_far (p := ⟨aa, 1, none⟩) (Kd.R_types eT.out ap.out (by decide)) (fun _ hk => hk.2) (.slice cw bR.length cx)) (fun _ hk => ⟨hk.1.1, ⟨hk.1.2.1, hk.1.2.2⟩⟩)⟩, ⟨by refine rb_ ?_; refine blk_far ?_ aT.out _; refine rb_ ?_; exact ad.out⟩, ⟨by refine rb_ ?_; refine blk_far ?_ aU.out _; refine rb_ ?_; exact ah.out⟩, ⟨by refine rb_ ?_; refine blk_far ?_ bf.out _; refine rb_ ?_; exact aj.out⟩, ⟨by refine rb_ ?_; refine blk_far ?_ bg.out _; refine rb_ ?_; exact am.out⟩, ⟨by refine rb_ ?_; refine blk_far ?_ bh.out _; refine rb_ ?_; exact an.out⟩, ⟨by refine rb_ ?_; refine blk_put (cs := #[.int .i64 (rd (rd_L1 l0_1 ((rd_T78 af ae).f0)) aq), .slice aX aN.length aY, .bool false]) ?_ 1 _ rfl; refine rb_ ?_; exact ap.out⟩, ⟨by exact zp27_1_ HB.out ax.out ay.out az.out aE.out aG.out bc.out⟩⟩
                      ·replace c95 := Bool.eq_false_iff.mpr c95
                       subst c95
                       have H1 : (spec_ConcatDfa.j4 k4 af ae bi aq l0_0 l0_1 l1_0 l1_1 aK aJ (rd (rd_L1 l0_1 ((rd_T78 af ae).f0)) aq) aN false) = some (r1, r2, r3) := by rw [if_neg (show ¬ (false = true) by decide)] at H; exact H
                       clear H
                       have H := H1
                       clear H1
                       have H' := am_ H
                       clear H
                       go_wp2
                       go_meet
                       case rel => exact ⟨_, (aN), (.slice aX aN.length aY), H', ⟨by have := HJ2.out; have := HJ25.out; have := HK3.out; have := HK4.out; first | omega | exact Nat.le_refl _⟩, ⟨by refine rn_ ?_; exact al.out⟩, ⟨by refine rr_ ?_; exact aA.out⟩, ⟨by refine rr_ ?_; exact ab.out⟩, ⟨by refine rr_ ?_; exact ai.out⟩, ⟨by refine rn_ ?_; exact ag.out⟩, ⟨by refine rr_ ?_; exact bq.out⟩, ⟨by refine rb_ ?_; exact ad.out⟩, ⟨by refine rb_ ?_; exact ah.out⟩, ⟨by refine rb_ ?_; exact aj.out⟩, ⟨by refine rb_ ?_; exact am.out⟩, ⟨by refine rb_ ?_; exact an.out⟩, ⟨by refine rb_ ?_; exact ap.out⟩, ⟨by exact zp27_1_ HB.out ax.out ay.out az.out aE.out aG.out bc.out⟩⟩
                     case rest =>
                      clear HC71
                      try clear c1
                      try clear p2
                      try clear c4
                      try clear p4
                      try clear q4
                      try clear hx4
                      try clear c7
                      try clear c8
                      try clear c9
                      try clear q9
                      try clear c10
                      try clear c44
                      try clear p45
                      try clear q45
                      try clear hx45
                      try clear c73
                      try clear c74
                      try clear c83
                      try clear c84
                      try clear c85
                      try clear c86
                      try clear c87
                      try clear c89
                      try clear c90
                      try clear c91
                      try clear c92
                      try clear q94
                      try clear c95
                      try clear c97
                      try clear c98
                      try clear c99
                      try clear c100
                      try clear c101
                      try clear eB
                      try clear eC
                      try clear eD
                      try clear eH
                      try clear eI
                      try clear eJ
                      try clear fg
                      try clear fh
                      try clear fk
                      try clear fl
                      try clear fm
                      try clear eE
                      try clear eF
                      try clear eG
                      try clear eK
                      try clear eL
                      try clear eM
                      try clear fi
                      try clear fj
                      try clear fn
                      try clear fo
                      try clear fp
                      try clear cV
                      try clear p451
                      try clear q451
                      obtain ⟨kq, aH, bQ, HA, HJ70, al, aA, ab, ai, ag, aM, ad, ah, aj, am, an, ap, HB⟩ := hcut
                      cases kq with
                      | zero => exact absurd HA.out (by simp [spec_ConcatDfa.j4])
                      | succ kj70 =>
                       have H := HA.out
                       clear HA
                       simp only [spec_ConcatDfa.j4] at H
                       replace H := Option.bind_eq_some_iff.mp H
                       obtain ⟨cY, eU, H⟩ := H
                       have fB := am_ eU
                       clear eU
                       by_cases c107 : cY < 0
                       ·rw [if_pos c107] at H
                        have c107b0 : decide (cY < 0) = true := decide_eq_true c107
                        clear c107
                        by_cases c108 : af.length < 3518437208883
                        ·rw [if_pos c108] at H
                         have LMc108 := am_ c108
                         clear c108
                         obtain ⟨ck, hy456⟩ : ∃ y_ : List (S78), y_ = (af ++ [(⟨(rd (rd_L1 l0_1 ((rd_T78 af ae).f0)) aq), aH, false⟩ : S78)]) := ⟨_, rfl⟩
                         replace H : ((spec_l6Find.f kj70 ck (rd (rd_L1 l0_1 ((rd_T78 af ae).f0)) aq) aH false).bind fun cy => (if bi.length < 17592186044416 then (spec_ConcatDfa.l1 kj70 ck ae (bi ++ [cy]) (wrap64 (aq + 1)) l0_0 l0_1 l1_0 l1_1 aK aJ) else (none))) = some (r1, r2, r3) := by first | (rw [hy456]; with_reducible exact H) | (have H2_ := (Option.bind_some _ _).symm.trans H; rw [hy456]; with_reducible exact H2_) | (have H2_ := (Option.bind_some _ _).symm.trans H; with_reducible exact H2_) | with_reducible exact H | (rw [hy456]; exact H) | exact H
                         have fJ := am_ hy456
                         clear hy456
                         replace H := Option.bind_eq_some_iff.mp H
                         obtain ⟨cy, eV, H⟩ := H
                         have gn := am_ eV
                         clear eV
                         by_cases c110 : bi.length < 17592186044416
                         ·rw [if_pos c110] at H
                          have LMc110 := am_ c110
                          clear c110
                          obtain ⟨fC, hy460⟩ : ∃ y_ : List Int, y_ = (bi ++ [cy]) := ⟨_, rfl⟩
                          replace H : (spec_ConcatDfa.l1 kj70 ck ae fC (wrap64 (aq + 1)) l0_0 l0_1 l1_0 l1_1 aK aJ) = some (r1, r2, r3) := by first | (rw [hy460]; with_reducible exact H) | (have H2_ := (Option.bind_some _ _).symm.trans H; rw [hy460]; with_reducible exact H2_) | (have H2_ := (Option.bind_some _ _).symm.trans H; with_reducible exact H2_) | with_reducible exact H | (rw [hy460]; exact H) | exact H
                          have fK := am_ hy460
                          clear hy460
                          have H' := am_ H
                          clear H
                          have hI := bw.out
                          have hJ := aT.out
                          have hL := bx.out
                          have hM := aU.out
                          have hN := bz.out
                          have hO := bf.out
                          have hP := bA.out
                          have hQ := bg.out
                          have hR := bB.out
                          have hS := bh.out
                          have go : wc.cell? ⟨aa, 0, none⟩ = some (.int .i64 (rd (rd_L1 l0_1 ((rd_T78 af ae).f0)) aq)) := (blk_cell ap.out 0).trans rfl
                          have gp := ck_ (v := (bQ)) ap 1 rfl
                          have gq := ck_ (v := (.bool false)) ap 2 rfl
                          have gr := blk_frozen ap.out 0
                          have gs := blk_frozen ap.out 1
                          have gt := blk_frozen ap.out 2
                          obtain ⟨bY, bZ, fL⟩ := Kd.R_slice aM.out
                          subst fL
                          go_wp2_with (first | ((with_reducible refine gate_callee (f := 75) rfl ?_); refine gL_ (some 78) Try.func75 #[.slice (some aI) af.length bE, .agg #[.int .i64 (rd (rd_L1 l0_1 ((rd_T78 af ae).f0)) aq), .slice bY aH.length bZ, .bool false]] ?_; (with_reducible refine (spec_l6Find.calls kj70 _ _ af (rd (rd_L1 l0_1 ((rd_T78 af ae).f0)) aq) _ _ aH false cY _ ?side1 ?side2 ?side3 ?side4 fB.out).mono ?_); (case side1 => exact rc_ ((Kd.N_reads' al.out).2.2)); (case side2 => exact (Kd.N_reads' al.out).2.1); (case side3 => exact rc_ ((Kd.R_reads' aM.out).2.2)); (case side4 => exact (Kd.R_reads' aM.out).2.1); rintro e w118 ⟨rfl, hb⟩; refine ⟨_, rfl, ?_⟩; have n0_ := am_ (Kd.N_below (rn_ al.out) hb); have n1_ := am_ (Kd.R_below (rr_ aA.out) hb); have n2_ := am_ (Kd.R_below (rr_ ab.out) hb); have n3_ := am_ (Kd.R_below (rr_ ai.out) hb); have n4_ := am_ (Kd.N_below (rn_ ag.out) hb); have n5_ := am_ (Kd.R_below (rr_ aM.out) hb); have n6_ := am_ (blk_below (rb_ ad.out) hb); have n7_ := am_ (blk_below (rb_ ah.out) hb); have n8_ := am_ (blk_below (rb_ aj.out) hb); have n9_ := am_ (blk_below (rb_ am.out) hb); have n10_ := am_ (blk_below (rb_ an.out) hb); have n11_ := am_ (blk_below (rb_ ap.out) hb); have n12_ := am_ (below_step (zp27_1_ HB.out ax.out ay.out az.out aE.out aG.out bc.out) hb); clear al; clear aA; clear ab; clear ai; clear ag; clear aM; clear ad; clear ah; clear aj; clear am; clear an; clear ap; clear HB; have al := n0_; have aA := n1_; have ab := n2_; have ai := n3_; have ag := n4_; have aM := n5_; have ad := n6_; have ah := n7_; have aj := n8_; have am := n9_; have an := n10_; have ap := n11_; have HB := n12_; clear n0_ n1_ n2_ n3_ n4_ n5_ n6_ n7_ n8_ n9_ n10_ n11_ n12_; (try clear hb); (try clear hb2); (try clear hk); (try clear hi); have gu : w118.cell? ⟨aa, 0, none⟩ = some (.int .i64 (rd (rd_L1 l0_1 ((rd_T78 af ae).f0)) aq)) := (blk_cell ap.out 0).trans rfl; have gv := ck_ (v := (.slice bY aH.length bZ)) ap 1 rfl; have gw := ck_ (v := (.bool false)) ap 2 rfl; have gx := blk_frozen ap.out 0; have gy := blk_frozen ap.out 1; have gz := blk_frozen ap.out 2) | ((with_reducible refine gate_builtin (b := .append) (xs := #[.tmp 80, .tmp 82]) rfl ?_); at_builtin; refine Kd.N_append k78 (w0 := w) w.heap.size rfl (.tmp 80) (.tmp 82) 79 78 (.agg #[(.int .i64 0), (.slice none 0 0), (.bool false)]) 40 rfl Try.underlying79 info78 rfl (by decide) (by omega) (.slice (some aI) af.length bE) af (⟨(rd (rd_L1 l0_1 ((rd_T78 af ae).f0)) aq), aH, false⟩ : S78) [.int .i64 (rd (rd_L1 l0_1 ((rd_T78 af ae).f0)) aq), .slice bY aH.length bZ, .bool false] (fun k_ => (w.heap.size ≤ k_) ∧ some k_ ≠ (u10 : Value).ownBlock ∧ some k_ ≠ (aD : Value).ownBlock ∧ some k_ ≠ (aC : Value).ownBlock ∧ k_ ≠ av ∧ k_ ≠ ar ∧ k_ ≠ au ∧ k_ ≠ aw ∧ k_ ≠ ao ∧ k_ ≠ aa) (fun k_ => ((fun k_ => (w.heap.size ≤ k_) ∧ some k_ ≠ (u10 : Value).ownBlock ∧ some k_ ≠ (aD : Value).ownBlock ∧ some k_ ≠ (aC : Value).ownBlock ∧ k_ ≠ av ∧ k_ ≠ ar ∧ k_ ≠ au ∧ k_ ≠ aw ∧ k_ ≠ ao ∧ k_ ≠ aa)) k_ ∧ some k_ ≠ (.slice (some aI) af.length bE : Value).ownBlock) rfl rfl ?aP (fun _ hk => hk) ?aF ?aO ?aB ?aS ?aL ?_; (case aP => exact (k78_mkF _ _ (⟨(rd (rd_L1 l0_1 ((rd_T78 af ae).f0)) aq), aH, false⟩ : S78) (Kd.R_reads' (Kd.R_mono (ok' := (fun k_ => ((fun k_ => (w.heap.size ≤ k_) ∧ some k_ ≠ (u10 : Value).ownBlock ∧ some k_ ≠ (aD : Value).ownBlock ∧ some k_ ≠ (aC : Value).ownBlock ∧ k_ ≠ av ∧ k_ ≠ ar ∧ k_ ≠ au ∧ k_ ≠ aw ∧ k_ ≠ ao ∧ k_ ≠ aa)) k_ ∧ some k_ ≠ (.slice (some aI) af.length bE : Value).ownBlock)) (Kd.R_types (Kd.R_types (Kd.R_types (Kd.R_types (Kd.R_types (Kd.R_types (Kd.R_apart' (Kd.R_apart' (Kd.R_apart' (aM.out) (Kd.R_typed ai.out) (by decide)) (Kd.N_typed ag.out) (by decide)) (Kd.N_typed al.out) (by decide)) ad.out (by decide)) ah.out (by decide)) aj.out (by decide)) am.out (by decide)) an.out (by decide)) ap.out (by decide)) (fun k_ hk => ⟨⟨hk.1.1.1.1.1.1.1.1.1.1, ⟨hk.1.1.1.1.1.1.1.1.1.2.1, ⟨hk.1.1.1.1.1.1.1.1.2, ⟨hk.1.1.1.1.1.1.1.2, ⟨hk.1.1.1.1.1.2, ⟨hk.1.1.1.1.2, ⟨hk.1.1.1.2, ⟨hk.1.1.2, ⟨hk.1.2, hk.2⟩⟩⟩⟩⟩⟩⟩⟩⟩, hk.1.1.1.1.1.1.2⟩))).2.1 (Kd.R_F (Kd.R_mono (ok' := (fun k_ => ((fun k_ => (w.heap.size ≤ k_) ∧ some k_ ≠ (u10 : Value).ownBlock ∧ some k_ ≠ (aD : Value).ownBlock ∧ some k_ ≠ (aC : Value).ownBlock ∧ k_ ≠ av ∧ k_ ≠ ar ∧ k_ ≠ au ∧ k_ ≠ aw ∧ k_ ≠ ao ∧ k_ ≠ aa)) k_ ∧ some k_ ≠ (.slice (some aI) af.length bE : Value).ownBlock)) (Kd.R_types (Kd.R_types (Kd.R_types (Kd.R_types (Kd.R_types (Kd.R_types (Kd.R_apart' (Kd.R_apart' (Kd.R_apart' (aM.out) (Kd.R_typed ai.out) (by decide)) (Kd.N_typed ag.out) (by decide)) (Kd.N_typed al.out) (by decide)) ad.out (by decide)) ah.out (by decide)) aj.out (by decide)) am.out (by decide)) an.out (by decide)) ap.out (by decide)) (fun k_ hk => ⟨⟨hk.1.1.1.1.1.1.1.1.1.1, ⟨hk.1.1.1.1.1.1.1.1.1.2.1, ⟨hk.1.1.1.1.1.1.1.1.2, ⟨hk.1.1.1.1.1.1.1.2, ⟨hk.1.1.1.1.1.2, ⟨hk.1.1.1.1.2, ⟨hk.1.1.1.2, ⟨hk.1.1.2, ⟨hk.1.2, hk.2⟩⟩⟩⟩⟩⟩⟩⟩⟩, hk.1.1.1.1.1.1.2⟩))))); (case aB => exact (zp27_1_ HB.out ax.out ay.out az.out aE.out aG.out bc.out)); (case aF => exact (fun k_ hk => ⟨(Nat.le_trans (below_size (zp27_1_ HB.out ax.out ay.out az.out aE.out aG.out bc.out)) hk), Kd.fresh' (Kd.R_lt (rr_ aA.out)) k_ hk, Kd.fresh' (Kd.R_lt (rr_ ai.out)) k_ hk, Kd.fresh' (Kd.N_lt (rn_ ag.out)) k_ hk, Kd.freshB (g := av) (o := .cells #[.slice (some bk) l0_0.length c0_0, .slice (some bK) l0_1.length c0_1] 27 (0, 0)) (rb_ ad.out) k_ hk, Kd.freshB (g := ar) (o := .cells #[.slice A1_0 l1_0.length c1_0, .slice A1_1 l1_1.length c1_1] 27 (0, 0)) (rb_ ah.out) k_ hk, Kd.freshB (g := au) (o := .cells #[.slice none 0 0, .slice none 0 0] 27 (0, 0)) (rb_ aj.out) k_ hk, Kd.freshB (g := aw) (o := .cells #[.int .i64 0, .slice aQ ak.length aR, .bool false] 78 (0, 0)) (rb_ am.out) k_ hk, Kd.freshB (g := ao) (o := .cells #[aD, aC] 27 (0, 0)) (rb_ an.out) k_ hk, Kd.freshB (g := aa) (o := .cells #[.int .i64 (rd (rd_L1 l0_1 ((rd_T78 af ae).f0)) aq), .slice bY aH.length bZ, .bool false] 78 (0, 0)) (rb_ ap.out) k_ hk⟩)); (case aO => exact (by refine rn_ ?_; exact Kd.N_mono al.out (fun _ hk => ⟨hk.1, ⟨hk.2.1, ⟨hk.2.2.1, ⟨hk.2.2.2.1, ⟨hk.2.2.2.2.2.1, ⟨hk.2.2.2.2.2.2.1, ⟨hk.2.2.2.2.2.2.2.1, ⟨hk.2.2.2.2.2.2.2.2.1, ⟨hk.2.2.2.2.2.2.2.2.2.1, hk.2.2.2.2.2.2.2.2.2.2⟩⟩⟩⟩⟩⟩⟩⟩⟩))); (case aS => exact (below_size (zp27_1_ HB.out ax.out ay.out az.out aE.out aG.out bc.out))); (case aL => have := LMc108.out; omega); intro ky w120 ho hb hg hat; rw [← fJ.out] at ho; have HOX := am_ (Kd.R_over' (rr_ aM.out) (Kd.N_typed (rn_ al.out)) (by decide) hg); have n0_ := am_ (Kd.R_over' (rr_ aA.out) (Kd.N_typed (rn_ al.out)) (by decide) hg); have n1_ := am_ (Kd.R_over' (rr_ ab.out) (Kd.N_typed (rn_ al.out)) (by decide) hg); have n2_ := am_ (Kd.R_over' (rr_ ai.out) (Kd.N_typed (rn_ al.out)) (by decide) hg); have n3_ := am_ (Kd.N_afterv (ok := (fun k_ => (w.heap.size ≤ k_) ∧ some k_ ≠ (u10 : Value).ownBlock ∧ some k_ ≠ (.slice aQ ak.length aR : Value).ownBlock ∧ some k_ ≠ (aD : Value).ownBlock ∧ some k_ ≠ (.slice bY aH.length bZ : Value).ownBlock ∧ k_ ≠ av ∧ k_ ≠ ar ∧ k_ ≠ au ∧ k_ ≠ aw ∧ k_ ≠ ao ∧ k_ ≠ aa)) (by refine rn_ ?_; exact Kd.N_mono ag.out (fun _ hk => ⟨⟨hk.1, ⟨hk.2.2.1, ⟨hk.2.2.2.1, ⟨hk.2.2.2.2.1, ⟨hk.2.2.2.2.2.1, ⟨hk.2.2.2.2.2.2.1, ⟨hk.2.2.2.2.2.2.2.1, ⟨hk.2.2.2.2.2.2.2.2.1, ⟨hk.2.2.2.2.2.2.2.2.2.1, ⟨hk.2.2.2.2.2.2.2.2.2.2.1, hk.2.2.2.2.2.2.2.2.2.2.2⟩⟩⟩⟩⟩⟩⟩⟩⟩⟩, hk.2.1⟩)) hg hat); have n4_ := am_ (blk_grown (g := av) (o := .cells #[.slice (some bk) l0_0.length c0_0, .slice (some bK) l0_1.length c0_1] 27 (0, 0)) (rb_ ad.out) hg (Kd.N_ne al.out ad.out (by decide))); have n5_ := am_ (blk_grown (g := ar) (o := .cells #[.slice A1_0 l1_0.length c1_0, .slice A1_1 l1_1.length c1_1] 27 (0, 0)) (rb_ ah.out) hg (Kd.N_ne al.out ah.out (by decide))); have n6_ := am_ (blk_grown (g := au) (o := .cells #[.slice none 0 0, .slice none 0 0] 27 (0, 0)) (rb_ aj.out) hg (Kd.N_ne al.out aj.out (by decide))); have n7_ := am_ (blk_grown (g := aw) (o := .cells #[.int .i64 0, .slice aQ ak.length aR, .bool false] 78 (0, 0)) (rb_ am.out) hg (Kd.N_away al.out (fun _ hk => hk.2.2.2.2.2.2.2.2.1))); have n8_ := am_ (blk_grown (g := ao) (o := .cells #[aD, aC] 27 (0, 0)) (rb_ an.out) hg (Kd.N_ne al.out an.out (by decide))); have n9_ := am_ (blk_grown (g := aa) (o := .cells #[.int .i64 (rd (rd_L1 l0_1 ((rd_T78 af ae).f0)) aq), .slice bY aH.length bZ, .bool false] 78 (0, 0)) (rb_ ap.out) hg (Kd.N_away al.out (fun _ hk => hk.2.2.2.2.2.2.2.2.2.2))); have n10_ := am_ (hb); have n11_ := am_ (ho); clear aA; clear ab; clear ai; clear ag; clear ad; clear ah; clear aj; clear am; clear an; clear ap; clear HB; clear al; clear aM; have aA := n0_; have ab := n1_; have ai := n2_; have ag := n3_; have ad := n4_; have ah := n5_; have aj := n6_; have am := n7_; have an := n8_; have ap := n9_; have HB := n10_; have bT := n11_; clear n0_ n1_ n2_ n3_ n4_ n5_ n6_ n7_ n8_ n9_ n10_ n11_; clear ho hb hg hat; have gA : w120.cell? ⟨aa, 0, none⟩ = some (.int .i64 (rd (rd_L1 l0_1 ((rd_T78 af ae).f0)) aq)) := (blk_cell ap.out 0).trans rfl; have gB := ck_ (v := (.slice bY aH.length bZ)) ap 1 rfl; have gC := ck_ (v := (.bool false)) ap 2 rfl; have gD := blk_frozen ap.out 0; have gE := blk_frozen ap.out 1; have gF := blk_frozen ap.out 2; obtain ⟨eW, eX, fM⟩ := Kd.N_slice bT.out; subst fM) | ((with_reducible refine gate_callee (f := 75) rfl ?_); refine gL_ (some 87) Try.func75 #[.slice eW ck.length eX, .agg #[.int .i64 (rd (rd_L1 l0_1 ((rd_T78 af ae).f0)) aq), .slice bY aH.length bZ, .bool false]] ?_; (with_reducible refine (spec_l6Find.calls kj70 _ _ ck (rd (rd_L1 l0_1 ((rd_T78 af ae).f0)) aq) _ _ aH false cy _ ?side1 ?side2 ?side3 ?side4 gn.out).mono ?_); (case side1 => exact rc_ ((Kd.N_reads' bT.out).2.2)); (case side2 => exact (Kd.N_reads' bT.out).2.1); (case side3 => exact rc_ ((Kd.R_reads' HOX.out).2.2)); (case side4 => exact (Kd.R_reads' HOX.out).2.1); rintro e w123 ⟨rfl, hb⟩; refine ⟨_, rfl, ?_⟩; have n0_ := am_ (Kd.R_below (rr_ aA.out) hb); have n1_ := am_ (Kd.R_below (rr_ ab.out) hb); have n2_ := am_ (Kd.R_below (rr_ ai.out) hb); have n3_ := am_ (Kd.N_below (rn_ ag.out) hb); have n4_ := am_ (Kd.N_below (rn_ bT.out) hb); have n5_ := am_ (blk_below (rb_ ad.out) hb); have n6_ := am_ (blk_below (rb_ ah.out) hb); have n7_ := am_ (blk_below (rb_ aj.out) hb); have n8_ := am_ (blk_below (rb_ am.out) hb); have n9_ := am_ (blk_below (rb_ an.out) hb); have n10_ := am_ (blk_below (rb_ ap.out) hb); have n11_ := am_ (below_step (zp27_1_ HB.out ax.out ay.out az.out aE.out aG.out bc.out) hb); clear aA; clear ab; clear ai; clear ag; clear bT; clear ad; clear ah; clear aj; clear am; clear an; clear ap; clear HB; have aA := n0_; have ab := n1_; have ai := n2_; have ag := n3_; have bT := n4_; have ad := n5_; have ah := n6_; have aj := n7_; have am := n8_; have an := n9_; have ap := n10_; have HB := n11_; clear n0_ n1_ n2_ n3_ n4_ n5_ n6_ n7_ n8_ n9_ n10_ n11_; (try clear hb); (try clear hb2); (try clear hk); (try clear hi)) | ((with_reducible refine gate_builtin (b := .append) (xs := #[.tmp 84, .tmp 88]) rfl ?_); at_builtin; refine Kd.R_append (Kd.int .i64) (w0 := w) w.heap.size rfl (.tmp 84) (.tmp 88) 67 3 (.int .i64 0) 8 rfl Try.underlying67 info3 rfl (by decide) (by omega) u10 bi cy [.int .i64 cy] (fun k_ => (w.heap.size ≤ k_) ∧ some k_ ≠ (.slice aQ ak.length aR : Value).ownBlock) (fun _ => False) rfl rfl ?aP (fun _ hk => hk.elim) ?aF ?aO ?aB ?aS ?aL ?_; (case aP => exact rfl); (case aB => exact (zp27_1_ HB.out ax.out ay.out az.out aE.out aG.out bc.out)); (case aF => exact (fun k_ hk => ⟨(Nat.le_trans (below_size (zp27_1_ HB.out ax.out ay.out az.out aE.out aG.out bc.out)) hk), Kd.fresh' (Kd.R_lt (rr_ ab.out)) k_ hk⟩)); (case aO => exact (by refine rr_ ?_; exact Kd.R_mono aA.out (fun _ hk => ⟨hk.1, hk.2.1⟩))); (case aS => exact (below_size (zp27_1_ HB.out ax.out ay.out az.out aE.out aG.out bc.out))); (case aL => have := LMc110.out; omega); intro kz w124 ho hb hg hat; rw [← fK.out] at ho; have n0_ := am_ (Kd.R_after (ok := (fun k_ => (w.heap.size ≤ k_))) (by refine rr_ ?_; exact Kd.R_mono ab.out (fun _ hk => ⟨hk.1, hk.2.1⟩)) hg hat); have n1_ := am_ (Kd.R_over' (rr_ ai.out) (Kd.R_typed (rr_ aA.out)) (by decide) hg); have n2_ := am_ (Kd.N_afterv (ok := (fun k_ => (w.heap.size ≤ k_) ∧ some k_ ≠ (.slice aQ ak.length aR : Value).ownBlock ∧ some k_ ≠ (aD : Value).ownBlock ∧ some k_ ≠ (.slice eW ck.length eX : Value).ownBlock ∧ k_ ≠ av ∧ k_ ≠ ar ∧ k_ ≠ au ∧ k_ ≠ aw ∧ k_ ≠ ao ∧ k_ ≠ aa)) (by refine rn_ ?_; exact Kd.N_mono ag.out (fun _ hk => ⟨⟨hk.1.1, ⟨hk.1.2.2.1, ⟨hk.1.2.2.2.1, ⟨hk.2, ⟨hk.1.2.2.2.2.2.1, ⟨hk.1.2.2.2.2.2.2.1, ⟨hk.1.2.2.2.2.2.2.2.1, ⟨hk.1.2.2.2.2.2.2.2.2.1, ⟨hk.1.2.2.2.2.2.2.2.2.2.1, hk.1.2.2.2.2.2.2.2.2.2.2⟩⟩⟩⟩⟩⟩⟩⟩⟩, hk.1.2.1⟩)) hg hat); have n3_ := am_ (blk_grown (g := av) (o := .cells #[.slice (some bk) l0_0.length c0_0, .slice (some bK) l0_1.length c0_1] 27 (0, 0)) (rb_ ad.out) hg (Kd.R_ne aA.out ad.out (by decide))); have n4_ := am_ (blk_grown (g := ar) (o := .cells #[.slice A1_0 l1_0.length c1_0, .slice A1_1 l1_1.length c1_1] 27 (0, 0)) (rb_ ah.out) hg (Kd.R_ne aA.out ah.out (by decide))); have n5_ := am_ (blk_grown (g := au) (o := .cells #[.slice none 0 0, .slice none 0 0] 27 (0, 0)) (rb_ aj.out) hg (Kd.R_ne aA.out aj.out (by decide))); have n6_ := am_ (blk_grown (g := aw) (o := .cells #[.int .i64 0, .slice aQ ak.length aR, .bool false] 78 (0, 0)) (rb_ am.out) hg (Kd.R_ne aA.out am.out (by decide))); have n7_ := am_ (blk_grown (g := ao) (o := .cells #[aD, aC] 27 (0, 0)) (rb_ an.out) hg (Kd.R_ne aA.out an.out (by decide))); have n8_ := am_ (blk_grown (g := aa) (o := .cells #[.int .i64 (rd (rd_L1 l0_1 ((rd_T78 af ae).f0)) aq), .slice bY aH.length bZ, .bool false] 78 (0, 0)) (rb_ ap.out) hg (Kd.R_ne aA.out ap.out (by decide))); have n9_ := am_ (Kd.N_afterv (ok := (fun k_ => (w.heap.size ≤ k_) ∧ some k_ ≠ (aD : Value).ownBlock ∧ some k_ ≠ (aC : Value).ownBlock ∧ k_ ≠ av ∧ k_ ≠ ar ∧ k_ ≠ au ∧ k_ ≠ aw ∧ k_ ≠ ao ∧ k_ ≠ aa)) (by refine rn_ ?_; exact Kd.N_mono bT.out (fun _ hk => ⟨⟨hk.1, ⟨hk.2.2.1, ⟨hk.2.2.2.1, ⟨hk.2.2.2.2.1, ⟨hk.2.2.2.2.2.1, ⟨hk.2.2.2.2.2.2.1, ⟨hk.2.2.2.2.2.2.2.1, ⟨hk.2.2.2.2.2.2.2.2.1, hk.2.2.2.2.2.2.2.2.2⟩⟩⟩⟩⟩⟩⟩⟩, hk.2.1⟩)) hg hat); have n10_ := am_ (hb); have n11_ := am_ (ho); clear ab; clear ai; clear ag; clear ad; clear ah; clear aj; clear am; clear an; clear ap; clear bT; clear HB; clear aA; have ab := n0_; have ai := n1_; have ag := n2_; have ad := n3_; have ah := n4_; have aj := n5_; have am := n6_; have an := n7_; have ap := n8_; have bT := n9_; have HB := n10_; have fN := n11_; clear n0_ n1_ n2_ n3_ n4_ n5_ n6_ n7_ n8_ n9_ n10_ n11_; clear ho hb hg hat))
                          go_roundg kj70
                          case measure => have := HJ2.out; have := HJ25.out; have := HK3.out; have := HK4.out; have := HJ70.out; omega
                          case rel => exact ⟨(ck), (fC), (wrap64 (aq + 1)), (by first | rfl | (simp; done) | (simp [*]; done)), H', ⟨by have := HJ2.out; have := HJ25.out; have := HK3.out; have := HK4.out; have := HJ70.out; omega⟩, ⟨by refine rn_ ?_; exact Kd.N_mono bT.out (fun _ hk => ⟨hk.1.1, ⟨hk.2, ⟨hk.1.2.1, ⟨hk.1.2.2.1, ⟨hk.1.2.2.2.1, ⟨hk.1.2.2.2.2.1, ⟨hk.1.2.2.2.2.2.1, ⟨hk.1.2.2.2.2.2.2.1, hk.1.2.2.2.2.2.2.2.1⟩⟩⟩⟩⟩⟩⟩⟩)⟩, ⟨by refine rr_ ?_; exact fN.out⟩, ⟨by refine rr_ ?_; exact ab.out⟩, ⟨by refine rr_ ?_; exact ai.out⟩, ⟨by refine rn_ ?_; exact Kd.N_mono ag.out (fun _ hk => ⟨hk.1.1, ⟨hk.1.2.2.2.1, ⟨hk.2, ⟨hk.1.2.1, ⟨hk.1.2.2.1, ⟨hk.1.2.2.2.2.1, ⟨hk.1.2.2.2.2.2.1, ⟨hk.1.2.2.2.2.2.2.1, ⟨hk.1.2.2.2.2.2.2.2.1, hk.1.2.2.2.2.2.2.2.2.1⟩⟩⟩⟩⟩⟩⟩⟩⟩)⟩, ⟨by refine rb_ ?_; exact ad.out⟩, ⟨by refine rb_ ?_; exact ah.out⟩, ⟨by refine rb_ ?_; exact aj.out⟩, ⟨by refine rb_ ?_; exact am.out⟩, ⟨by refine rb_ ?_; exact an.out⟩, ⟨by exact zp27_1_ HB.out ax.out ay.out az.out aE.out aG.out bc.out⟩⟩
                         ·rw [if_neg c110] at H
                          exact absurd H (by simp)
                        ·rw [if_neg c108] at H
                         exact absurd H (by simp)
                       ·rw [if_neg c107] at H
                        have c107b0 : decide (cY < 0) = false := decide_eq_false c107
                        clear c107
                        replace H := Option.bind_eq_some_iff.mp H
                        obtain ⟨dk, eY, H⟩ := H
                        have gG := am_ eY
                        clear eY
                        by_cases c126 : bi.length < 17592186044416
                        ·rw [if_pos c126] at H
                         have LMc126 := am_ c126
                         clear c126
                         obtain ⟨fD, hy464⟩ : ∃ y_ : List Int, y_ = (bi ++ [dk]) := ⟨_, rfl⟩
                         replace H : (spec_ConcatDfa.l1 kj70 af ae fD (wrap64 (aq + 1)) l0_0 l0_1 l1_0 l1_1 aK aJ) = some (r1, r2, r3) := by first | (rw [hy464]; with_reducible exact H) | (have H2_ := (Option.bind_some _ _).symm.trans H; rw [hy464]; with_reducible exact H2_) | (have H2_ := (Option.bind_some _ _).symm.trans H; with_reducible exact H2_) | with_reducible exact H | (rw [hy464]; exact H) | exact H
                         have fO := am_ hy464
                         clear hy464
                         have H' := am_ H
                         clear H
                         have hT := bw.out
                         have hU := aT.out
                         have hV := bx.out
                         have hW := aU.out
                         have hX := bz.out
                         have hY := bf.out
                         have hZ := bA.out
                         have ia := bg.out
                         have ib := bB.out
                         have ic := bh.out
                         have gH : wc.cell? ⟨aa, 0, none⟩ = some (.int .i64 (rd (rd_L1 l0_1 ((rd_T78 af ae).f0)) aq)) := (blk_cell ap.out 0).trans rfl
                         have gI := ck_ (v := (bQ)) ap 1 rfl
                         have gJ := ck_ (v := (.bool false)) ap 2 rfl
                         have gK := blk_frozen ap.out 0
                         have gL := blk_frozen ap.out 1
                         have gM := blk_frozen ap.out 2
                         obtain ⟨ci, cj, fP⟩ := Kd.R_slice aM.out
                         subst fP
                         go_wp2_with (first | ((with_reducible refine gate_callee (f := 75) rfl ?_); refine gL_ (some 78) Try.func75 #[.slice (some aI) af.length bE, .agg #[.int .i64 (rd (rd_L1 l0_1 ((rd_T78 af ae).f0)) aq), .slice ci aH.length cj, .bool false]] ?_; (with_reducible refine (spec_l6Find.calls kj70 _ _ af (rd (rd_L1 l0_1 ((rd_T78 af ae).f0)) aq) _ _ aH false cY _ ?side1 ?side2 ?side3 ?side4 fB.out).mono ?_); (case side1 => exact rc_ ((Kd.N_reads' al.out).2.2)); (case side2 => exact (Kd.N_reads' al.out).2.1); (case side3 => exact rc_ ((Kd.R_reads' aM.out).2.2)); (case side4 => exact (Kd.R_reads' aM.out).2.1); rintro e w134 ⟨rfl, hb⟩; refine ⟨_, rfl, ?_⟩; have n0_ := am_ (Kd.N_below (rn_ al.out) hb); have n1_ := am_ (Kd.R_below (rr_ aA.out) hb); have n2_ := am_ (Kd.R_below (rr_ ab.out) hb); have n3_ := am_ (Kd.R_below (rr_ ai.out) hb); have n4_ := am_ (Kd.N_below (rn_ ag.out) hb); have n5_ := am_ (Kd.R_below (rr_ aM.out) hb); have n6_ := am_ (blk_below (rb_ ad.out) hb); have n7_ := am_ (blk_below (rb_ ah.out) hb); have n8_ := am_ (blk_below (rb_ aj.out) hb); have n9_ := am_ (blk_below (rb_ am.out) hb); have n10_ := am_ (blk_below (rb_ an.out) hb); have n11_ := am_ (blk_below (rb_ ap.out) hb); have n12_ := am_ (below_step (zp27_1_ HB.out ax.out ay.out az.out aE.out aG.out bc.out) hb); clear al; clear aA; clear ab; clear ai; clear ag; clear aM; clear ad; clear ah; clear aj; clear am; clear an; clear ap; clear HB; have al := n0_; have aA := n1_; have ab := n2_; have ai := n3_; have ag := n4_; have aM := n5_; have ad := n6_; have ah := n7_; have aj := n8_; have am := n9_; have an := n10_; have ap := n11_; have HB := n12_; clear n0_ n1_ n2_ n3_ n4_ n5_ n6_ n7_ n8_ n9_ n10_ n11_ n12_; (try clear hb); (try clear hb2); (try clear hk); (try clear hi); have gN : w134.cell? ⟨aa, 0, none⟩ = some (.int .i64 (rd (rd_L1 l0_1 ((rd_T78 af ae).f0)) aq)) := (blk_cell ap.out 0).trans rfl; have gO := ck_ (v := (.slice ci aH.length cj)) ap 1 rfl; have gP := ck_ (v := (.bool false)) ap 2 rfl; have gQ := blk_frozen ap.out 0; have gR := blk_frozen ap.out 1; have gS := blk_frozen ap.out 2) | ((with_reducible refine gate_callee (f := 75) rfl ?_); refine gL_ (some 87) Try.func75 #[.slice (some aI) af.length bE, .agg #[.int .i64 (rd (rd_L1 l0_1 ((rd_T78 af ae).f0)) aq), .slice ci aH.length cj, .bool false]] ?_; (with_reducible refine (spec_l6Find.calls kj70 _ _ af (rd (rd_L1 l0_1 ((rd_T78 af ae).f0)) aq) _ _ aH false dk _ ?side1 ?side2 ?side3 ?side4 gG.out).mono ?_); (case side1 => exact rc_ ((Kd.N_reads' al.out).2.2)); (case side2 => exact (Kd.N_reads' al.out).2.1); (case side3 => exact rc_ ((Kd.R_reads' aM.out).2.2)); (case side4 => exact (Kd.R_reads' aM.out).2.1); rintro e w136 ⟨rfl, hb⟩; refine ⟨_, rfl, ?_⟩; have n0_ := am_ (Kd.N_below (rn_ al.out) hb); have n1_ := am_ (Kd.R_below (rr_ aA.out) hb); have n2_ := am_ (Kd.R_below (rr_ ab.out) hb); have n3_ := am_ (Kd.R_below (rr_ ai.out) hb); have n4_ := am_ (Kd.N_below (rn_ ag.out) hb); have n5_ := am_ (Kd.R_below (rr_ aM.out) hb); have n6_ := am_ (blk_below (rb_ ad.out) hb); have n7_ := am_ (blk_below (rb_ ah.out) hb); have n8_ := am_ (blk_below (rb_ aj.out) hb); have n9_ := am_ (blk_below (rb_ am.out) hb); have n10_ := am_ (blk_below (rb_ an.out) hb); have n11_ := am_ (blk_below (rb_ ap.out) hb); have n12_ := am_ (below_step (zp27_1_ HB.out ax.out ay.out az.out aE.out aG.out bc.out) hb); clear al; clear aA; clear ab; clear ai; clear ag; clear aM; clear ad; clear ah; clear aj; clear am; clear an; clear ap; clear HB; have al := n0_; have aA := n1_; have ab := n2_; have ai := n3_; have ag := n4_; have aM := n5_; have ad := n6_; have ah := n7_; have aj := n8_; have am := n9_; have an := n10_; have ap := n11_; have HB := n12_; clear n0_ n1_ n2_ n3_ n4_ n5_ n6_ n7_ n8_ n9_ n10_ n11_ n12_; (try clear hb); (try clear hb2); (try clear hk); (try clear hi)) | ((with_reducible refine gate_builtin (b := .append) (xs := #[.tmp 84, .tmp 88]) rfl ?_); at_builtin; refine Kd.R_append (Kd.int .i64) (w0 := w) w.heap.size rfl (.tmp 84) (.tmp 88) 67 3 (.int .i64 0) 8 rfl Try.underlying67 info3 rfl (by decide) (by omega) u10 bi dk [.int .i64 dk] (fun k_ => (w.heap.size ≤ k_) ∧ some k_ ≠ (.slice aQ ak.length aR : Value).ownBlock ∧ some k_ ≠ (.slice ci aH.length cj : Value).ownBlock) (fun _ => False) rfl rfl ?aP (fun _ hk => hk.elim) ?aF ?aO ?aB ?aS ?aL ?_; (case aP => exact rfl); (case aB => exact (zp27_1_ HB.out ax.out ay.out az.out aE.out aG.out bc.out)); (case aF => exact (fun k_ hk => ⟨(Nat.le_trans (below_size (zp27_1_ HB.out ax.out ay.out az.out aE.out aG.out bc.out)) hk), Kd.fresh' (Kd.R_lt (rr_ ab.out)) k_ hk, Kd.fresh' (Kd.R_lt (rr_ aM.out)) k_ hk⟩)); (case aO => exact (rr_ aA.out)); (case aS => exact (below_size (zp27_1_ HB.out ax.out ay.out az.out aE.out aG.out bc.out))); (case aL => have := LMc126.out; omega); intro kA w137 ho hb hg hat; rw [← fO.out] at ho; have n0_ := am_ (Kd.N_afterv (ok := (fun k_ => (w.heap.size ≤ k_) ∧ some k_ ≠ (aD : Value).ownBlock ∧ some k_ ≠ (aC : Value).ownBlock ∧ some k_ ≠ (.slice ci aH.length cj : Value).ownBlock ∧ k_ ≠ av ∧ k_ ≠ ar ∧ k_ ≠ au ∧ k_ ≠ aw ∧ k_ ≠ ao ∧ k_ ≠ aa)) (by refine rn_ ?_; exact Kd.N_mono al.out (fun _ hk => ⟨⟨hk.1, ⟨hk.2.2.1, ⟨hk.2.2.2.1, ⟨hk.2.2.2.2.1, ⟨hk.2.2.2.2.2.1, ⟨hk.2.2.2.2.2.2.1, ⟨hk.2.2.2.2.2.2.2.1, ⟨hk.2.2.2.2.2.2.2.2.1, ⟨hk.2.2.2.2.2.2.2.2.2.1, hk.2.2.2.2.2.2.2.2.2.2⟩⟩⟩⟩⟩⟩⟩⟩⟩, hk.2.1⟩)) hg hat); have n1_ := am_ (Kd.R_after (ok := (fun k_ => (w.heap.size ≤ k_) ∧ some k_ ≠ (.slice ci aH.length cj : Value).ownBlock)) (by refine rr_ ?_; exact Kd.R_mono ab.out (fun _ hk => ⟨⟨hk.1, hk.2.2⟩, hk.2.1⟩)) hg hat); have n2_ := am_ (Kd.R_over' (rr_ ai.out) (Kd.R_typed (rr_ aA.out)) (by decide) hg); have n3_ := am_ (Kd.N_afterv (ok := (fun k_ => (w.heap.size ≤ k_) ∧ some k_ ≠ (.slice (some aI) af.length bE : Value).ownBlock ∧ some k_ ≠ (.slice aQ ak.length aR : Value).ownBlock ∧ some k_ ≠ (aD : Value).ownBlock ∧ some k_ ≠ (.slice ci aH.length cj : Value).ownBlock ∧ k_ ≠ av ∧ k_ ≠ ar ∧ k_ ≠ au ∧ k_ ≠ aw ∧ k_ ≠ ao ∧ k_ ≠ aa)) (by refine rn_ ?_; exact Kd.N_mono ag.out (fun _ hk => ⟨⟨hk.1, ⟨hk.2.1, ⟨hk.2.2.2.1, ⟨hk.2.2.2.2.1, ⟨hk.2.2.2.2.2.1, ⟨hk.2.2.2.2.2.2.1, ⟨hk.2.2.2.2.2.2.2.1, ⟨hk.2.2.2.2.2.2.2.2.1, ⟨hk.2.2.2.2.2.2.2.2.2.1, ⟨hk.2.2.2.2.2.2.2.2.2.2.1, hk.2.2.2.2.2.2.2.2.2.2.2⟩⟩⟩⟩⟩⟩⟩⟩⟩⟩, hk.2.2.1⟩)) hg hat); have n4_ := am_ (Kd.R_after (ok := (fun k_ => (w.heap.size ≤ k_) ∧ some k_ ≠ (.slice aQ ak.length aR : Value).ownBlock)) (by refine rr_ ?_; exact Kd.R_mono aM.out (fun _ hk => ⟨⟨hk.1, hk.2.2⟩, hk.2.1⟩)) hg hat); have n5_ := am_ (blk_grown (g := av) (o := .cells #[.slice (some bk) l0_0.length c0_0, .slice (some bK) l0_1.length c0_1] 27 (0, 0)) (rb_ ad.out) hg (Kd.R_ne aA.out ad.out (by decide))); have n6_ := am_ (blk_grown (g := ar) (o := .cells #[.slice A1_0 l1_0.length c1_0, .slice A1_1 l1_1.length c1_1] 27 (0, 0)) (rb_ ah.out) hg (Kd.R_ne aA.out ah.out (by decide))); have n7_ := am_ (blk_grown (g := au) (o := .cells #[.slice none 0 0, .slice none 0 0] 27 (0, 0)) (rb_ aj.out) hg (Kd.R_ne aA.out aj.out (by decide))); have n8_ := am_ (blk_grown (g := aw) (o := .cells #[.int .i64 0, .slice aQ ak.length aR, .bool false] 78 (0, 0)) (rb_ am.out) hg (Kd.R_ne aA.out am.out (by decide))); have n9_ := am_ (blk_grown (g := ao) (o := .cells #[aD, aC] 27 (0, 0)) (rb_ an.out) hg (Kd.R_ne aA.out an.out (by decide))); have n10_ := am_ (blk_grown (g := aa) (o := .cells #[.int .i64 (rd (rd_L1 l0_1 ((rd_T78 af ae).f0)) aq), .slice ci aH.length cj, .bool false] 78 (0, 0)) (rb_ ap.out) hg (Kd.R_ne aA.out ap.out (by decide))); have n11_ := am_ (hb); have n12_ := am_ (ho); clear al; clear ab; clear ai; clear ag; clear aM; clear ad; clear ah; clear aj; clear am; clear an; clear ap; clear HB; clear aA; have al := n0_; have ab := n1_; have ai := n2_; have ag := n3_; have aM := n4_; have ad := n5_; have ah := n6_; have aj := n7_; have am := n8_; have an := n9_; have ap := n10_; have HB := n11_; have fQ := n12_; clear n0_ n1_ n2_ n3_ n4_ n5_ n6_ n7_ n8_ n9_ n10_ n11_ n12_; clear ho hb hg hat))
                         go_roundg kj70
                         case measure => have := HJ2.out; have := HJ25.out; have := HK3.out; have := HK4.out; have := HJ70.out; omega
                         case rel => exact ⟨(af), (fD), (wrap64 (aq + 1)), (by first | rfl | (simp; done) | (simp [*]; done)), H', ⟨by have := HJ2.out; have := HJ25.out; have := HK3.out; have := HK4.out; have := HJ70.out; omega⟩, ⟨by refine rn_ ?_; exact Kd.N_mono al.out (fun _ hk => ⟨hk.1.1, ⟨hk.2, ⟨hk.1.2.1, ⟨hk.1.2.2.1, ⟨hk.1.2.2.2.2.1, ⟨hk.1.2.2.2.2.2.1, ⟨hk.1.2.2.2.2.2.2.1, ⟨hk.1.2.2.2.2.2.2.2.1, hk.1.2.2.2.2.2.2.2.2.1⟩⟩⟩⟩⟩⟩⟩⟩)⟩, ⟨by refine rr_ ?_; exact Kd.R_mono fQ.out (fun _ hk => ⟨hk.1, hk.2.1⟩)⟩, ⟨by refine rr_ ?_; exact Kd.R_mono ab.out (fun _ hk => ⟨hk.1.1, hk.2⟩)⟩, ⟨by refine rr_ ?_; exact ai.out⟩, ⟨by refine rn_ ?_; exact Kd.N_mono ag.out (fun _ hk => ⟨hk.1.1, ⟨hk.1.2.1, ⟨hk.2, ⟨hk.1.2.2.1, ⟨hk.1.2.2.2.1, ⟨hk.1.2.2.2.2.2.1, ⟨hk.1.2.2.2.2.2.2.1, ⟨hk.1.2.2.2.2.2.2.2.1, ⟨hk.1.2.2.2.2.2.2.2.2.1, hk.1.2.2.2.2.2.2.2.2.2.1⟩⟩⟩⟩⟩⟩⟩⟩⟩)⟩, ⟨by refine rb_ ?_; exact ad.out⟩, ⟨by refine rb_ ?_; exact ah.out⟩, ⟨by refine rb_ ?_; exact aj.out⟩, ⟨by refine rb_ ?_; exact am.out⟩, ⟨by refine rb_ ?_; exact an.out⟩, ⟨by exact zp27_1_ HB.out ax.out ay.out az.out aE.out aG.out bc.out⟩⟩
                        ·rw [if_neg c126] at H
                         exact absurd H (by simp)
                    ·rw [if_neg c70] at H
                     exact absurd H (by simp)
                   ·rw [if_neg c69] at H
                    exact absurd H (by simp)
                  ·rw [if_neg c67] at H
                   exact absurd H (by simp)
                 ·rw [if_neg c66] at H
                  exact absurd H (by simp)
                ·rw [if_neg c65] at H
                 exact absurd H (by simp)
               ·rw [if_neg c64] at H
                exact absurd H (by simp)
              ·rw [if_neg c63] at H
               exact absurd H (by simp)
             ·rw [if_neg c62] at H
              exact absurd H (by simp)
            ·rw [if_neg c61] at H
             have c61b0 : decide (aq < 3) = false := decide_eq_false c61
             clear c61
             by_cases c138 : (af.length : Int) > 400
             ·rw [if_pos c138] at H
              have c138b0 : decide (400 < (af.length : Int)) = true := decide_eq_true c138
              have c138b1 : decide (400 < af.length) = true := decide_eq_true (by omega)
              clear c138
              simp only [Option.some.injEq, Prod.mk.injEq] at H
              obtain ⟨rfl, rfl, rfl⟩ := H
              obtain ⟨kn, ko, fR⟩ := Kd.N_slice al.out
              subst fR
              have id := bP.out
              have ie := bO.out
              have ig := ce.out
              have ih := cd.out
              have ii := br.out
              have ij := bV.out
              have ik := bG.out
              have il := bX.out
              have gT := ck_ (v := (.slice none 0 0)) aj 0 rfl
              have gU := ck_ (v := (.slice none 0 0)) aj 1 rfl
              have gV := blk_frozen aj.out 0
              have gW := blk_frozen aj.out 1
              go_wp2
              refine bodyPost_ret (results_ct rfl _ _ au 27 #[.slice none 0 0, .slice none 0 0] (0, 0) _ rfl (by refine rb_ ?_; refine blk_put (cs := #[.slice none 0 0, .slice none 0 0]) ?_ 1 _ rfl; refine rb_ ?_; refine blk_put (cs := #[.slice none 0 0, .slice none 0 0]) ?_ 0 _ rfl; refine rb_ ?_; exact aj.out) Try.underlying27 rfl (by kernel_rfl)) rfl ?_
              exact ⟨_, _, by first | rfl | (simp [errW_none, errW_some] <;> rfl) | (simp [*, errW_none, errW_some] <;> rfl), by first | exact Kd.R_nil _ _ _ _ _ | exact Kd.N_nil _ _ _ _ _ | exact Kd.V_nil _ _ _ _ _ | exact Kd.Q_nil _ _ _ _ _ | exact Kd.S_nil _ _ _ _ _, by first | exact Kd.S_nil _ _ _ _ _ | exact Kd.N_nil _ _ _ _ _ | exact Kd.V_nil _ _ _ _ _ | exact Kd.Q_nil _ _ _ _ _ | exact Kd.R_nil _ _ _ _ _, by exact zp27_0_ HB.out ax.out ay.out az.out aE.out aG.out⟩
             ·rw [if_neg c138] at H
              have c138b0 : decide (400 < (af.length : Int)) = false := decide_eq_false c138
              have c138b1 : decide (400 < af.length) = false := decide_eq_false (by omega)
              clear c138
              by_cases c145 : 0 ≤ ae
              ·rw [if_pos c145] at H
               have c145b0 : decide (0 ≤ ae) = true := decide_eq_true c145
               clear c145
               by_cases c146 : ae < (af.length : Int)
               ·rw [if_pos c146] at H
                have c146b0 : decide (ae < (af.length : Int)) = true := decide_eq_true c146
                clear c146
                replace H := Option.bind_eq_some_iff.mp H
                obtain ⟨dj, eZ, H⟩ := H
                have gX := am_ eZ
                clear eZ
                by_cases c148 : aK.length < 140737488355328
                ·rw [if_pos c148] at H
                 have LMc148 := am_ c148
                 clear c148
                 obtain ⟨aZ, hy437⟩ : ∃ y_ : List Bool, y_ = (aK ++ [dj]) := ⟨_, rfl⟩
                 replace H : (if aJ.length < 5864062014805 then (spec_ConcatDfa.l0 k4 af (wrap64 (ae + 1)) l0_0 l0_1 l1_0 l1_1 aZ (aJ ++ [bi])) else (none)) = some (r1, r2, r3) := by first | (rw [hy437]; with_reducible exact H) | (have H2_ := (Option.bind_some _ _).symm.trans H; rw [hy437]; with_reducible exact H2_) | (have H2_ := (Option.bind_some _ _).symm.trans H; with_reducible exact H2_) | with_reducible exact H | (rw [hy437]; exact H) | exact H
                 have fS := am_ hy437
                 clear hy437
                 by_cases c149 : aJ.length < 5864062014805
                 ·rw [if_pos c149] at H
                  have LMc149 := am_ c149
                  clear c149
                  obtain ⟨da, hy440⟩ : ∃ y_ : List (List Int), y_ = (aJ ++ [bi]) := ⟨_, rfl⟩
                  replace H : (spec_ConcatDfa.l0 k4 af (wrap64 (ae + 1)) l0_0 l0_1 l1_0 l1_1 aZ da) = some (r1, r2, r3) := by first | (rw [hy440]; with_reducible exact H) | (have H2_ := (Option.bind_some _ _).symm.trans H; rw [hy440]; with_reducible exact H2_) | (have H2_ := (Option.bind_some _ _).symm.trans H; with_reducible exact H2_) | with_reducible exact H | (rw [hy440]; exact H) | exact H
                  have fT := am_ hy440
                  clear hy440
                  have H' := am_ H
                  clear H
                  obtain ⟨kp, bU, fU⟩ := Kd.N_slice al.out
                  subst fU
                  try go_wp2
                  replace al := am_ (Kd.N_drew al.out)
                  replace aA := am_ (Kd.R_drew aA.out)
                  replace ab := am_ (Kd.R_drew ab.out)
                  replace ai := am_ (Kd.R_drew ai.out)
                  replace ag := am_ (Kd.N_drew ag.out)
                  replace ad := am_ (blk_drew ad.out)
                  replace ah := am_ (blk_drew ah.out)
                  replace aj := am_ (blk_drew aj.out)
                  replace am := am_ (blk_drew am.out)
                  replace an := am_ (blk_drew an.out)
                  replace HB := am_ (below_drew1 HB.out)
                  have p435 : 0 ≤ (ae : Int) := of_decide_eq_true ah_
                  have q435 : ae < (af.length : Int) := of_decide_eq_true ah_
                  obtain ⟨bL, A435_1, c435_1, e435, eg, dH, eh, hl435_1, hi435_1⟩ := at_T78 (Kd.N_reads' al.out).2.2 ae p435 q435
                  cases e435
                  obtain ⟨ce435, hce435, hMe435, hcc435⟩ := Kd.N_get al.out z78 ae p435 (by first | exact q435 | exact of_decide_eq_true ah_ | (have e_ := (Kd.N_reads' al.out).1; omega))
                  obtain ⟨ua435_1, uc435_1, rfl, ul435_1, ge435_1⟩ := k78_openF hMe435
                  have hv435_1 := hcc435 1 _ rfl
                  rw [add_field _ _ 1 (by omega)] at hv435_1
                  replace hv435_1 := Option.some.inj (hv435_1.symm.trans dH)
                  injection hv435_1 with hva_ hvn_ hvc_
                  rw [hva_] at ge435_1
                  rw [hvc_] at ul435_1
                  have bH := am_ (show Kd.V (Kd.int .i64) 3 _ w.heap.size _ _ ((rd_T78 af ae).f1) from Kd.V_mk ul435_1 ge435_1)
                  clear hva_ hvn_ hvc_ ge435_1 ul435_1 hcc435 hce435
                  have ca := am_ hi435_1
                  have fq := am_ hl435_1
                  clear hi435_1 hl435_1
                  replace p435 := eq_true p435
                  replace q435 := eq_true q435
                  refine start_ (n := 13) (S := fun w' => w'.cell? ⟨ao, 0, none⟩ = some (aD) ∧ w'.cell? ⟨ao, 1, none⟩ = some (aC) ∧ w'.cell? ⟨ar, 0, none⟩ = some (.slice A1_0 l1_0.length c1_0) ∧ w'.cell? ⟨ar, 1, none⟩ = some (.slice A1_1 l1_1.length c1_1) ∧ w'.cell? (bL.add ((ae).toNat * 3)) = some (.int .i64 ((rd_T78 af ae).f0)) ∧ w'.cell? ⟨(bL.add ((ae).toNat * 3)).block, (bL.add ((ae).toNat * 3)).off + 1, none⟩ = some (.slice A435_1 ((rd_T78 af ae).f1).length c435_1) ∧ w'.cell? ⟨(bL.add ((ae).toNat * 3)).block, (bL.add ((ae).toNat * 3)).off + 2, none⟩ = some (.bool ((rd_T78 af ae).f2))) (ds := [10, 12]) (bl 13 0) (by kernel_rfl) rfl rfl ⟨(blk_cell an.out 0).trans rfl, (blk_cell an.out 1).trans rfl, (blk_cell ah.out 0).trans rfl, (blk_cell ah.out 1).trans rfl, eg, dH, eh⟩ (fun hHeld => ?_); refine with_tabW spec_ConcatDfa.tab23 spec_ConcatDfa.bits23 (fun HT_ HW_ => ?_)
                  generalize wr.drew = w151 at al aA ab ai ag ad ah aj am an HB bH ca eg dH eh hHeld ⊢
                  refine pu_ 0 94 (bl 13 1) HT_ ?_
                  refine pu_ 3 97 (bl 13 9) HT_ ?_
                  refine pu_ 4 98 (bl 13 25) HT_ ?_
                  refine pu_ 5 99 (bl 13 57) HT_ ?_
                  refine pu_ 6 100 (bl 13 121) HT_ ?_
                  refine tk_ 1 95 (bl 13 123) HT_ HW_ hHeld ?_
                  refine tk_ 2 96 (bl 13 127) HT_ HW_ hHeld ?_
                  refine tk_ 7 101 (bl 13 255) HT_ HW_ hHeld ?_
                  refine on_ 8 (some 102) (bl 13 511) HT_ (fun K hK => ?_)
                  refine gO_ Try.func76 #[.agg #[.slice A1_0 l1_0.length c1_0, .slice A1_1 l1_1.length c1_1], .slice A435_1 ((rd_T78 af ae).f1).length c435_1] ?_
                  with_reducible refine (spec_l6Any.calls k4 _ _ l1_0 _ _ l1_1 _ _ ((rd_T78 af ae).f1) dj _ ?side1 ?side2 ?side3 ?side4 ?side5 ?side6 gX.out).mono ?_
                  (case side1 => exact rc_ (Kd.C_below dJ.out HB.out))
                  (case side2 => exact dK.out)
                  (case side3 => exact rc_ (Kd.C_below dL.out HB.out))
                  (case side4 => exact dM.out)
                  (case side5 => exact rc_ (by repeat (first | (with_reducible exact ca.out) | (with_reducible refine Kd.C_alloc ?_ _) | (with_reducible refine Kd.C_drewN ?_ _) | (with_reducible refine Kd.C_drew ?_) | exact ca.out)))
                  (case side6 => exact fq.out)
                  rintro e w152 ⟨rfl, hb⟩
                  have cq := (hb.cell (World.block_lt_of_cell? _ _ (hHeld.2.2.2.2.1))).trans (hHeld.2.2.2.2.1)
                  have cr := (hb.cell (World.block_lt_of_cell? _ _ (hHeld.2.2.2.2.2.1))).trans (hHeld.2.2.2.2.2.1)
                  have ct := (hb.cell (World.block_lt_of_cell? _ _ (hHeld.2.2.2.2.2.2))).trans (hHeld.2.2.2.2.2.2)
                  refine ⟨_, rfl, ?_⟩
                  replace al := am_ (Kd.N_below (rn_ al.out) hb)
                  replace aA := am_ (Kd.R_below (rr_ aA.out) hb)
                  replace ab := am_ (Kd.R_below (rr_ ab.out) hb)
                  replace ai := am_ (Kd.R_below (rr_ ai.out) hb)
                  replace ag := am_ (Kd.N_below (rn_ ag.out) hb)
                  replace bH := am_ (Kd.V_below (rv_ bH.out) hb)
                  replace ad := am_ (blk_below (rb_ ad.out) hb)
                  replace ah := am_ (blk_below (rb_ ah.out) hb)
                  replace aj := am_ (blk_below (rb_ aj.out) hb)
                  replace am := am_ (blk_below (rb_ am.out) hb)
                  replace an := am_ (blk_below (rb_ an.out) hb)
                  replace ca := am_ (Kd.C_below (by repeat (first | (with_reducible exact ca.out) | (with_reducible refine Kd.C_alloc ?_ _) | (with_reducible refine Kd.C_drewN ?_ _) | (with_reducible refine Kd.C_drew ?_) | exact ca.out)) hb)
                  replace HB := am_ (below_step (zp27_0_ HB.out ax.out ay.out az.out aE.out aG.out) hb)
                  (try clear hb)
                  (try clear hb2)
                  (try clear hk)
                  (try clear hi)
                  refine hK.out _ _ ⟨(blk_cell an.out 0).trans rfl, (blk_cell an.out 1).trans rfl, (blk_cell ah.out 0).trans rfl, (blk_cell ah.out 1).trans rfl, cq, cr, ct⟩ (fun hHeld => ?_)
                  clear hK K
                  refine norm_ (a' := ?_) ?_ ?_
                  rotate_left
                  ·show Act.put _ (some 102) _ = _
                   simp only [pn_, sz_, ss_, i64_w, i32_w]
                   rfl
                  refine on_ 9 (some 103) (bl 13 1023) HT_ (fun K hK => ?_)
                  refine value_ (w1 := ?_) (v := ?_) (by rfl) rfl ?_ ?_
                  rotate_left 2
                  ·go_simp
                   constructor
                   ·rfl
                   ·rfl
                  refine hK.out _ _ ⟨(blk_cell (blk_alloc an.out _) 0).trans rfl, (blk_cell (blk_alloc an.out _) 1).trans rfl, (blk_cell (blk_alloc ah.out _) 0).trans rfl, (blk_cell (blk_alloc ah.out _) 1).trans rfl, (World.cell?_alloc_lt _ _ _ (World.block_lt_of_cell? _ _ (hHeld.2.2.2.2.1))).trans (hHeld.2.2.2.2.1), (World.cell?_alloc_lt _ _ _ (World.block_lt_of_cell? _ _ (hHeld.2.2.2.2.2.1))).trans (hHeld.2.2.2.2.2.1), (World.cell?_alloc_lt _ _ _ (World.block_lt_of_cell? _ _ (hHeld.2.2.2.2.2.2))).trans (hHeld.2.2.2.2.2.2)⟩ (fun hHeld => ?_)
                  clear hK K
                  refine norm_ (a' := ?_) ?_ ?_
                  rotate_left
                  ·show Act.put _ (some 103) _ = _
                   simp only [pn_, sz_, ss_, i64_w, i32_w]
                   rfl
                  refine last_ (i := 10) (N := some 104) (bl 13 2047) rfl rfl (one_of HT_.out (by kernel_rfl)) (by decide) (fun K hK => ?_)
                  refine Kd.R_append_step Kd.bool (w0 := w) w.heap.size (by rfl) (.tmp 95) (.tmp 103) 22 4 (.bool false) 1 rfl Try.underlying22 info4 rfl (by decide) (by omega) aD aK dj [.bool dj] (fun k_ => (w.heap.size ≤ k_)) (fun _ => False) rfl rfl ?aP (fun _ hk => hk.elim) ?aF ?aO ?aB ?aS ?aL ?_
                  (case aP => exact rfl)
                  (case aB => exact (zp27_0_ HB.out ax.out ay.out az.out aE.out aG.out))
                  (case aF => exact (fun k_ hk => (Nat.le_trans (below_size (zp27_0_ HB.out ax.out ay.out az.out aE.out aG.out)) hk)))
                  (case aO => exact (rr_ ai.out))
                  (case aS => exact (below_size (zp27_0_ HB.out ax.out ay.out az.out aE.out aG.out)))
                  (case aL => have := LMc148.out; omega)
                  intro kB w153 ho hb hg hat
                  rw [← fS.out] at ho
                  replace al := am_ (Kd.N_afterv (ok := (fun k_ => (w.heap.size ≤ k_) ∧ some k_ ≠ (u10 : Value).ownBlock ∧ some k_ ≠ (aC : Value).ownBlock ∧ k_ ≠ av ∧ k_ ≠ ar ∧ k_ ≠ au ∧ k_ ≠ aw ∧ k_ ≠ ao)) (by refine rn_ ?_; exact Kd.N_mono al.out (fun _ hk => ⟨⟨hk.1, ⟨hk.2.1, ⟨hk.2.2.2.1, ⟨hk.2.2.2.2.1, ⟨hk.2.2.2.2.2.1, ⟨hk.2.2.2.2.2.2.1, ⟨hk.2.2.2.2.2.2.2.1, hk.2.2.2.2.2.2.2.2⟩⟩⟩⟩⟩⟩⟩, hk.2.2.1⟩)) hg hat)
                  replace aA := am_ (Kd.R_over' (rr_ aA.out) (Kd.R_typed (rr_ ai.out)) (by decide) hg)
                  replace ab := am_ (Kd.R_over' (rr_ ab.out) (Kd.R_typed (rr_ ai.out)) (by decide) hg)
                  replace ag := am_ (Kd.N_afterv (ok := (fun k_ => (w.heap.size ≤ k_) ∧ some k_ ≠ (.slice (some bL) af.length bU : Value).ownBlock ∧ some k_ ≠ (u10 : Value).ownBlock ∧ some k_ ≠ (.slice aQ ak.length aR : Value).ownBlock ∧ k_ ≠ av ∧ k_ ≠ ar ∧ k_ ≠ au ∧ k_ ≠ aw ∧ k_ ≠ ao)) (by refine rn_ ?_; exact Kd.N_mono ag.out (fun _ hk => ⟨⟨hk.1, ⟨hk.2.1, ⟨hk.2.2.1, ⟨hk.2.2.2.1, ⟨hk.2.2.2.2.2.1, ⟨hk.2.2.2.2.2.2.1, ⟨hk.2.2.2.2.2.2.2.1, ⟨hk.2.2.2.2.2.2.2.2.1, hk.2.2.2.2.2.2.2.2.2⟩⟩⟩⟩⟩⟩⟩⟩, hk.2.2.2.2.1⟩)) hg hat)
                  replace ad := am_ (blk_grown (g := av) (o := .cells #[.slice (some bk) l0_0.length c0_0, .slice A0_1 l0_1.length c0_1] 27 (0, 0)) (rb_ ad.out) hg (Kd.R_ne ai.out ad.out (by decide)))
                  replace ah := am_ (blk_grown (g := ar) (o := .cells #[.slice A1_0 l1_0.length c1_0, .slice A1_1 l1_1.length c1_1] 27 (0, 0)) (rb_ ah.out) hg (Kd.R_ne ai.out ah.out (by decide)))
                  replace aj := am_ (blk_grown (g := au) (o := .cells #[.slice none 0 0, .slice none 0 0] 27 (0, 0)) (rb_ aj.out) hg (Kd.R_ne ai.out aj.out (by decide)))
                  replace am := am_ (blk_grown (g := aw) (o := .cells #[.int .i64 0, .slice aQ ak.length aR, .bool false] 78 (0, 0)) (rb_ am.out) hg (Kd.R_ne ai.out am.out (by decide)))
                  replace an := am_ (blk_grown (g := ao) (o := .cells #[aD, aC] 27 (0, 0)) (rb_ an.out) hg (Kd.R_ne ai.out an.out (by decide)))
                  replace bH := am_ (Kd.V_afterv (ok := (fun k_ => (w.heap.size ≤ k_) ∧ some k_ ≠ (.slice (some bL) af.length bU : Value).ownBlock ∧ some k_ ≠ (u10 : Value).ownBlock ∧ some k_ ≠ (aC : Value).ownBlock ∧ k_ ≠ av ∧ k_ ≠ ar ∧ k_ ≠ au ∧ k_ ≠ aw ∧ k_ ≠ ao)) (by refine rv_ ?_; exact Kd.V_mono bH.out (fun _ hk => ⟨⟨hk.1.1, ⟨hk.2, ⟨hk.1.2.1, ⟨hk.1.2.2.2.1, ⟨hk.1.2.2.2.2.1, ⟨hk.1.2.2.2.2.2.1, ⟨hk.1.2.2.2.2.2.2.1, ⟨hk.1.2.2.2.2.2.2.2.1, hk.1.2.2.2.2.2.2.2.2⟩⟩⟩⟩⟩⟩⟩⟩, hk.1.2.2.1⟩)) hg hat)
                  replace HB := am_ (hb)
                  replace bS := am_ (ho)
                  clear ai ho hb hg hat
                  obtain ⟨aV, aW, fa⟩ := Kd.R_slice bS.out
                  (first | subst fa | (injection fa with f1_ f2_ f3_; have f4_ := f1_.symm; have f5_ := f3_.symm; clear f1_ f2_ f3_; subst f4_; subst f5_))
                  refine hK.out _ _ ?_
                  clear hK K
                  refine norm_ (a' := ?_) ?_ ?_
                  rotate_left
                  ·show Act.put _ (some 104) _ = _
                   simp only [pn_, sz_, ss_, i64_w, i32_w]
                   rfl
                  refine pu_ 11 105 (bl 13 4095) HT_ ?_
                  refine last_ (i := 12) (N := none) (bl 13 8191) rfl rfl (one_of HT_.out (by kernel_rfl)) (by decide) (fun K hK => ?_)
                  have hs155 : w153.cell? ⟨ao, 0, none⟩ = some (aD) := (blk_cell an.out 0).trans rfl
                  have hfs155 := blk_frozen an.out 0
                  have hns155_0 := bF.out
                  have hns155_1 := bI.out
                  have hns155_2 := bG.out
                  have hns155_3 := bJ.out
                  have hms155_0 := bW.out
                  have hms155_1 := cg.out
                  have hms155_2 := bX.out
                  have hms155_3 := ch.out
                  refine skip_ (w1 := ?_) (by rfl) rfl ?_ ?_
                  rotate_left
                  ·go_simp
                   rfl
                  refine hK.out _ _ ?_
                  clear hK K
                  refine done_ (done_of HT_.out (by kernel_rfl)) ?_
                  have n0_ : Aside0 (Kd.N k78 78 (w153.setCell ⟨ao, 0, none⟩ (.slice aV aZ.length aW)) w.heap.size (fun k_ => (w.heap.size ≤ k_) ∧ some k_ ≠ (u10 : Value).ownBlock ∧ some k_ ≠ (aC : Value).ownBlock ∧ some k_ ≠ (.slice aV aZ.length aW : Value).ownBlock ∧ k_ ≠ av ∧ k_ ≠ ar ∧ k_ ≠ au ∧ k_ ≠ aw ∧ k_ ≠ ao) (.slice (some bL) af.length bU) af) := ⟨by refine rn_ ?_; exact Kd.N_mono (Kd.N_far (p := ⟨ao, 0, none⟩) (Kd.N_mono al.out (fun k_ hk => (⟨hk, hk.1.2.2.2.2.2.2.2⟩ : _ ∧ k_ ≠ ao))) (fun _ hk => hk.2) (.slice aV aZ.length aW)) (fun _ hk => ⟨hk.1.1.1, ⟨hk.1.1.2.1, ⟨hk.1.1.2.2.1, ⟨hk.1.2, ⟨hk.1.1.2.2.2.1, ⟨hk.1.1.2.2.2.2.1, ⟨hk.1.1.2.2.2.2.2.1, ⟨hk.1.1.2.2.2.2.2.2.1, hk.1.1.2.2.2.2.2.2.2⟩⟩⟩⟩⟩⟩⟩⟩)⟩
                  have n1_ : Aside0 (Kd.R (Kd.int .i64) 3 (w153.setCell ⟨ao, 0, none⟩ (.slice aV aZ.length aW)) w.heap.size (fun k_ => (w.heap.size ≤ k_) ∧ some k_ ≠ (.slice aQ ak.length aR : Value).ownBlock) u10 bi) := ⟨by refine rr_ ?_; exact Kd.R_mono (Kd.R_far (p := ⟨ao, 0, none⟩) (Kd.R_types aA.out an.out (by decide)) (fun _ hk => hk.2) (.slice aV aZ.length aW)) (fun _ hk => ⟨hk.1.1, hk.1.2⟩)⟩
                  have n2_ : Aside0 (Kd.R (Kd.int .i64) 3 (w153.setCell ⟨ao, 0, none⟩ (.slice aV aZ.length aW)) w.heap.size (fun k_ => (w.heap.size ≤ k_) ∧ some k_ ≠ (u10 : Value).ownBlock) (.slice aQ ak.length aR) ak) := ⟨by refine rr_ ?_; exact Kd.R_mono (Kd.R_far (p := ⟨ao, 0, none⟩) (Kd.R_types ab.out an.out (by decide)) (fun _ hk => hk.2) (.slice aV aZ.length aW)) (fun _ hk => ⟨hk.1.1, hk.1.2⟩)⟩
                  have n3_ : Aside0 (Kd.N (Kd.slice 3 (Kd.int .i64)) 67 (w153.setCell ⟨ao, 0, none⟩ (.slice aV aZ.length aW)) w.heap.size (fun k_ => (w.heap.size ≤ k_) ∧ some k_ ≠ (.slice (some bL) af.length bU : Value).ownBlock ∧ some k_ ≠ (u10 : Value).ownBlock ∧ some k_ ≠ (.slice aQ ak.length aR : Value).ownBlock ∧ some k_ ≠ (.slice aV aZ.length aW : Value).ownBlock ∧ k_ ≠ av ∧ k_ ≠ ar ∧ k_ ≠ au ∧ k_ ≠ aw ∧ k_ ≠ ao) aC aJ) := ⟨by refine rn_ ?_; exact Kd.N_mono (Kd.N_far (p := ⟨ao, 0, none⟩) (Kd.N_mono ag.out (fun k_ hk => (⟨hk, hk.1.2.2.2.2.2.2.2.2⟩ : _ ∧ k_ ≠ ao))) (fun _ hk => hk.2) (.slice aV aZ.length aW)) (fun _ hk => ⟨hk.1.1.1, ⟨hk.1.1.2.1, ⟨hk.1.1.2.2.1, ⟨hk.1.1.2.2.2.1, ⟨hk.1.2, ⟨hk.1.1.2.2.2.2.1, ⟨hk.1.1.2.2.2.2.2.1, ⟨hk.1.1.2.2.2.2.2.2.1, ⟨hk.1.1.2.2.2.2.2.2.2.1, hk.1.1.2.2.2.2.2.2.2.2⟩⟩⟩⟩⟩⟩⟩⟩⟩)⟩
                  have n4_ : Aside0 (Kd.V (Kd.int .i64) 3 (w153.setCell ⟨ao, 0, none⟩ (.slice aV aZ.length aW)) w.heap.size (fun k_ => (w.heap.size ≤ k_) ∧ some k_ ≠ (.slice (some bL) af.length bU : Value).ownBlock ∧ some k_ ≠ (u10 : Value).ownBlock ∧ some k_ ≠ (aC : Value).ownBlock ∧ some k_ ≠ (.slice aV aZ.length aW : Value).ownBlock ∧ k_ ≠ av ∧ k_ ≠ ar ∧ k_ ≠ au ∧ k_ ≠ aw ∧ k_ ≠ ao) (.slice A435_1 ((rd_T78 af ae).f1).length c435_1) ((rd_T78 af ae).f1)) := ⟨by refine rv_ ?_; exact Kd.V_mono (Kd.V_far (p := ⟨ao, 0, none⟩) (Kd.V_mono bH.out (fun k_ hk => (⟨hk, hk.1.2.2.2.2.2.2.2.2⟩ : _ ∧ k_ ≠ ao))) (fun _ hk => hk.2) (.slice aV aZ.length aW)) (fun _ hk => ⟨hk.1.1.1, ⟨hk.1.1.2.1, ⟨hk.1.1.2.2.1, ⟨hk.1.1.2.2.2.1, ⟨hk.1.2, ⟨hk.1.1.2.2.2.2.1, ⟨hk.1.1.2.2.2.2.2.1, ⟨hk.1.1.2.2.2.2.2.2.1, ⟨hk.1.1.2.2.2.2.2.2.2.1, hk.1.1.2.2.2.2.2.2.2.2⟩⟩⟩⟩⟩⟩⟩⟩⟩)⟩
                  have n5_ : Aside0 (Kd.R Kd.bool 4 (w153.setCell ⟨ao, 0, none⟩ (.slice aV aZ.length aW)) w.heap.size (fun k_ => (w.heap.size ≤ k_)) (.slice aV aZ.length aW) aZ) := ⟨by refine rr_ ?_; exact Kd.R_mono (Kd.R_far (p := ⟨ao, 0, none⟩) (Kd.R_types bS.out an.out (by decide)) (fun _ hk => hk.2) (.slice aV aZ.length aW)) (fun _ hk => hk.1)⟩
                  have n6_ : Aside0 ((w153.setCell ⟨ao, 0, none⟩ (.slice aV aZ.length aW)).heap[av]? = some (.cells #[.slice (some bk) l0_0.length c0_0, .slice A0_1 l0_1.length c0_1] 27 (0, 0))) := ⟨by refine rb_ ?_; refine blk_far ?_ bF.out _; refine rb_ ?_; exact ad.out⟩
                  have n7_ : Aside0 ((w153.setCell ⟨ao, 0, none⟩ (.slice aV aZ.length aW)).heap[ar]? = some (.cells #[.slice A1_0 l1_0.length c1_0, .slice A1_1 l1_1.length c1_1] 27 (0, 0))) := ⟨by refine rb_ ?_; refine blk_far ?_ bI.out _; refine rb_ ?_; exact ah.out⟩
                  have n8_ : Aside0 ((w153.setCell ⟨ao, 0, none⟩ (.slice aV aZ.length aW)).heap[au]? = some (.cells #[.slice none 0 0, .slice none 0 0] 27 (0, 0))) := ⟨by refine rb_ ?_; refine blk_far ?_ bG.out _; refine rb_ ?_; exact aj.out⟩
                  have n9_ : Aside0 ((w153.setCell ⟨ao, 0, none⟩ (.slice aV aZ.length aW)).heap[aw]? = some (.cells #[.int .i64 0, .slice aQ ak.length aR, .bool false] 78 (0, 0))) := ⟨by refine rb_ ?_; refine blk_far ?_ bJ.out _; refine rb_ ?_; exact am.out⟩
                  have n10_ : Aside0 ((w153.setCell ⟨ao, 0, none⟩ (.slice aV aZ.length aW)).heap[ao]? = some (.cells #[.slice aV aZ.length aW, aC] 27 (0, 0))) := ⟨by refine rb_ ?_; refine blk_put (cs := #[aD, aC]) ?_ 0 _ rfl; refine rb_ ?_; exact an.out⟩
                  have n11_ : Aside0 (Below w.heap.size w (w153.setCell ⟨ao, 0, none⟩ (.slice aV aZ.length aW))) := ⟨by exact zp27_0_ HB.out ax.out ay.out az.out aE.out aG.out⟩
                  (try clear al)
                  (try clear aA)
                  (try clear ab)
                  (try clear ag)
                  (try clear bH)
                  (try clear bS)
                  (try clear ad)
                  (try clear ah)
                  (try clear aj)
                  (try clear am)
                  (try clear an)
                  (try clear HB)
                  generalize (w153.setCell ⟨ao, 0, none⟩ (.slice aV aZ.length aW)) = w156 at n0_ n1_ n2_ n3_ n4_ n5_ n6_ n7_ n8_ n9_ n10_ n11_ ⊢
                  have al := n0_; have aA := n1_; have ab := n2_; have ag := n3_; have bH := n4_; have bS := n5_; have ad := n6_; have ah := n7_; have aj := n8_; have am := n9_; have an := n10_; have HB := n11_
                  clear n0_ n1_ n2_ n3_ n4_ n5_ n6_ n7_ n8_ n9_ n10_ n11_
                  have im := bW.out
                  have io := bF.out
                  have ip := cg.out
                  have iq := bI.out
                  have ir := bX.out
                  have is := bG.out
                  have it := ch.out
                  have iu := bJ.out
                  have gY := ck_ (v := (.slice aV aZ.length aW)) an 0 rfl
                  have gZ := ck_ (v := (aC)) an 1 rfl
                  have ha := blk_frozen an.out 0
                  have hc := blk_frozen an.out 1
                  obtain ⟨em, en, fV⟩ := Kd.R_slice aA.out
                  subst fV
                  try go_wp2_with (first | ((with_reducible refine gate_builtin (b := .append) (xs := #[.tmp 107, .tmp 109]) rfl ?_); at_builtin; refine Kd.N_append (Kd.slice 3 (Kd.int .i64)) (w0 := w) w.heap.size rfl (.tmp 107) (.tmp 109) 23 67 (.slice none 0 0) 24 rfl Try.underlying23 info67 rfl (by decide) (by omega) aC aJ bi [.slice em bi.length en] (fun k_ => (w.heap.size ≤ k_) ∧ some k_ ≠ (.slice (some bL) af.length bU : Value).ownBlock ∧ some k_ ≠ (.slice aQ ak.length aR : Value).ownBlock ∧ some k_ ≠ (.slice aV aZ.length aW : Value).ownBlock ∧ k_ ≠ av ∧ k_ ≠ ar ∧ k_ ≠ au ∧ k_ ≠ aw ∧ k_ ≠ ao) (fun k_ => ((fun k_ => (w.heap.size ≤ k_) ∧ some k_ ≠ (.slice (some bL) af.length bU : Value).ownBlock ∧ some k_ ≠ (.slice aQ ak.length aR : Value).ownBlock ∧ some k_ ≠ (.slice aV aZ.length aW : Value).ownBlock ∧ k_ ≠ av ∧ k_ ≠ ar ∧ k_ ≠ au ∧ k_ ≠ aw ∧ k_ ≠ ao)) k_ ∧ some k_ ≠ (aC : Value).ownBlock) rfl rfl ?aP (fun _ hk => hk) ?aF ?aO ?aB ?aS ?aL ?_; (case aP => exact (Kd.FK_slice_mk (Kd.R_reads' (Kd.R_mono (ok' := (fun k_ => ((fun k_ => (w.heap.size ≤ k_) ∧ some k_ ≠ (.slice (some bL) af.length bU : Value).ownBlock ∧ some k_ ≠ (.slice aQ ak.length aR : Value).ownBlock ∧ some k_ ≠ (.slice aV aZ.length aW : Value).ownBlock ∧ k_ ≠ av ∧ k_ ≠ ar ∧ k_ ≠ au ∧ k_ ≠ aw ∧ k_ ≠ ao)) k_ ∧ some k_ ≠ (aC : Value).ownBlock)) (Kd.R_types (Kd.R_types (Kd.R_types (Kd.R_types (Kd.R_types (Kd.R_apart' (Kd.R_apart' (Kd.R_apart' (aA.out) (Kd.N_typed al.out) (by decide)) (Kd.R_typed bS.out) (by decide)) (Kd.N_typed ag.out) (by decide)) ad.out (by decide)) ah.out (by decide)) aj.out (by decide)) am.out (by decide)) an.out (by decide)) (fun k_ hk => ⟨⟨hk.1.1.1.1.1.1.1.1.1, ⟨hk.1.1.1.1.1.1.1.2, ⟨hk.1.1.1.1.1.1.1.1.2, ⟨hk.1.1.1.1.1.1.2, ⟨hk.1.1.1.1.2, ⟨hk.1.1.1.2, ⟨hk.1.1.2, ⟨hk.1.2, hk.2⟩⟩⟩⟩⟩⟩⟩⟩, hk.1.1.1.1.1.2⟩))).2.1 (Kd.R_F (Kd.R_mono (ok' := (fun k_ => ((fun k_ => (w.heap.size ≤ k_) ∧ some k_ ≠ (.slice (some bL) af.length bU : Value).ownBlock ∧ some k_ ≠ (.slice aQ ak.length aR : Value).ownBlock ∧ some k_ ≠ (.slice aV aZ.length aW : Value).ownBlock ∧ k_ ≠ av ∧ k_ ≠ ar ∧ k_ ≠ au ∧ k_ ≠ aw ∧ k_ ≠ ao)) k_ ∧ some k_ ≠ (aC : Value).ownBlock)) (Kd.R_types (Kd.R_types (Kd.R_types (Kd.R_types (Kd.R_types (Kd.R_apart' (Kd.R_apart' (Kd.R_apart' (aA.out) (Kd.N_typed al.out) (by decide)) (Kd.R_typed bS.out) (by decide)) (Kd.N_typed ag.out) (by decide)) ad.out (by decide)) ah.out (by decide)) aj.out (by decide)) am.out (by decide)) an.out (by decide)) (fun k_ hk => ⟨⟨hk.1.1.1.1.1.1.1.1.1, ⟨hk.1.1.1.1.1.1.1.2, ⟨hk.1.1.1.1.1.1.1.1.2, ⟨hk.1.1.1.1.1.1.2, ⟨hk.1.1.1.1.2, ⟨hk.1.1.1.2, ⟨hk.1.1.2, ⟨hk.1.2, hk.2⟩⟩⟩⟩⟩⟩⟩⟩, hk.1.1.1.1.1.2⟩))))); (case aB => exact (zp27_0_ HB.out ax.out ay.out az.out aE.out aG.out)); (case aF => exact (fun k_ hk => ⟨(Nat.le_trans (below_size (zp27_0_ HB.out ax.out ay.out az.out aE.out aG.out)) hk), Kd.fresh' (Kd.N_lt (rn_ al.out)) k_ hk, Kd.fresh' (Kd.R_lt (rr_ ab.out)) k_ hk, Kd.fresh' (Kd.R_lt (rr_ bS.out)) k_ hk, Kd.freshB (g := av) (o := .cells #[.slice (some bk) l0_0.length c0_0, .slice A0_1 l0_1.length c0_1] 27 (0, 0)) (rb_ ad.out) k_ hk, Kd.freshB (g := ar) (o := .cells #[.slice A1_0 l1_0.length c1_0, .slice A1_1 l1_1.length c1_1] 27 (0, 0)) (rb_ ah.out) k_ hk, Kd.freshB (g := au) (o := .cells #[.slice none 0 0, .slice none 0 0] 27 (0, 0)) (rb_ aj.out) k_ hk, Kd.freshB (g := aw) (o := .cells #[.int .i64 0, .slice aQ ak.length aR, .bool false] 78 (0, 0)) (rb_ am.out) k_ hk, Kd.freshB (g := ao) (o := .cells #[.slice aV aZ.length aW, aC] 27 (0, 0)) (rb_ an.out) k_ hk⟩)); (case aO => exact (by refine rn_ ?_; exact Kd.N_mono ag.out (fun _ hk => ⟨hk.1, ⟨hk.2.1, ⟨hk.2.2.2.1, ⟨hk.2.2.2.2.1, ⟨hk.2.2.2.2.2.1, ⟨hk.2.2.2.2.2.2.1, ⟨hk.2.2.2.2.2.2.2.1, ⟨hk.2.2.2.2.2.2.2.2.1, hk.2.2.2.2.2.2.2.2.2⟩⟩⟩⟩⟩⟩⟩⟩))); (case aS => exact (below_size (zp27_0_ HB.out ax.out ay.out az.out aE.out aG.out))); (case aL => have := LMc149.out; omega); intro kC w162 ho hb hg hat; rw [← fT.out] at ho; have n0_ := am_ (Kd.N_afterv (ok := (fun k_ => (w.heap.size ≤ k_) ∧ some k_ ≠ (.slice em bi.length en : Value).ownBlock ∧ some k_ ≠ (.slice aV aZ.length aW : Value).ownBlock ∧ k_ ≠ av ∧ k_ ≠ ar ∧ k_ ≠ au ∧ k_ ≠ aw ∧ k_ ≠ ao)) (by refine rn_ ?_; exact Kd.N_mono al.out (fun _ hk => ⟨⟨hk.1, ⟨hk.2.1, ⟨hk.2.2.2.1, ⟨hk.2.2.2.2.1, ⟨hk.2.2.2.2.2.1, ⟨hk.2.2.2.2.2.2.1, ⟨hk.2.2.2.2.2.2.2.1, hk.2.2.2.2.2.2.2.2⟩⟩⟩⟩⟩⟩⟩, hk.2.2.1⟩)) hg hat); have n1_ := am_ (Kd.R_over' (rr_ ab.out) (Kd.N_typed (rn_ ag.out)) (by decide) hg); have n2_ := am_ (blk_grown (g := av) (o := .cells #[.slice (some bk) l0_0.length c0_0, .slice A0_1 l0_1.length c0_1] 27 (0, 0)) (rb_ ad.out) hg (Kd.N_ne ag.out ad.out (by decide))); have n3_ := am_ (blk_grown (g := ar) (o := .cells #[.slice A1_0 l1_0.length c1_0, .slice A1_1 l1_1.length c1_1] 27 (0, 0)) (rb_ ah.out) hg (Kd.N_ne ag.out ah.out (by decide))); have n4_ := am_ (blk_grown (g := au) (o := .cells #[.slice none 0 0, .slice none 0 0] 27 (0, 0)) (rb_ aj.out) hg (Kd.N_ne ag.out aj.out (by decide))); have n5_ := am_ (blk_grown (g := aw) (o := .cells #[.int .i64 0, .slice aQ ak.length aR, .bool false] 78 (0, 0)) (rb_ am.out) hg (Kd.N_ne ag.out am.out (by decide))); have n6_ := am_ (blk_grown (g := ao) (o := .cells #[.slice aV aZ.length aW, aC] 27 (0, 0)) (rb_ an.out) hg (Kd.N_ne ag.out an.out (by decide))); have n7_ := am_ (Kd.V_afterv (ok := (fun k_ => (w.heap.size ≤ k_) ∧ some k_ ≠ (.slice (some bL) af.length bU : Value).ownBlock ∧ some k_ ≠ (.slice em bi.length en : Value).ownBlock ∧ some k_ ≠ (.slice aV aZ.length aW : Value).ownBlock ∧ k_ ≠ av ∧ k_ ≠ ar ∧ k_ ≠ au ∧ k_ ≠ aw ∧ k_ ≠ ao)) (by refine rv_ ?_; exact Kd.V_mono bH.out (fun _ hk => ⟨⟨hk.1, ⟨hk.2.1, ⟨hk.2.2.1, ⟨hk.2.2.2.2.1, ⟨hk.2.2.2.2.2.1, ⟨hk.2.2.2.2.2.2.1, ⟨hk.2.2.2.2.2.2.2.1, ⟨hk.2.2.2.2.2.2.2.2.1, hk.2.2.2.2.2.2.2.2.2⟩⟩⟩⟩⟩⟩⟩⟩, hk.2.2.2.1⟩)) hg hat); have n8_ := am_ (Kd.R_over' (rr_ bS.out) (Kd.N_typed (rn_ ag.out)) (by decide) hg); have n9_ := am_ (hb); have n10_ := am_ (ho); clear al; clear ab; clear ad; clear ah; clear aj; clear am; clear an; clear bH; clear bS; clear HB; clear ag; clear aA; have al := n0_; have ab := n1_; have ad := n2_; have ah := n3_; have aj := n4_; have am := n5_; have an := n6_; have bH := n7_; have bS := n8_; have HB := n9_; have fb := n10_; clear n0_ n1_ n2_ n3_ n4_ n5_ n6_ n7_ n8_ n9_ n10_; clear ho hb hg hat; obtain ⟨dc, dd, fW⟩ := Kd.N_slice fb.out; subst fW; have he := ck_ (v := (.slice aV aZ.length aW)) an 0 rfl; have hf := ck_ (v := (aC)) an 1 rfl; have hh := blk_frozen an.out 0; have hj := blk_frozen an.out 1))
                  go_roundg k4
                  case measure => have := HJ2.out; have := HJ25.out; have := HK3.out; have := HK4.out; omega
                  case rel => exact ⟨(af), (wrap64 (ae + 1)), (aZ), (da), (.slice aV aZ.length aW), (.slice dc da.length dd), (by first | rfl | (simp; done) | (simp [*]; done)), H', ⟨by have := HJ2.out; have := HJ25.out; have := HK3.out; have := HK4.out; omega⟩, ⟨by refine rn_ ?_; exact Kd.N_mono (Kd.N_far (p := ⟨ao, 1, none⟩) (Kd.N_mono al.out (fun k_ hk => (⟨hk, hk.1.2.2.2.2.2.2.2⟩ : _ ∧ k_ ≠ ao))) (fun _ hk => hk.2) (.slice dc da.length dd)) (fun _ hk => ⟨hk.1.1.1, ⟨hk.1.1.2.2.1, ⟨hk.1.2, ⟨hk.1.1.2.2.2.1, ⟨hk.1.1.2.2.2.2.1, ⟨hk.1.1.2.2.2.2.2.1, ⟨hk.1.1.2.2.2.2.2.2.1, hk.1.1.2.2.2.2.2.2.2⟩⟩⟩⟩⟩⟩⟩)⟩, ⟨by refine rr_ ?_; exact Kd.R_mono (Kd.R_far (p := ⟨ao, 1, none⟩) (Kd.R_types ab.out an.out (by decide)) (fun _ hk => hk.2) (.slice dc da.length dd)) (fun _ hk => hk.1.1)⟩, ⟨by refine rr_ ?_; exact Kd.R_mono (Kd.R_far (p := ⟨ao, 1, none⟩) (Kd.R_types bS.out an.out (by decide)) (fun _ hk => hk.2) (.slice dc da.length dd)) (fun _ hk => hk.1)⟩, ⟨by refine rn_ ?_; exact Kd.N_mono (Kd.N_far (p := ⟨ao, 1, none⟩) (Kd.N_mono fb.out (fun k_ hk => (⟨hk, hk.2.2.2.2.2.2.2.2⟩ : _ ∧ k_ ≠ ao))) (fun _ hk => hk.2) (.slice dc da.length dd)) (fun _ hk => ⟨hk.1.1, ⟨hk.1.2.1, ⟨hk.1.2.2.1, ⟨hk.1.2.2.2.1, ⟨hk.1.2.2.2.2.1, ⟨hk.1.2.2.2.2.2.1, ⟨hk.1.2.2.2.2.2.2.1, ⟨hk.1.2.2.2.2.2.2.2.1, hk.1.2.2.2.2.2.2.2.2⟩⟩⟩⟩⟩⟩⟩⟩)⟩, ⟨by refine rb_ ?_; refine blk_far ?_ bF.out _; refine rb_ ?_; exact ad.out⟩, ⟨by refine rb_ ?_; refine blk_far ?_ bI.out _; refine rb_ ?_; exact ah.out⟩, ⟨by refine rb_ ?_; refine blk_far ?_ bG.out _; refine rb_ ?_; exact aj.out⟩, ⟨by refine rb_ ?_; refine blk_far ?_ bJ.out _; refine rb_ ?_; exact am.out⟩, ⟨by refine rb_ ?_; refine blk_put (cs := #[.slice aV aZ.length aW, aC]) ?_ 1 _ rfl; refine rb_ ?_; exact an.out⟩, ⟨by exact zp27_0_ HB.out ax.out ay.out az.out aE.out aG.out⟩⟩
                 ·rw [if_neg c149] at H
                  exact absurd H (by simp)
                ·rw [if_neg c148] at H
                 exact absurd H (by simp)
               ·rw [if_neg c146] at H
                exact absurd H (by simp)
              ·rw [if_neg c145] at H
               exact absurd H (by simp)
         ·rw [if_neg c57] at H
          have c57b0 : decide (ae < (co.length : Int)) = false := decide_eq_false c57
          clear c57
          replace H := Option.bind_eq_some_iff.mp H
          obtain ⟨⟨cA, db, fE⟩, fc, H⟩ := H
          replace H : (some (cA, db, fE)) = some (r1, r2, r3) := H
          have hl := am_ fc
          clear fc
          simp only [Option.some.injEq, Prod.mk.injEq] at H
          obtain ⟨rfl, rfl, rfl⟩ := H
          obtain ⟨fX, fY, fZ⟩ := Kd.N_slice al.out
          subst fZ
          have iv := bW.out
          have iw := bF.out
          have ix := cg.out
          have iy := bI.out
          have iz := bX.out
          have iA := bG.out
          have iB := ch.out
          have iC := bJ.out
          have hm := ck_ (v := (aD)) an 0 rfl
          have hn := ck_ (v := (aC)) an 1 rfl
          have hq := blk_frozen an.out 0
          have hs := blk_frozen an.out 1
          obtain ⟨eo, ep, ga⟩ := Kd.R_slice ai.out
          subst ga
          obtain ⟨eq, er, gb⟩ := Kd.N_slice ag.out
          subst gb
          go_wp2_with (first | ((with_reducible refine gate_callee (f := 64) rfl ?_); refine gL_ (some 114) Try.func64 #[.agg #[.slice eo aK.length ep, .slice eq aJ.length er]] ?_; (with_reducible refine (spec_l5Fits.calls k3 _ _ aK _ _ aJ cA db fE _ ?side1 ?side2 ?side3 ?side4 hl.out).mono ?_); (case side1 => exact rc_ ((Kd.R_reads' ai.out).2.2)); (case side2 => exact (Kd.R_reads' ai.out).2.1); (case side3 => exact rc_ ((Kd.N_reads' ag.out).2.2)); (case side4 => exact (Kd.N_reads' ag.out).2.1); rintro e w175 ⟨ht, kD, rfl, ho0, ho1, hb⟩; refine ⟨_, rfl, ?_⟩; have n0_ := am_ (Kd.N_mono (Kd.N_told (Kd.N_told (Kd.N_old (rn_ al.out) hb) (Kd.R_base ho0)) (Kd.S_base ho1)) (fun _ h_ => h_.1)); have n1_ := am_ (Kd.R_below (rr_ ab.out) hb); have n2_ := am_ (Kd.R_elder' (rr_ ai.out) (Kd.R_base ho0) hb); have n3_ := am_ (Kd.N_mono (Kd.N_told (Kd.N_told (Kd.N_old (rn_ ag.out) hb) (Kd.R_base ho0)) (Kd.S_base ho1)) (fun _ h_ => h_.1)); have n4_ := am_ (Kd.R_lower (Kd.R_new' (Kd.R_newM (M := fun k_ => (w.heap.size ≤ k_)) ho0 (below_size (zp27_0_ HB.out ax.out ay.out az.out aE.out aG.out)) (fun k_ h_ => h_)) (Kd.R_lt (rr_ ai.out))) (below_size (zp27_0_ HB.out ax.out ay.out az.out aE.out aG.out))); have n5_ := am_ (Kd.N_lower (Kd.N_mono (ok' := fun k_ => (w.heap.size ≤ k_) ∧ some k_ ≠ (ht : Value).ownBlock ∧ some k_ ≠ (.slice fX co.length fY : Value).ownBlock ∧ some k_ ≠ (.slice aQ ak.length aR : Value).ownBlock ∧ some k_ ≠ (.slice eo aK.length ep : Value).ownBlock ∧ some k_ ≠ (.slice eq aJ.length er : Value).ownBlock ∧ k_ ≠ av ∧ k_ ≠ ar ∧ k_ ≠ au ∧ k_ ≠ aw ∧ k_ ≠ ao) (Kd.S_N (Kd.S_bound (Kd.S_apart' ho1 (Kd.R_typed ho0) (by decide)))) (fun k_ hk_ => ⟨(Nat.le_trans (below_size (zp27_0_ HB.out ax.out ay.out az.out aE.out aG.out)) hk_.2.1), hk_.1.2, (Kd.fresh' (Kd.N_lt (rn_ al.out)) k_ hk_.2.1), (Kd.fresh' (Kd.R_lt (rr_ ab.out)) k_ hk_.2.1), (Kd.fresh' (Kd.R_lt (rr_ ai.out)) k_ hk_.2.1), (Kd.fresh' (Kd.N_lt (rn_ ag.out)) k_ hk_.2.1), (Kd.freshB (g := av) (o := .cells #[.slice (some bk) l0_0.length c0_0, .slice A0_1 l0_1.length c0_1] 27 (0, 0)) (rb_ ad.out) k_ hk_.2.1), (Kd.freshB (g := ar) (o := .cells #[.slice A1_0 l1_0.length c1_0, .slice A1_1 l1_1.length c1_1] 27 (0, 0)) (rb_ ah.out) k_ hk_.2.1), (Kd.freshB (g := au) (o := .cells #[.slice none 0 0, .slice none 0 0] 27 (0, 0)) (rb_ aj.out) k_ hk_.2.1), (Kd.freshB (g := aw) (o := .cells #[.int .i64 0, .slice aQ ak.length aR, .bool false] 78 (0, 0)) (rb_ am.out) k_ hk_.2.1), (Kd.freshB (g := ao) (o := .cells #[.slice eo aK.length ep, .slice eq aJ.length er] 27 (0, 0)) (rb_ an.out) k_ hk_.2.1)⟩)) (below_size (zp27_0_ HB.out ax.out ay.out az.out aE.out aG.out))); have n6_ := am_ (blk_below (rb_ ad.out) hb); have n7_ := am_ (blk_below (rb_ ah.out) hb); have n8_ := am_ (blk_below (rb_ aj.out) hb); have n9_ := am_ (blk_below (rb_ am.out) hb); have n10_ := am_ (blk_below (rb_ an.out) hb); have n11_ := am_ (below_step (zp27_0_ HB.out ax.out ay.out az.out aE.out aG.out) hb); clear al; clear ab; clear ai; clear ag; clear ad; clear ah; clear aj; clear am; clear an; clear HB; have al := n0_; have ab := n1_; have ai := n2_; have ag := n3_; have de := n4_; have df := n5_; have ad := n6_; have ah := n7_; have aj := n8_; have am := n9_; have an := n10_; have HB := n11_; clear n0_ n1_ n2_ n3_ n4_ n5_ n6_ n7_ n8_ n9_ n10_ n11_; (try clear hb); (try clear hb2); (try clear hk); (try clear hi); (try clear ho0); (try clear ho1)) | ((with_reducible refine gate_dst (N := 13) rfl ?_); refine box_event ?hg (N := 13) ?hd (cs := #[.slice none 0 0, .slice none 0 0]) (t := 27) ?hr ?_; (case hd => rfl); (case hg => rfl); (case hr => first | (go_simp; done) | (go_simp; rfl)); intro bC hg w176 hbox hb; have n0_ := am_ (Kd.N_below (Kd.N_elderB (rn_ al.out) bC (Nat.le_of_eq hg.symm)) hb); have n1_ := am_ (Kd.R_below (rr_ ab.out) hb); have n2_ := am_ (Kd.R_below (rr_ ai.out) hb); have n3_ := am_ (Kd.N_below (Kd.N_elderB (rn_ ag.out) bC (Nat.le_of_eq hg.symm)) hb); have n4_ := am_ (Kd.R_below (rr_ de.out) hb); have n5_ := am_ (Kd.N_below (Kd.N_elderB (rn_ df.out) bC (Nat.le_of_eq hg.symm)) hb); have n6_ := am_ (blk_below (rb_ ad.out) hb); have n7_ := am_ (blk_below (rb_ ah.out) hb); have n8_ := am_ (blk_below (rb_ aj.out) hb); have n9_ := am_ (blk_below (rb_ am.out) hb); have n10_ := am_ (blk_below (rb_ an.out) hb); have n11_ := am_ (below_step (zp27_0_ HB.out ax.out ay.out az.out aE.out aG.out) hb); have n12_ := am_ (hbox); have n13_ := am_ ((by rw [hg]; exact (below_size (zp27_0_ HB.out ax.out ay.out az.out aE.out aG.out)) : w.heap.size ≤ bC)); have n14_ := am_ ((by rw [hg]; exact (below_size (zp27_0_ HB.out ax.out ay.out az.out aE.out aG.out)) : w.heap.size ≤ bC)); have n15_ := am_ ((by rw [hg]; exact Nat.ne_of_lt (blk_lt (rb_ ad.out)) : av ≠ bC)); have n16_ := am_ ((by rw [hg]; exact Nat.ne_of_gt (blk_lt (rb_ ad.out)) : bC ≠ av)); have n17_ := am_ ((by rw [hg]; exact Nat.ne_of_lt (blk_lt (rb_ ah.out)) : ar ≠ bC)); have n18_ := am_ ((by rw [hg]; exact Nat.ne_of_gt (blk_lt (rb_ ah.out)) : bC ≠ ar)); have n19_ := am_ ((by rw [hg]; exact Nat.ne_of_lt (blk_lt (rb_ aj.out)) : au ≠ bC)); have n20_ := am_ ((by rw [hg]; exact Nat.ne_of_gt (blk_lt (rb_ aj.out)) : bC ≠ au)); have n21_ := am_ ((by rw [hg]; exact Nat.ne_of_lt (blk_lt (rb_ am.out)) : aw ≠ bC)); have n22_ := am_ ((by rw [hg]; exact Nat.ne_of_gt (blk_lt (rb_ am.out)) : bC ≠ aw)); have n23_ := am_ ((by rw [hg]; exact Nat.ne_of_lt (blk_lt (rb_ an.out)) : ao ≠ bC)); have n24_ := am_ ((by rw [hg]; exact Nat.ne_of_gt (blk_lt (rb_ an.out)) : bC ≠ ao)); clear al; clear ab; clear ai; clear ag; clear de; clear df; clear ad; clear ah; clear aj; clear am; clear an; clear HB; have al := n0_; have ab := n1_; have ai := n2_; have ag := n3_; have de := n4_; have df := n5_; have ad := n6_; have ah := n7_; have aj := n8_; have am := n9_; have an := n10_; have HB := n11_; have dg := n12_; have kr := n13_; have gc := n14_; have es := n15_; have et := n16_; have eu := n17_; have ev := n18_; have cB := n19_; have ew := n20_; have ex := n21_; have ey := n22_; have ez := n23_; have eA := n24_; clear n0_ n1_ n2_ n3_ n4_ n5_ n6_ n7_ n8_ n9_ n10_ n11_ n12_ n13_ n14_ n15_ n16_ n17_ n18_ n19_ n20_ n21_ n22_ n23_ n24_; clear hb hbox hg; obtain ⟨cW, cX, gd⟩ := Kd.R_slice de.out; subst gd; have iD := et.out; have iE := es.out; have iF := ev.out; have iG := eu.out; have iH := ew.out; have iI := cB.out; have iJ := ey.out; have iK := ex.out; have iL := eA.out; have iM := ez.out; have hu := ck_ (v := (.slice none 0 0)) dg 0 rfl; have hv := ck_ (v := (.slice none 0 0)) dg 1 rfl; have hw := blk_frozen dg.out 0; have hx := blk_frozen dg.out 1; obtain ⟨dh, di, ge⟩ := Kd.N_slice df.out; subst ge; have iN := bP.out; have iO := bO.out; have iP := ce.out; have iQ := cd.out; have iR := br.out; have iS := bV.out; have hy := ck_ (v := (.slice none 0 0)) aj 0 rfl; have hz := ck_ (v := (.slice none 0 0)) aj 1 rfl; have hA := blk_frozen aj.out 0; have hB := blk_frozen aj.out 1))
          refine bodyPost_ret (results_ct rfl _ _ au 27 #[.slice cW cA.length cX, .slice dh db.length di] (0, 0) _ rfl (by refine rb_ ?_; refine blk_put (cs := #[.slice cW cA.length cX, .slice none 0 0]) ?_ 1 _ rfl; refine rb_ ?_; refine blk_put (cs := #[.slice none 0 0, .slice none 0 0]) ?_ 0 _ rfl; refine rb_ ?_; refine blk_far ?_ cB.out _; refine rb_ ?_; refine blk_far ?_ cB.out _; refine rb_ ?_; exact aj.out) Try.underlying27 rfl (by kernel_rfl)) rfl ?_
          exact ⟨_, _, by first | rfl | (simp [errW_none, errW_some] <;> rfl) | (simp [*, errW_none, errW_some] <;> rfl), by refine rr_ ?_; exact Kd.R_mono (Kd.R_far (p := ⟨au, 1, none⟩) (Kd.R_far (p := ⟨au, 0, none⟩) (Kd.R_far (p := ⟨bC, 1, none⟩) (Kd.R_far (p := ⟨bC, 0, none⟩) (Kd.R_types (Kd.R_types de.out dg.out (by decide)) aj.out (by decide)) (fun _ hk => hk.1.2) (.slice cW cA.length cX)) (fun _ hk => hk.1.2) (.slice dh db.length di)) (fun _ hk => hk.2) (.slice cW cA.length cX)) (fun _ hk => hk.2) (.slice dh db.length di)) (fun _ hk => hk.1.1.1.1), by refine rn_ ?_; exact Kd.N_mono (Kd.N_far (p := ⟨au, 1, none⟩) (Kd.N_far (p := ⟨au, 0, none⟩) (Kd.N_far (p := ⟨bC, 1, none⟩) (Kd.N_far (p := ⟨bC, 0, none⟩) (Kd.N_mono (Kd.N_mono df.out (fun k_ hk => (⟨hk, hk.2⟩ : _ ∧ k_ ≠ bC))) (fun k_ hk => (⟨hk, hk.1.1.2.2.2.2.2.2.2.2.1⟩ : _ ∧ k_ ≠ au))) (fun _ hk => hk.1.2) (.slice cW cA.length cX)) (fun _ hk => hk.1.2) (.slice dh db.length di)) (fun _ hk => hk.2) (.slice cW cA.length cX)) (fun _ hk => hk.2) (.slice dh db.length di)) (fun _ hk => ⟨hk.1.1.1.1, hk.1.1.1.2.1⟩), by exact zp27_1_ HB.out ax.out ay.out az.out aE.out aG.out gc.out⟩
    ·rw [if_neg c25] at H
     exact absurd H (by simp)
end Go.Proofs.Ytogamkblkoobkaa.P
end
