/- Texts of the proof of FnDerivatives, put together. No condition. -/
import Derived.Test.YtldgkgdgcfllmaaQFnDerivatives3
import Derived.Test.YtldgkgdgcfllmaaQFnDerivatives5
import Derived.Test.YtldgkgdgcfllmaaQFnDerivatives8
import Derived.Test.YtldgkgdgcfllmaaQFnDerivatives10
import Derived.Test.YtldgkgdgcfllmaaQFnDerivatives11
import Derived.Test.YtldgkgdgcfllmaaQFnDerivatives13
import Derived.Test.YtldgkgdgcfllmaaQFnDerivatives16
import Derived.Test.YtldgkgdgcfllmaaQFnDerivatives17
import Derived.Test.YtldgkgdgcfllmaaQFnDerivatives2
section
namespace Go.Proofs.Ytldgkgdgcfllmaa.P
open Go.RowKit Go.Proofs.YtldgkgdgcfllmaaW.PrintWords Go.Proofs.YtldgkgdgcfllmaaW.PrintLast Go.Proofs.YtldgkgdgcfllmaaW.PrintMore
attribute [local go_sem] max2_int min2_int max_two min_two max_three min_three max_four min_four
set_option linter.unusedVariables false
set_option linter.unusedSimpArgs false
mutual
def laws_FnDerivatives.j0 : Nat → List Int → ByteArray → Bool → Int → ByteArray → List (S29) → Int → ByteArray → List (S29) → Option (Bool)
  | 0, _, _, _, _, _, _, _, _, _ => none
  | k + 1, x0, x4, x32, aV, aW, aX, aN, aO, aP => if x32 = true then (some false) else ((spec_DrawMatchRegex.f k x0).bind fun bt1055 => ((impl_MatchRegex.f k bt1055.1 bt1055.2.1 bt1055.2.2.1 bt1055.2.2.2).bind fun aQ => ((spec_MatchRegex.f k bt1055.1 bt1055.2.1 bt1055.2.2.1 bt1055.2.2.2).bind fun aR => (if (aQ != aR) = true then (some false) else ((spec_WordsUpTo.f k 2).bind fun aA => (laws_FnDerivatives.l0 k x4 aA 0 aV aW aX aN aO aP))))))
def laws_FnDerivatives.l0 : Nat → ByteArray → List ByteArray → Int → Int → ByteArray → List (S29) → Int → ByteArray → List (S29) → Option (Bool)
  | 0, _, _, _, _, _, _, _, _, _ => none
  | k + 1, x4, x8, x9, aV, aW, aX, aN, aO, aP => if x9 < (x8.length : Int) then ((spec_IsValidRegex.f k aN aO aP).bind fun bs => (laws_FnDerivatives.j2 k x4 x8 x9 bs aV aW aX aN aO aP)) else (laws_FnDerivatives.j2 k x4 x8 x9 false aV aW aX aN aO aP)
def laws_FnDerivatives.j2 : Nat → ByteArray → List ByteArray → Int → Bool → Int → ByteArray → List (S29) → Int → ByteArray → List (S29) → Option (Bool)
  | 0, _, _, _, _, _, _, _, _, _, _ => none
  | k + 1, x4, x8, x9, x53, aV, aW, aX, aN, aO, aP => if x53 = true then (if 0 ≤ x9 then (if x9 < (x8.length : Int) then ((impl_MatchRegex.f k aN aO aP (rdOf ByteArray.empty x8 x9)).bind fun aS => (if x4.size + (rdOf ByteArray.empty x8 x9).size ≤ 9223372036854775807 then ((impl_MatchRegex.f k aV aW aX (x4 ++ (rdOf ByteArray.empty x8 x9))).bind fun aT => (if (aS != aT) = true then (some false) else (laws_FnDerivatives.l0 k x4 x8 (wrap64 (x9 + 1)) aV aW aX aN aO aP))) else (none))) else (none)) else (none)) else (some true)
end
def laws_FnDerivatives.f (k : Nat) (l0 : List Int) : Option (Bool) := (laws_big.f l0).bind fun bi => (if bi = true then (some true) else ((spec_DrawDerivativeOf.f k l0).bind fun bt1034 => ((impl_DerivativeOf.f k bt1034.1 bt1034.2.1 bt1034.2.2.1 bt1034.2.2.2).bind fun bt1041 => ((spec_DerivativeOf.f k bt1034.1 bt1034.2.1 bt1034.2.2.1 bt1034.2.2.2).bind fun bt1047 => ((spec_EqualRegex.f k bt1041.1 bt1041.2.1 bt1041.2.2 bt1047.1 bt1047.2.1 bt1047.2.2).bind fun bc => (if bc = true then ((impl_IsNullable.f k bt1034.1 bt1034.2.1 bt1034.2.2.1).bind fun aY => ((impl_MatchRegex.f k bt1034.1 bt1034.2.1 bt1034.2.2.1 (⟨#[]⟩ : ByteArray)).bind fun aZ => (laws_FnDerivatives.j0 k l0 bt1034.2.2.2 (aY != aZ) bt1034.1 bt1034.2.1 bt1034.2.2.1 bt1041.1 bt1041.2.1 bt1041.2.2))) else (laws_FnDerivatives.j0 k l0 bt1034.2.2.2 true bt1034.1 bt1034.2.1 bt1034.2.2.1 bt1041.1 bt1041.2.1 bt1041.2.2)))))))
theorem laws_FnDerivatives.mono_l : ∀ k, (∀ y0 y1 y2 y3 y4 y5 y6 y7 y8, LeO (laws_FnDerivatives.j0 k y0 y1 y2 y3 y4 y5 y6 y7 y8) (laws_FnDerivatives.j0 (k + 1) y0 y1 y2 y3 y4 y5 y6 y7 y8)) ∧ (∀ y0 y1 y2 y3 y4 y5 y6 y7 y8, LeO (laws_FnDerivatives.l0 k y0 y1 y2 y3 y4 y5 y6 y7 y8) (laws_FnDerivatives.l0 (k + 1) y0 y1 y2 y3 y4 y5 y6 y7 y8)) ∧ (∀ y0 y1 y2 y3 y4 y5 y6 y7 y8 y9, LeO (laws_FnDerivatives.j2 k y0 y1 y2 y3 y4 y5 y6 y7 y8 y9) (laws_FnDerivatives.j2 (k + 1) y0 y1 y2 y3 y4 y5 y6 y7 y8 y9))
 | 0 => ⟨fun _ _ _ _ _ _ _ _ _ r h => by simp [laws_FnDerivatives.j0] at h, fun _ _ _ _ _ _ _ _ _ r h => by simp [laws_FnDerivatives.l0] at h, fun _ _ _ _ _ _ _ _ _ _ r h => by simp [laws_FnDerivatives.j2] at h⟩
 | k + 1 => by
  obtain ⟨ih0, ih1, ih2⟩ := laws_FnDerivatives.mono_l k
  refine ⟨?_, ?_, ?_⟩
  ·intro y0 y1 y2 y3 y4 y5 y6 y7 y8
   unfold laws_FnDerivatives.j0
   repeat' first
   | (with_reducible exact ih0 _ _ _ _ _ _ _ _ _)
   | (with_reducible exact ih1 _ _ _ _ _ _ _ _ _)
   | (with_reducible exact ih2 _ _ _ _ _ _ _ _ _ _)
   | (with_reducible exact impl_DerivativeOf.mono _ _ _ _ _)
   | (with_reducible exact impl_IsNullable.mono _ _ _ _)
   | (with_reducible exact impl_MatchRegex.mono _ _ _ _ _)
   | (with_reducible exact spec_DerivativeOf.mono _ _ _ _ _)
   | (with_reducible exact spec_DrawDerivativeOf.mono _ _)
   | (with_reducible exact spec_DrawMatchRegex.mono _ _)
   | (with_reducible exact spec_EqualRegex.mono _ _ _ _ _ _ _)
   | (with_reducible exact spec_IsValidRegex.mono _ _ _ _)
   | (with_reducible exact spec_MatchRegex.mono _ _ _ _ _)
   | (with_reducible exact spec_WordsUpTo.mono _ _)
   | (with_reducible exact LeO.refl _)
   | (with_reducible exact LeO.none _)
   | (with_reducible refine LeO.ite ?_ ?_)
   | (with_reducible refine LeO.bind ?_ (fun _ => ?_))
   | exact ih0 _ _ _ _ _ _ _ _ _
   | exact ih1 _ _ _ _ _ _ _ _ _
   | exact ih2 _ _ _ _ _ _ _ _ _ _
   | exact impl_DerivativeOf.mono _ _ _ _ _
   | exact impl_IsNullable.mono _ _ _ _
   | exact impl_MatchRegex.mono _ _ _ _ _
   | exact spec_DerivativeOf.mono _ _ _ _ _
   | exact spec_DrawDerivativeOf.mono _ _
   | exact spec_DrawMatchRegex.mono _ _
   | exact spec_EqualRegex.mono _ _ _ _ _ _ _
   | exact spec_IsValidRegex.mono _ _ _ _
   | exact spec_MatchRegex.mono _ _ _ _ _
   | exact spec_WordsUpTo.mono _ _
   | exact LeO.none _
   | refine LeO.ite ?_ ?_
   | refine LeO.bind ?_ (fun _ => ?_)
  ·intro y0 y1 y2 y3 y4 y5 y6 y7 y8
   unfold laws_FnDerivatives.l0
   repeat' first
   | (with_reducible exact ih0 _ _ _ _ _ _ _ _ _)
   | (with_reducible exact ih1 _ _ _ _ _ _ _ _ _)
   | (with_reducible exact ih2 _ _ _ _ _ _ _ _ _ _)
   | (with_reducible exact impl_DerivativeOf.mono _ _ _ _ _)
   | (with_reducible exact impl_IsNullable.mono _ _ _ _)
   | (with_reducible exact impl_MatchRegex.mono _ _ _ _ _)
   | (with_reducible exact spec_DerivativeOf.mono _ _ _ _ _)
   | (with_reducible exact spec_DrawDerivativeOf.mono _ _)
   | (with_reducible exact spec_DrawMatchRegex.mono _ _)
   | (with_reducible exact spec_EqualRegex.mono _ _ _ _ _ _ _)
   | (with_reducible exact spec_IsValidRegex.mono _ _ _ _)
   | (with_reducible exact spec_MatchRegex.mono _ _ _ _ _)
   | (with_reducible exact spec_WordsUpTo.mono _ _)
   | (with_reducible exact LeO.refl _)
   | (with_reducible exact LeO.none _)
   | (with_reducible refine LeO.ite ?_ ?_)
   | (with_reducible refine LeO.bind ?_ (fun _ => ?_))
   | exact ih0 _ _ _ _ _ _ _ _ _
   | exact ih1 _ _ _ _ _ _ _ _ _
   | exact ih2 _ _ _ _ _ _ _ _ _ _
   | exact impl_DerivativeOf.mono _ _ _ _ _
   | exact impl_IsNullable.mono _ _ _ _
   | exact impl_MatchRegex.mono _ _ _ _ _
   | exact spec_DerivativeOf.mono _ _ _ _ _
   | exact spec_DrawDerivativeOf.mono _ _
   | exact spec_DrawMatchRegex.mono _ _
   | exact spec_EqualRegex.mono _ _ _ _ _ _ _
   | exact spec_IsValidRegex.mono _ _ _ _
   | exact spec_MatchRegex.mono _ _ _ _ _
   | exact spec_WordsUpTo.mono _ _
   | exact LeO.none _
   | refine LeO.ite ?_ ?_
   | refine LeO.bind ?_ (fun _ => ?_)
  ·intro y0 y1 y2 y3 y4 y5 y6 y7 y8 y9
   unfold laws_FnDerivatives.j2
   repeat' first
   | (with_reducible exact ih0 _ _ _ _ _ _ _ _ _)
   | (with_reducible exact ih1 _ _ _ _ _ _ _ _ _)
   | (with_reducible exact ih2 _ _ _ _ _ _ _ _ _ _)
   | (with_reducible exact impl_DerivativeOf.mono _ _ _ _ _)
   | (with_reducible exact impl_IsNullable.mono _ _ _ _)
   | (with_reducible exact impl_MatchRegex.mono _ _ _ _ _)
   | (with_reducible exact spec_DerivativeOf.mono _ _ _ _ _)
   | (with_reducible exact spec_DrawDerivativeOf.mono _ _)
   | (with_reducible exact spec_DrawMatchRegex.mono _ _)
   | (with_reducible exact spec_EqualRegex.mono _ _ _ _ _ _ _)
   | (with_reducible exact spec_IsValidRegex.mono _ _ _ _)
   | (with_reducible exact spec_MatchRegex.mono _ _ _ _ _)
   | (with_reducible exact spec_WordsUpTo.mono _ _)
   | (with_reducible exact LeO.refl _)
   | (with_reducible exact LeO.none _)
   | (with_reducible refine LeO.ite ?_ ?_)
   | (with_reducible refine LeO.bind ?_ (fun _ => ?_))
   | exact ih0 _ _ _ _ _ _ _ _ _
   | exact ih1 _ _ _ _ _ _ _ _ _
   | exact ih2 _ _ _ _ _ _ _ _ _ _
   | exact impl_DerivativeOf.mono _ _ _ _ _
   | exact impl_IsNullable.mono _ _ _ _
   | exact impl_MatchRegex.mono _ _ _ _ _
   | exact spec_DerivativeOf.mono _ _ _ _ _
   | exact spec_DrawDerivativeOf.mono _ _
   | exact spec_DrawMatchRegex.mono _ _
   | exact spec_EqualRegex.mono _ _ _ _ _ _ _
   | exact spec_IsValidRegex.mono _ _ _ _
   | exact spec_MatchRegex.mono _ _ _ _ _
   | exact spec_WordsUpTo.mono _ _
   | exact LeO.none _
   | refine LeO.ite ?_ ?_
   | refine LeO.bind ?_ (fun _ => ?_)
theorem laws_FnDerivatives.mono : ∀ a0 k, LeO (laws_FnDerivatives.f k a0) (laws_FnDerivatives.f (k + 1) a0) := by
 intro a0 k
 obtain ⟨ih0, ih1, ih2⟩ := laws_FnDerivatives.mono_l k
 unfold laws_FnDerivatives.f
 repeat' first
   | (with_reducible exact ih0 _ _ _ _ _ _ _ _ _)
   | (with_reducible exact ih1 _ _ _ _ _ _ _ _ _)
   | (with_reducible exact ih2 _ _ _ _ _ _ _ _ _ _)
   | (with_reducible exact impl_DerivativeOf.mono _ _ _ _ _)
   | (with_reducible exact impl_IsNullable.mono _ _ _ _)
   | (with_reducible exact impl_MatchRegex.mono _ _ _ _ _)
   | (with_reducible exact spec_DerivativeOf.mono _ _ _ _ _)
   | (with_reducible exact spec_DrawDerivativeOf.mono _ _)
   | (with_reducible exact spec_DrawMatchRegex.mono _ _)
   | (with_reducible exact spec_EqualRegex.mono _ _ _ _ _ _ _)
   | (with_reducible exact spec_IsValidRegex.mono _ _ _ _)
   | (with_reducible exact spec_MatchRegex.mono _ _ _ _ _)
   | (with_reducible exact spec_WordsUpTo.mono _ _)
   | (with_reducible exact LeO.refl _)
   | (with_reducible exact LeO.none _)
   | (with_reducible refine LeO.ite ?_ ?_)
   | (with_reducible refine LeO.bind ?_ (fun _ => ?_))
   | exact ih0 _ _ _ _ _ _ _ _ _
   | exact ih1 _ _ _ _ _ _ _ _ _
   | exact ih2 _ _ _ _ _ _ _ _ _ _
   | exact impl_DerivativeOf.mono _ _ _ _ _
   | exact impl_IsNullable.mono _ _ _ _
   | exact impl_MatchRegex.mono _ _ _ _ _
   | exact spec_DerivativeOf.mono _ _ _ _ _
   | exact spec_DrawDerivativeOf.mono _ _
   | exact spec_DrawMatchRegex.mono _ _
   | exact spec_EqualRegex.mono _ _ _ _ _ _ _
   | exact spec_IsValidRegex.mono _ _ _ _
   | exact spec_MatchRegex.mono _ _ _ _ _
   | exact spec_WordsUpTo.mono _ _
   | exact LeO.none _
   | refine LeO.ite ?_ ?_
   | refine LeO.bind ?_ (fun _ => ?_)
def laws_FnDerivatives.T5 : Bool × List (List Nat × List Nat) := (true, [([], []), ([], []), ([], []), ([1, 2], [1, 2]), ([0, 3, 3], [0, 3]), ([4], [4]), ([5, 4], [5]), ([6], [6]), ([7, 6, 6], [6, 7]), ([6], [6]), ([9, 8, 6], [6, 9]), ([8, 10, 6], [6, 8, 10]), ([6, 11], [6, 11])])
def laws_FnDerivatives.B5 : List Nat := [0, 0, 0, 6, 15, 31, 63, 127, 255, 127, 1023, 2047, 4095]
theorem laws_FnDerivatives.tab5 : rtab .any (opsOf Try.f11 5) = laws_FnDerivatives.T5 := by kernel_rfl
theorem laws_FnDerivatives.bits5 : waitsOk laws_FnDerivatives.T5.2 laws_FnDerivatives.B5 = true := by kernel_rfl
def laws_FnDerivatives.T14 : Bool × List (List Nat × List Nat) := (true, [([], []), ([], []), ([], []), ([1, 2], [1, 2]), ([3], [3]), ([0, 4], [0, 4]), ([], []), ([], []), ([], []), ([], []), ([8, 9], [8, 9]), ([10], [10]), ([7, 11], [7, 11]), ([6, 12, 5], [6, 12]), ([5, 13], [5, 13])])
def laws_FnDerivatives.B14 : List Nat := [0, 0, 0, 6, 14, 31, 0, 0, 0, 0, 768, 1792, 3968, 8191, 16383]
theorem laws_FnDerivatives.tab14 : rtab .any (opsOf Try.f11 14) = laws_FnDerivatives.T14 := by kernel_rfl
theorem laws_FnDerivatives.bits14 : waitsOk laws_FnDerivatives.T14.2 laws_FnDerivatives.B14 = true := by kernel_rfl
theorem zp53_0_ {p q g1 g2 : Prop} (h : p) (h1 : g1) (h2 : g2) (c : p → g1 → g2 → q := by intro h_ h1_ h2_; repeat (first | (with_reducible first | exact h_ | apply below_alloc | apply pw_below_drewN | apply below_drew1 | refine below_set ?_ h1_ | refine below_set ?_ h2_) | exact h_)) : q := c h h1 h2
theorem zp53_1_ {p q g1 g2 g3 : Prop} (h : p) (h1 : g1) (h2 : g2) (h3 : g3) (c : p → g1 → g2 → g3 → q := by intro h_ h1_ h2_ h3_; repeat (first | (with_reducible first | exact h_ | apply below_alloc | apply pw_below_drewN | apply below_drew1 | refine below_set ?_ h1_ | refine below_set ?_ h2_ | refine below_set ?_ h3_) | exact h_)) : q := c h h1 h2 h3
set_option maxHeartbeats 8000000 in
set_option maxRecDepth 100000 in
theorem laws_FnDerivatives.calls (k : Nat) (A0 : Option Addr) (c0 : Nat) (l0 : List Int) (r : Bool) (w : World) (hr0 : Kd.C (Kd.int .u8) w A0 l0.length l0) (hc0 : l0.length ≤ c0) (h : laws_FnDerivatives.f k l0 = some r) (hR : r = true) :
  Calls Try.prog 11 #[.slice A0 l0.length c0] w fun e w' => e = .returned (.bool r) ∧ Below w.heap.size w w' := by
 have hu29 := Try.underlying29
 have HR0 := am_ hr0
 have HC0 := am_ hc0
 clear hr0 hc0
 have HB := am_ (Below.refl w.heap.size w)
 have H : ((laws_big.f l0).bind fun bi => (if bi = true then (some true) else ((spec_DrawDerivativeOf.f k l0).bind fun bt1034 => ((impl_DerivativeOf.f k bt1034.1 bt1034.2.1 bt1034.2.2.1 bt1034.2.2.2).bind fun bt1041 => ((spec_DerivativeOf.f k bt1034.1 bt1034.2.1 bt1034.2.2.1 bt1034.2.2.2).bind fun bt1047 => ((spec_EqualRegex.f k bt1041.1 bt1041.2.1 bt1041.2.2 bt1047.1 bt1047.2.1 bt1047.2.2).bind fun bc => (if bc = true then ((impl_IsNullable.f k bt1034.1 bt1034.2.1 bt1034.2.2.1).bind fun aY => ((impl_MatchRegex.f k bt1034.1 bt1034.2.1 bt1034.2.2.1 (⟨#[]⟩ : ByteArray)).bind fun aZ => (laws_FnDerivatives.j0 k l0 bt1034.2.2.2 (aY != aZ) bt1034.1 bt1034.2.1 bt1034.2.2.1 bt1041.1 bt1041.2.1 bt1041.2.2))) else (laws_FnDerivatives.j0 k l0 bt1034.2.2.2 true bt1034.1 bt1034.2.1 bt1034.2.2.1 bt1041.1 bt1041.2.1 bt1041.2.2)))))))) = some r := h
 clear h
 replace H := Option.bind_eq_some_iff.mp H
 obtain ⟨bi, A20, H⟩ := H
 have A2 := am_ A20
 clear A20
 by_cases c3 : bi = true
 ·subst c3
  have H1 : (some true) = some r := by rw [if_pos rfl] at H; exact H
  clear H
  have H := H1
  clear H1
  obtain rfl := Option.some.inj H
  simp only [Option.some.injEq, Prod.mk.injEq] at H
  obtain ⟨rfl⟩ := H
  go_enter Try.func11, Try.ntmps11
  go_wp2_with (first | ((with_reducible refine gate_callee (f := 31) rfl ?_); refine gL_ (some 11) Try.func31 #[.slice A0 l0.length c0] ?_; (with_reducible refine (laws_big.calls _ _ l0 true _ ?side1 ?side2 A2.out).mono ?_); (case side1 => exact rc_ HR0.out); (case side2 => exact HC0.out); rintro e w' ⟨rfl, ⟨nd, rfl⟩⟩; refine ⟨_, rfl, ?_⟩))
  go_ret
  exact ⟨by first | rfl | (simp [errW_none, errW_some] <;> rfl) | (simp [*, errW_none, errW_some] <;> rfl), by repeat (first | (with_reducible first | exact HB.out | apply below_alloc | apply pw_below_drewN | apply below_drew1) | exact HB.out)⟩
 ·replace c3 := Bool.eq_false_iff.mpr c3
  subst c3
  have H1 : ((spec_DrawDerivativeOf.f k l0).bind fun bt1034 => ((impl_DerivativeOf.f k bt1034.1 bt1034.2.1 bt1034.2.2.1 bt1034.2.2.2).bind fun bt1041 => ((spec_DerivativeOf.f k bt1034.1 bt1034.2.1 bt1034.2.2.1 bt1034.2.2.2).bind fun bt1047 => ((spec_EqualRegex.f k bt1041.1 bt1041.2.1 bt1041.2.2 bt1047.1 bt1047.2.1 bt1047.2.2).bind fun bc => (if bc = true then ((impl_IsNullable.f k bt1034.1 bt1034.2.1 bt1034.2.2.1).bind fun aY => ((impl_MatchRegex.f k bt1034.1 bt1034.2.1 bt1034.2.2.1 (⟨#[]⟩ : ByteArray)).bind fun aZ => (laws_FnDerivatives.j0 k l0 bt1034.2.2.2 (aY != aZ) bt1034.1 bt1034.2.1 bt1034.2.2.1 bt1041.1 bt1041.2.1 bt1041.2.2))) else (laws_FnDerivatives.j0 k l0 bt1034.2.2.2 true bt1034.1 bt1034.2.1 bt1034.2.2.1 bt1041.1 bt1041.2.1 bt1041.2.2)))))) = some r := by rw [if_neg (show ¬ (false = true) by decide)] at H; exact H
  clear H
  have H := H1
  clear H1
  replace H := Option.bind_eq_some_iff.mp H
  obtain ⟨⟨ao, ar, aj, aF⟩, A40, H⟩ := H
  have A4 := am_ A40
  clear A40
  replace H := Option.bind_eq_some_iff.mp H
  obtain ⟨⟨am, an, ai⟩, A50, H⟩ := H
  have A5 := am_ A50
  clear A50
  have HC6 := am_ H
  clear H
  go_enter Try.func11, Try.ntmps11
  go_upto_region 5 with (first | ((with_reducible refine gate_callee (f := 31) rfl ?_); refine gL_ (some 11) Try.func31 #[.slice A0 l0.length c0] ?_; (with_reducible refine (laws_big.calls _ _ l0 false _ ?side1 ?side2 A2.out).mono ?_); (case side1 => exact rc_ HR0.out); (case side2 => exact HC0.out); rintro e w' ⟨rfl, ⟨nd, rfl⟩⟩; refine ⟨_, rfl, ?_⟩) | ((with_reducible refine gate_callee (f := 34) rfl ?_); refine gL_ (some 14) Try.func34 #[.slice A0 l0.length c0] ?_; (with_reducible refine (spec_DrawDerivativeOf.calls k _ _ l0 ao ar aj aF _ ?side1 ?side2 A4.out).mono ?_); (case side1 => exact rc_ HR0.out); (case side2 => exact HC0.out); rintro e w7 ⟨cx, rfl, ho0, hb⟩; refine ⟨_, rfl, ?_⟩; replace ak := am_ (Kd.N_lower (Kd.N_mono (ok' := fun k_ => True) ho0 (fun k_ hk_ => trivial)) (below_size (b0_ HB.out))); replace HB := am_ (below_step (b0_ HB.out) hb); (try clear hb); (try clear hb2); (try clear hk); (try clear hi); (try clear ho0)) | ((with_reducible refine gate_dst (N := 3) rfl ?_); refine box_event ?hg (N := 3) ?hd (cs := #[.int .i64 0, .string (⟨#[]⟩ : ByteArray), .slice none 0 0]) (t := 29) ?hr ?_; (case hd => rfl); (case hg => rfl); (case hr => first | (go_simp; done) | (go_simp; rfl)); intro ah hg w8 hbox hb; have n0_ := am_ (Kd.N_below (Kd.N_elderB (rn_ ak.out) ah (Nat.le_of_eq hg.symm)) hb); have n1_ := am_ (below_step (b0_ HB.out) hb); have n2_ := am_ (hbox); have n3_ := am_ ((by rw [hg]; exact (below_size (b0_ HB.out)) : w.heap.size ≤ ah)); have n4_ := am_ ((by rw [hg]; exact (below_size (b0_ HB.out)) : w.heap.size ≤ ah)); clear ak; clear HB; have ak := n0_; have HB := n1_; have aa := n2_; have cu := n3_; have aq := n4_; clear n0_ n1_ n2_ n3_ n4_; clear hb hbox hg; have bu := ck_ (v := (.int .i64 0)) aa 0 rfl; have bv := ck_ (v := (.string (⟨#[]⟩ : ByteArray))) aa 1 rfl; have bw := ck_ (v := (.slice none 0 0)) aa 2 rfl; have bx := blk_frozen aa.out 0; have bz := blk_frozen aa.out 1; have bA := blk_frozen aa.out 2; obtain ⟨ay, ax, ck⟩ := Kd.N_slice ak.out; subst ck) | ((with_reducible refine gate_callee (f := 30) rfl ?_); refine gL_ (some 19) Try.func30 #[.agg #[.int .i64 ao, .string ar, .slice ay aj.length ax], .string aF] ?_; (with_reducible refine (impl_DerivativeOf.calls k ao ar _ _ aj aF am an ai _ ?side1 ?side2 A5.out).mono ?_); (case side1 => refine (Kd.N_reads' (e := 29) (base := w.heap.size) (ok := fun k_ => (True ∧ k_ ≠ ah)) (n := aj.length) (c := ax) ?_).2.2; exact (rn_ (Kd.N_mono (Kd.N_far (p := ⟨ah, 2, none⟩) (Kd.N_far (p := ⟨ah, 1, none⟩) (Kd.N_far (p := ⟨ah, 0, none⟩) (Kd.N_mono ak.out (fun k_ hk => (⟨hk, hk.2⟩ : _ ∧ k_ ≠ ah))) (fun _ hk => hk.2) (.int .i64 ao)) (fun _ hk => hk.2) (.string ar)) (fun _ hk => hk.2) (.slice ay aj.length ax)) (fun _ h_ => h_.1)))); (case side2 => exact (Kd.N_reads' ak.out).2.1); rintro e w11 ⟨cy, rfl, ho0, hb⟩; refine ⟨_, rfl, ?_⟩; have n0_ := am_ (Kd.N_elder' (rn_ (Kd.N_mono (Kd.N_far (p := ⟨ah, 2, none⟩) (Kd.N_far (p := ⟨ah, 1, none⟩) (Kd.N_far (p := ⟨ah, 0, none⟩) (Kd.N_mono ak.out (fun k_ hk => (⟨hk, hk.2⟩ : _ ∧ k_ ≠ ah))) (fun _ hk => hk.2) (.int .i64 ao)) (fun _ hk => hk.2) (.string ar)) (fun _ hk => hk.2) (.slice ay aj.length ax)) (fun _ h_ => h_.1))) (by first | exact Kd.N_base ho0 | exact Kd.R_base ho0) hb); have n1_ := am_ (Kd.N_lower (Kd.N_mono (ok' := fun k_ => some k_ ≠ (.slice ay aj.length ax : Value).ownBlock ∧ k_ ≠ ah) (Kd.R_N (Kd.R_bound ho0)) (fun k_ hk_ => ⟨(Kd.fresh' (Kd.N_lt (rn_ (Kd.N_mono (Kd.N_far (p := ⟨ah, 2, none⟩) (Kd.N_far (p := ⟨ah, 1, none⟩) (Kd.N_far (p := ⟨ah, 0, none⟩) (Kd.N_mono ak.out (fun k_ hk => (⟨hk, hk.2⟩ : _ ∧ k_ ≠ ah))) (fun _ hk => hk.2) (.int .i64 ao)) (fun _ hk => hk.2) (.string ar)) (fun _ hk => hk.2) (.slice ay aj.length ax)) (fun _ h_ => h_.1)))) k_ hk_.2.1), (Kd.freshB (g := ah) (o := .cells #[.int .i64 ao, .string ar, .slice ay aj.length ax] 29 (0, 0)) (by refine rb_ ?_; refine blk_put (cs := #[.int .i64 ao, .string ar, .slice none 0 0]) ?_ 2 _ rfl; refine rb_ ?_; refine blk_put (cs := #[.int .i64 ao, .string (⟨#[]⟩ : ByteArray), .slice none 0 0]) ?_ 1 _ rfl; refine rb_ ?_; refine blk_put (cs := #[.int .i64 0, .string (⟨#[]⟩ : ByteArray), .slice none 0 0]) ?_ 0 _ rfl; refine rb_ ?_; exact aa.out) k_ hk_.2.1)⟩)) (below_size (b1_ HB.out aq.out))); have n2_ := am_ (blk_below (g := ah) (o := .cells #[.int .i64 ao, .string ar, .slice ay aj.length ax] 29 (0, 0)) (by refine rb_ ?_; refine blk_put (cs := #[.int .i64 ao, .string ar, .slice none 0 0]) ?_ 2 _ rfl; refine rb_ ?_; refine blk_put (cs := #[.int .i64 ao, .string (⟨#[]⟩ : ByteArray), .slice none 0 0]) ?_ 1 _ rfl; refine rb_ ?_; refine blk_put (cs := #[.int .i64 0, .string (⟨#[]⟩ : ByteArray), .slice none 0 0]) ?_ 0 _ rfl; refine rb_ ?_; exact aa.out) hb); have n3_ := am_ (below_step (b1_ HB.out aq.out) hb); clear ak; clear aa; clear HB; have ak := n0_; have ap := n1_; have aa := n2_; have HB := n3_; clear n0_ n1_ n2_ n3_; (try clear hb); (try clear hb2); (try clear hk); (try clear hi); (try clear ho0)) | ((with_reducible refine gate_dst (N := 5) rfl ?_); refine box_event ?hg (N := 5) ?hd (cs := #[.int .i64 0, .string (⟨#[]⟩ : ByteArray), .slice none 0 0]) (t := 29) ?hr ?_; (case hd => rfl); (case hg => rfl); (case hr => first | (go_simp; done) | (go_simp; rfl)); intro ad hg w12 hbox hb; have n0_ := am_ (Kd.N_below (Kd.N_elderB (rn_ ak.out) ad (Nat.le_of_eq hg.symm)) hb); have n1_ := am_ (Kd.N_below (Kd.N_elderB (rn_ ap.out) ad (Nat.le_of_eq hg.symm)) hb); have n2_ := am_ (blk_below (rb_ aa.out) hb); have n3_ := am_ (below_step (b1_ HB.out aq.out) hb); have n4_ := am_ (hbox); have n5_ := am_ ((by rw [hg]; exact (below_size (b1_ HB.out aq.out)) : w.heap.size ≤ ad)); have n6_ := am_ ((by rw [hg]; exact (below_size (b1_ HB.out aq.out)) : w.heap.size ≤ ad)); have n7_ := am_ ((by rw [hg]; exact Nat.ne_of_lt (blk_lt (rb_ aa.out)) : ah ≠ ad)); have n8_ := am_ ((by rw [hg]; exact Nat.ne_of_gt (blk_lt (rb_ aa.out)) : ad ≠ ah)); clear ak; clear ap; clear aa; clear HB; have ak := n0_; have ap := n1_; have aa := n2_; have HB := n3_; have ab := n4_; have cv := n5_; have aw := n6_; have aJ := n7_; have bg := n8_; clear n0_ n1_ n2_ n3_ n4_ n5_ n6_ n7_ n8_; clear hb hbox hg; have cz := bg.out; have cA := aJ.out; have bm := ck_ (v := (.int .i64 0)) ab 0 rfl; have bn := ck_ (v := (.string (⟨#[]⟩ : ByteArray))) ab 1 rfl; have bo := ck_ (v := (.slice none 0 0)) ab 2 rfl; have bp := blk_frozen ab.out 0; have bq := blk_frozen ab.out 1; have br := blk_frozen ab.out 2; obtain ⟨au, av, cl⟩ := Kd.N_slice ap.out; subst cl))
  (try simp only [Act.put, List.setIfInBounds_toArray, List.set_cons_zero, List.set_cons_succ])
  go_cut [32] (fun v32 wc => ∃ (kq : Nat) (bt : Bool), v32 = .bool bt ∧ Aside0 (laws_FnDerivatives.j0 kq l0 aF bt ao ar aj am an ai = some r) ∧ Aside0 (kq ≤ k) ∧ Aside0 (Kd.N k29 29 wc w.heap.size (fun k_ => some k_ ≠ ((.slice au ai.length av) : Value).ownBlock ∧ k_ ≠ ah ∧ k_ ≠ ad) (.slice ay aj.length ax) aj) ∧ Aside0 (Kd.N k29 29 wc w.heap.size (fun k_ => some k_ ≠ ((.slice ay aj.length ax) : Value).ownBlock ∧ k_ ≠ ah ∧ k_ ≠ ad) (.slice au ai.length av) ai) ∧ Aside0 (wc.heap[ah]? = some (.cells #[.int .i64 ao, .string ar, (.slice ay aj.length ax)] 29 (0, 0))) ∧ Aside0 (wc.heap[ad]? = some (.cells #[.int .i64 am, .string an, (.slice au ai.length av)] 29 (0, 0))) ∧ Aside0 (Below w.heap.size w wc))
  case first =>
   have H := HC6.out
   clear HC6
   replace H := Option.bind_eq_some_iff.mp H
   obtain ⟨⟨bd, be, bf⟩, bT, H⟩ := H
   have A16 := am_ bT
   clear bT
   replace H := Option.bind_eq_some_iff.mp H
   obtain ⟨bc, bU, H⟩ := H
   have A17 := am_ bU
   clear bU
   by_cases c18 : bc = true
   ·subst c18
    have H1 : ((impl_IsNullable.f k ao ar aj).bind fun aY => ((impl_MatchRegex.f k ao ar aj (⟨#[]⟩ : ByteArray)).bind fun aZ => (laws_FnDerivatives.j0 k l0 aF (aY != aZ) ao ar aj am an ai))) = some r := by rw [if_pos rfl] at H; exact H
    clear H
    have H := H1
    clear H1
    replace H := Option.bind_eq_some_iff.mp H
    obtain ⟨aY, bV, H⟩ := H
    have A19 := am_ bV
    clear bV
    replace H := Option.bind_eq_some_iff.mp H
    obtain ⟨aZ, bW, H⟩ := H
    have A20 := am_ bW
    clear bW
    have H' := am_ H
    clear H
    try go_wp2
    have n0_ : Aside0 (Kd.N k29 29 (((w12.setCell ⟨ad, 0, none⟩ (.int .i64 am)).setCell ⟨ad, 1, none⟩ (.string an)).setCell ⟨ad, 2, none⟩ (.slice au ai.length av)) w.heap.size (fun k_ => some k_ ≠ (.slice au ai.length av : Value).ownBlock ∧ k_ ≠ ah ∧ k_ ≠ ad) (.slice ay aj.length ax) aj) := ⟨by refine rn_ ?_; exact Kd.N_mono (Kd.N_far (p := ⟨ad, 2, none⟩) (Kd.N_far (p := ⟨ad, 1, none⟩) (Kd.N_far (p := ⟨ad, 0, none⟩) (Kd.N_mono ak.out (fun k_ hk => (⟨hk, hk.2⟩ : _ ∧ k_ ≠ ad))) (fun _ hk => hk.2) (.int .i64 am)) (fun _ hk => hk.2) (.string an)) (fun _ hk => hk.2) (.slice au ai.length av)) (fun _ hk => ⟨hk.1.1.2, ⟨hk.1.1.1.2, hk.1.2⟩⟩)⟩
    have n1_ : Aside0 (Kd.N k29 29 (((w12.setCell ⟨ad, 0, none⟩ (.int .i64 am)).setCell ⟨ad, 1, none⟩ (.string an)).setCell ⟨ad, 2, none⟩ (.slice au ai.length av)) w.heap.size (fun k_ => some k_ ≠ (.slice ay aj.length ax : Value).ownBlock ∧ k_ ≠ ah ∧ k_ ≠ ad) (.slice au ai.length av) ai) := ⟨by refine rn_ ?_; exact Kd.N_mono (Kd.N_far (p := ⟨ad, 2, none⟩) (Kd.N_far (p := ⟨ad, 1, none⟩) (Kd.N_far (p := ⟨ad, 0, none⟩) (Kd.N_mono ap.out (fun k_ hk => (⟨hk, hk.2⟩ : _ ∧ k_ ≠ ad))) (fun _ hk => hk.2) (.int .i64 am)) (fun _ hk => hk.2) (.string an)) (fun _ hk => hk.2) (.slice au ai.length av)) (fun _ hk => ⟨hk.1.1.1, ⟨hk.1.1.2, hk.1.2⟩⟩)⟩
    have n2_ : Aside0 ((((w12.setCell ⟨ad, 0, none⟩ (.int .i64 am)).setCell ⟨ad, 1, none⟩ (.string an)).setCell ⟨ad, 2, none⟩ (.slice au ai.length av)).heap[ah]? = some (.cells #[.int .i64 ao, .string ar, .slice ay aj.length ax] 29 (0, 0))) := ⟨by refine rb_ ?_; refine blk_far ?_ aJ.out _; refine rb_ ?_; refine blk_far ?_ aJ.out _; refine rb_ ?_; refine blk_far ?_ aJ.out _; refine rb_ ?_; exact aa.out⟩
    have n3_ : Aside0 ((((w12.setCell ⟨ad, 0, none⟩ (.int .i64 am)).setCell ⟨ad, 1, none⟩ (.string an)).setCell ⟨ad, 2, none⟩ (.slice au ai.length av)).heap[ad]? = some (.cells #[.int .i64 am, .string an, .slice au ai.length av] 29 (0, 0))) := ⟨by refine rb_ ?_; refine blk_put (cs := #[.int .i64 am, .string an, .slice none 0 0]) ?_ 2 _ rfl; refine rb_ ?_; refine blk_put (cs := #[.int .i64 am, .string (⟨#[]⟩ : ByteArray), .slice none 0 0]) ?_ 1 _ rfl; refine rb_ ?_; refine blk_put (cs := #[.int .i64 0, .string (⟨#[]⟩ : ByteArray), .slice none 0 0]) ?_ 0 _ rfl; refine rb_ ?_; exact ab.out⟩
    have n4_ : Aside0 (Below w.heap.size w (((w12.setCell ⟨ad, 0, none⟩ (.int .i64 am)).setCell ⟨ad, 1, none⟩ (.string an)).setCell ⟨ad, 2, none⟩ (.slice au ai.length av))) := ⟨by exact zp53_0_ HB.out aq.out aw.out⟩
    (try clear ak)
    (try clear ap)
    (try clear aa)
    (try clear ab)
    (try clear HB)
    generalize (((w12.setCell ⟨ad, 0, none⟩ (.int .i64 am)).setCell ⟨ad, 1, none⟩ (.string an)).setCell ⟨ad, 2, none⟩ (.slice au ai.length av)) = w21 at n0_ n1_ n2_ n3_ n4_ ⊢
    have ak := n0_; have ap := n1_; have aa := n2_; have ab := n3_; have HB := n4_
    clear n0_ n1_ n2_ n3_ n4_
    replace ak := am_ (Kd.N_drew ak.out)
    replace ap := am_ (Kd.N_drew ap.out)
    replace aa := am_ (blk_drew aa.out)
    replace ab := am_ (blk_drew ab.out)
    replace HB := am_ (below_drew1 HB.out)
    refine start_ (n := 13) (S := fun w' => w'.cell? ⟨ad, 0, none⟩ = some (.int .i64 am) ∧ w'.cell? ⟨ad, 1, none⟩ = some (.string an) ∧ w'.cell? ⟨ad, 2, none⟩ = some (.slice au ai.length av) ∧ w'.cell? ⟨ah, 0, none⟩ = some (.int .i64 ao) ∧ w'.cell? ⟨ah, 1, none⟩ = some (.string ar) ∧ w'.cell? ⟨ah, 2, none⟩ = some (.slice ay aj.length ax)) (ds := []) (bl 13 0) (by kernel_rfl) rfl rfl ⟨(blk_cell ab.out 0).trans rfl, (blk_cell ab.out 1).trans rfl, (blk_cell ab.out 2).trans rfl, (blk_cell aa.out 0).trans rfl, (blk_cell aa.out 1).trans rfl, (blk_cell aa.out 2).trans rfl⟩ (fun hHeld => ?_); refine with_tabW laws_FnDerivatives.tab5 laws_FnDerivatives.bits5 (fun HT_ HW_ => ?_)
    generalize w21.drew = w22 at ak ap aa ab HB hHeld ⊢
    refine pu_ 2 22 (bl 13 4) HT_ ?_
    refine tk_ 0 20 (bl 13 5) HT_ HW_ hHeld ?_
    refine tk_ 1 21 (bl 13 7) HT_ HW_ hHeld ?_
    refine on_ 3 (some 23) (bl 13 15) HT_ (fun K hK => ?_)
    refine gO_ Try.func29 #[.agg #[.int .i64 ao, .string ar, .slice ay aj.length ax], .string aF] ?_
    with_reducible refine (spec_DerivativeOf.calls k ao ar _ _ aj aF bd be bf _ ?side1 ?side2 A16.out).mono ?_
    (case side1 => exact rc_ ((Kd.N_reads' ak.out).2.2))
    (case side2 => exact (Kd.N_reads' ak.out).2.1)
    rintro e w23 ⟨cj, rfl, ho0, hb⟩
    refine ⟨_, rfl, ?_⟩
    replace aK := am_ (Kd.N_lower (Kd.N_mono (ok' := fun k_ => some k_ ≠ (.slice ay aj.length ax : Value).ownBlock ∧ some k_ ≠ (.slice au ai.length av : Value).ownBlock ∧ k_ ≠ ah ∧ k_ ≠ ad) (Kd.R_N (Kd.R_bound ho0)) (fun k_ hk_ => ⟨(Kd.fresh' (Kd.N_lt (rn_ ak.out)) k_ hk_.2.1), (Kd.fresh' (Kd.N_lt (rn_ ap.out)) k_ hk_.2.1), (Kd.freshB (g := ah) (o := .cells #[.int .i64 ao, .string ar, .slice ay aj.length ax] 29 (0, 0)) (rb_ aa.out) k_ hk_.2.1), (Kd.freshB (g := ad) (o := .cells #[.int .i64 am, .string an, .slice au ai.length av] 29 (0, 0)) (rb_ ab.out) k_ hk_.2.1)⟩)) (below_size (b2_ HB.out aq.out aw.out)))
    replace ak := am_ (Kd.N_elder' (rn_ ak.out) (by first | exact Kd.N_base ho0 | exact Kd.R_base ho0) hb)
    replace ap := am_ (Kd.N_elder' (rn_ ap.out) (by first | exact Kd.N_base ho0 | exact Kd.R_base ho0) hb)
    replace aa := am_ (blk_below (rb_ aa.out) hb)
    replace ab := am_ (blk_below (rb_ ab.out) hb)
    replace HB := am_ (below_step (b2_ HB.out aq.out aw.out) hb)
    (try clear hb)
    (try clear hb2)
    (try clear hk)
    (try clear hi)
    (try clear ho0)
    obtain ⟨cm, cn, bX⟩ := Kd.N_slice aK.out
    (first | subst bX | (injection bX with f1_ f2_ f3_; have f4_ := f1_.symm; have f5_ := f3_.symm; clear f1_ f2_ f3_; subst f4_; subst f5_))
    refine hK.out _ _ ⟨(blk_cell ab.out 0).trans rfl, (blk_cell ab.out 1).trans rfl, (blk_cell ab.out 2).trans rfl, (blk_cell aa.out 0).trans rfl, (blk_cell aa.out 1).trans rfl, (blk_cell aa.out 2).trans rfl⟩ (fun hHeld => ?_)
    clear hK K
    refine norm_ (a' := ?_) ?_ ?_
    rotate_left
    ·show Act.put _ (some 23) _ = _
     simp only [pn_, sz_, ss_, i64_w, i32_w]
     rfl
    refine on_ 4 (some 24) (bl 13 31) HT_ (fun K hK => ?_)
    refine gO_ Try.func13 #[.agg #[.int .i64 am, .string an, .slice au ai.length av], .agg #[.int .i64 bd, .string be, .slice cm bf.length cn]] ?_
    with_reducible refine (spec_EqualRegex.calls k am an _ _ ai bd be _ _ bf true _ ?side1 ?side2 ?side3 ?side4 A17.out).mono ?_
    (case side1 => exact rc_ ((Kd.N_reads' ap.out).2.2))
    (case side2 => exact (Kd.N_reads' ap.out).2.1)
    (case side3 => exact rc_ ((Kd.N_reads' aK.out).2.2))
    (case side4 => exact (Kd.N_reads' aK.out).2.1)
    rintro e w25 ⟨rfl, hb⟩
    refine ⟨_, rfl, ?_⟩
    replace ak := am_ (Kd.N_below (rn_ ak.out) hb)
    replace ap := am_ (Kd.N_below (rn_ ap.out) hb)
    replace aK := am_ (Kd.N_below (rn_ aK.out) hb)
    replace aa := am_ (blk_below (rb_ aa.out) hb)
    replace ab := am_ (blk_below (rb_ ab.out) hb)
    replace HB := am_ (below_step (b2_ HB.out aq.out aw.out) hb)
    (try clear hb)
    (try clear hb2)
    (try clear hk)
    (try clear hi)
    refine hK.out _ _ ⟨(blk_cell ab.out 0).trans rfl, (blk_cell ab.out 1).trans rfl, (blk_cell ab.out 2).trans rfl, (blk_cell aa.out 0).trans rfl, (blk_cell aa.out 1).trans rfl, (blk_cell aa.out 2).trans rfl⟩ (fun hHeld => ?_)
    clear hK K
    refine norm_ (a' := ?_) ?_ ?_
    rotate_left
    ·show Act.put _ (some 24) _ = _
     simp only [pn_, sz_, ss_, i64_w, i32_w]
     rfl
    refine pu_ 5 25 (bl 13 63) HT_ ?_
    refine pu_ 6 26 (bl 13 127) HT_ ?_
    refine tk_ 7 27 (bl 13 255) HT_ HW_ hHeld ?_
    refine tk_ 9 29 (bl 13 767) HT_ HW_ hHeld ?_
    refine on_ 8 (some 28) (bl 13 1023) HT_ (fun K hK => ?_)
    refine gO_ Try.func28 #[.agg #[.int .i64 ao, .string ar, .slice ay aj.length ax]] ?_
    with_reducible refine (impl_IsNullable.calls k ao ar _ _ aj aY _ ?side1 ?side2 A19.out).mono ?_
    (case side1 => exact rc_ ((Kd.N_reads' ak.out).2.2))
    (case side2 => exact (Kd.N_reads' ak.out).2.1)
    rintro e w26 ⟨rfl, hb⟩
    refine ⟨_, rfl, ?_⟩
    replace ak := am_ (Kd.N_below (rn_ ak.out) hb)
    replace ap := am_ (Kd.N_below (rn_ ap.out) hb)
    replace aK := am_ (Kd.N_below (rn_ aK.out) hb)
    replace aa := am_ (blk_below (rb_ aa.out) hb)
    replace ab := am_ (blk_below (rb_ ab.out) hb)
    replace HB := am_ (below_step (b2_ HB.out aq.out aw.out) hb)
    (try clear hb)
    (try clear hb2)
    (try clear hk)
    (try clear hi)
    refine hK.out _ _ ⟨(blk_cell ab.out 0).trans rfl, (blk_cell ab.out 1).trans rfl, (blk_cell ab.out 2).trans rfl, (blk_cell aa.out 0).trans rfl, (blk_cell aa.out 1).trans rfl, (blk_cell aa.out 2).trans rfl⟩ (fun hHeld => ?_)
    clear hK K
    refine norm_ (a' := ?_) ?_ ?_
    rotate_left
    ·show Act.put _ (some 28) _ = _
     simp only [pn_, sz_, ss_, i64_w, i32_w]
     rfl
    refine on_ 10 (some 30) (bl 13 2047) HT_ (fun K hK => ?_)
    refine gO_ Try.func26 #[.agg #[.int .i64 ao, .string ar, .slice ay aj.length ax], .string (⟨#[]⟩ : ByteArray)] ?_
    with_reducible refine (impl_MatchRegex.calls k ao ar _ _ aj (⟨#[]⟩ : ByteArray) aZ _ ?side1 ?side2 A20.out).mono ?_
    (case side1 => exact rc_ ((Kd.N_reads' ak.out).2.2))
    (case side2 => exact (Kd.N_reads' ak.out).2.1)
    rintro e w27 ⟨rfl, hb⟩
    refine ⟨_, rfl, ?_⟩
    replace ak := am_ (Kd.N_below (rn_ ak.out) hb)
    replace ap := am_ (Kd.N_below (rn_ ap.out) hb)
    replace aK := am_ (Kd.N_below (rn_ aK.out) hb)
    replace aa := am_ (blk_below (rb_ aa.out) hb)
    replace ab := am_ (blk_below (rb_ ab.out) hb)
    replace HB := am_ (below_step (b2_ HB.out aq.out aw.out) hb)
    (try clear hb)
    (try clear hb2)
    (try clear hk)
    (try clear hi)
    refine hK.out _ _ ⟨(blk_cell ab.out 0).trans rfl, (blk_cell ab.out 1).trans rfl, (blk_cell ab.out 2).trans rfl, (blk_cell aa.out 0).trans rfl, (blk_cell aa.out 1).trans rfl, (blk_cell aa.out 2).trans rfl⟩ (fun hHeld => ?_)
    clear hK K
    refine norm_ (a' := ?_) ?_ ?_
    rotate_left
    ·show Act.put _ (some 30) _ = _
     simp only [pn_, sz_, ss_, i64_w, i32_w]
     rfl
    refine pu_ 11 31 (bl 13 4095) HT_ ?_
    refine pu_ 12 32 (bl 13 8191) HT_ ?_
    refine done_ (done_of HT_.out (by kernel_rfl)) ?_
    try go_wp2
    go_meet
    case rel => exact ⟨_, ((aY != aZ)), (by first | rfl | (simp; done) | (simp [*]; done)), H', ⟨by first | omega | exact Nat.le_refl _⟩, ⟨by refine rn_ ?_; exact Kd.N_mono ak.out (fun _ hk => ⟨hk.1.1, ⟨hk.1.2.1, hk.1.2.2⟩⟩)⟩, ⟨by refine rn_ ?_; exact Kd.N_mono ap.out (fun _ hk => ⟨hk.1.1, ⟨hk.1.2.1, hk.1.2.2⟩⟩)⟩, ⟨by refine rb_ ?_; exact aa.out⟩, ⟨by refine rb_ ?_; exact ab.out⟩, ⟨by exact zp53_0_ HB.out aq.out aw.out⟩⟩
   ·replace c18 := Bool.eq_false_iff.mpr c18
    subst c18
    have H1 : (laws_FnDerivatives.j0 k l0 aF true ao ar aj am an ai) = some r := by rw [if_neg (show ¬ (false = true) by decide)] at H; exact H
    clear H
    have H := H1
    clear H1
    have H' := am_ H
    clear H
    try go_wp2
    have n0_ : Aside0 (Kd.N k29 29 (((w12.setCell ⟨ad, 0, none⟩ (.int .i64 am)).setCell ⟨ad, 1, none⟩ (.string an)).setCell ⟨ad, 2, none⟩ (.slice au ai.length av)) w.heap.size (fun k_ => some k_ ≠ (.slice au ai.length av : Value).ownBlock ∧ k_ ≠ ah ∧ k_ ≠ ad) (.slice ay aj.length ax) aj) := ⟨by refine rn_ ?_; exact Kd.N_mono (Kd.N_far (p := ⟨ad, 2, none⟩) (Kd.N_far (p := ⟨ad, 1, none⟩) (Kd.N_far (p := ⟨ad, 0, none⟩) (Kd.N_mono ak.out (fun k_ hk => (⟨hk, hk.2⟩ : _ ∧ k_ ≠ ad))) (fun _ hk => hk.2) (.int .i64 am)) (fun _ hk => hk.2) (.string an)) (fun _ hk => hk.2) (.slice au ai.length av)) (fun _ hk => ⟨hk.1.1.2, ⟨hk.1.1.1.2, hk.1.2⟩⟩)⟩
    have n1_ : Aside0 (Kd.N k29 29 (((w12.setCell ⟨ad, 0, none⟩ (.int .i64 am)).setCell ⟨ad, 1, none⟩ (.string an)).setCell ⟨ad, 2, none⟩ (.slice au ai.length av)) w.heap.size (fun k_ => some k_ ≠ (.slice ay aj.length ax : Value).ownBlock ∧ k_ ≠ ah ∧ k_ ≠ ad) (.slice au ai.length av) ai) := ⟨by refine rn_ ?_; exact Kd.N_mono (Kd.N_far (p := ⟨ad, 2, none⟩) (Kd.N_far (p := ⟨ad, 1, none⟩) (Kd.N_far (p := ⟨ad, 0, none⟩) (Kd.N_mono ap.out (fun k_ hk => (⟨hk, hk.2⟩ : _ ∧ k_ ≠ ad))) (fun _ hk => hk.2) (.int .i64 am)) (fun _ hk => hk.2) (.string an)) (fun _ hk => hk.2) (.slice au ai.length av)) (fun _ hk => ⟨hk.1.1.1, ⟨hk.1.1.2, hk.1.2⟩⟩)⟩
    have n2_ : Aside0 ((((w12.setCell ⟨ad, 0, none⟩ (.int .i64 am)).setCell ⟨ad, 1, none⟩ (.string an)).setCell ⟨ad, 2, none⟩ (.slice au ai.length av)).heap[ah]? = some (.cells #[.int .i64 ao, .string ar, .slice ay aj.length ax] 29 (0, 0))) := ⟨by refine rb_ ?_; refine blk_far ?_ aJ.out _; refine rb_ ?_; refine blk_far ?_ aJ.out _; refine rb_ ?_; refine blk_far ?_ aJ.out _; refine rb_ ?_; exact aa.out⟩
    have n3_ : Aside0 ((((w12.setCell ⟨ad, 0, none⟩ (.int .i64 am)).setCell ⟨ad, 1, none⟩ (.string an)).setCell ⟨ad, 2, none⟩ (.slice au ai.length av)).heap[ad]? = some (.cells #[.int .i64 am, .string an, .slice au ai.length av] 29 (0, 0))) := ⟨by refine rb_ ?_; refine blk_put (cs := #[.int .i64 am, .string an, .slice none 0 0]) ?_ 2 _ rfl; refine rb_ ?_; refine blk_put (cs := #[.int .i64 am, .string (⟨#[]⟩ : ByteArray), .slice none 0 0]) ?_ 1 _ rfl; refine rb_ ?_; refine blk_put (cs := #[.int .i64 0, .string (⟨#[]⟩ : ByteArray), .slice none 0 0]) ?_ 0 _ rfl; refine rb_ ?_; exact ab.out⟩
    have n4_ : Aside0 (Below w.heap.size w (((w12.setCell ⟨ad, 0, none⟩ (.int .i64 am)).setCell ⟨ad, 1, none⟩ (.string an)).setCell ⟨ad, 2, none⟩ (.slice au ai.length av))) := ⟨by exact zp53_0_ HB.out aq.out aw.out⟩
    (try clear ak)
    (try clear ap)
    (try clear aa)
    (try clear ab)
    (try clear HB)
    generalize (((w12.setCell ⟨ad, 0, none⟩ (.int .i64 am)).setCell ⟨ad, 1, none⟩ (.string an)).setCell ⟨ad, 2, none⟩ (.slice au ai.length av)) = w28 at n0_ n1_ n2_ n3_ n4_ ⊢
    have ak := n0_; have ap := n1_; have aa := n2_; have ab := n3_; have HB := n4_
    clear n0_ n1_ n2_ n3_ n4_
    replace ak := am_ (Kd.N_drew ak.out)
    replace ap := am_ (Kd.N_drew ap.out)
    replace aa := am_ (blk_drew aa.out)
    replace ab := am_ (blk_drew ab.out)
    replace HB := am_ (below_drew1 HB.out)
    refine start_ (n := 13) (S := fun w' => w'.cell? ⟨ad, 0, none⟩ = some (.int .i64 am) ∧ w'.cell? ⟨ad, 1, none⟩ = some (.string an) ∧ w'.cell? ⟨ad, 2, none⟩ = some (.slice au ai.length av) ∧ w'.cell? ⟨ah, 0, none⟩ = some (.int .i64 ao) ∧ w'.cell? ⟨ah, 1, none⟩ = some (.string ar) ∧ w'.cell? ⟨ah, 2, none⟩ = some (.slice ay aj.length ax)) (ds := []) (bl 13 0) (by kernel_rfl) rfl rfl ⟨(blk_cell ab.out 0).trans rfl, (blk_cell ab.out 1).trans rfl, (blk_cell ab.out 2).trans rfl, (blk_cell aa.out 0).trans rfl, (blk_cell aa.out 1).trans rfl, (blk_cell aa.out 2).trans rfl⟩ (fun hHeld => ?_); refine with_tabW laws_FnDerivatives.tab5 laws_FnDerivatives.bits5 (fun HT_ HW_ => ?_)
    generalize w28.drew = w29 at ak ap aa ab HB hHeld ⊢
    refine pu_ 2 22 (bl 13 4) HT_ ?_
    refine tk_ 0 20 (bl 13 5) HT_ HW_ hHeld ?_
    refine tk_ 1 21 (bl 13 7) HT_ HW_ hHeld ?_
    refine on_ 3 (some 23) (bl 13 15) HT_ (fun K hK => ?_)
    refine gO_ Try.func29 #[.agg #[.int .i64 ao, .string ar, .slice ay aj.length ax], .string aF] ?_
    with_reducible refine (spec_DerivativeOf.calls k ao ar _ _ aj aF bd be bf _ ?side1 ?side2 A16.out).mono ?_
    (case side1 => exact rc_ ((Kd.N_reads' ak.out).2.2))
    (case side2 => exact (Kd.N_reads' ak.out).2.1)
    rintro e w30 ⟨cj, rfl, ho0, hb⟩
    refine ⟨_, rfl, ?_⟩
    replace aK := am_ (Kd.N_lower (Kd.N_mono (ok' := fun k_ => some k_ ≠ (.slice ay aj.length ax : Value).ownBlock ∧ some k_ ≠ (.slice au ai.length av : Value).ownBlock ∧ k_ ≠ ah ∧ k_ ≠ ad) (Kd.R_N (Kd.R_bound ho0)) (fun k_ hk_ => ⟨(Kd.fresh' (Kd.N_lt (rn_ ak.out)) k_ hk_.2.1), (Kd.fresh' (Kd.N_lt (rn_ ap.out)) k_ hk_.2.1), (Kd.freshB (g := ah) (o := .cells #[.int .i64 ao, .string ar, .slice ay aj.length ax] 29 (0, 0)) (rb_ aa.out) k_ hk_.2.1), (Kd.freshB (g := ad) (o := .cells #[.int .i64 am, .string an, .slice au ai.length av] 29 (0, 0)) (rb_ ab.out) k_ hk_.2.1)⟩)) (below_size (b2_ HB.out aq.out aw.out)))
    replace ak := am_ (Kd.N_elder' (rn_ ak.out) (by first | exact Kd.N_base ho0 | exact Kd.R_base ho0) hb)
    replace ap := am_ (Kd.N_elder' (rn_ ap.out) (by first | exact Kd.N_base ho0 | exact Kd.R_base ho0) hb)
    replace aa := am_ (blk_below (rb_ aa.out) hb)
    replace ab := am_ (blk_below (rb_ ab.out) hb)
    replace HB := am_ (below_step (b2_ HB.out aq.out aw.out) hb)
    (try clear hb)
    (try clear hb2)
    (try clear hk)
    (try clear hi)
    (try clear ho0)
    obtain ⟨co, cp, bY⟩ := Kd.N_slice aK.out
    (first | subst bY | (injection bY with f1_ f2_ f3_; have f4_ := f1_.symm; have f5_ := f3_.symm; clear f1_ f2_ f3_; subst f4_; subst f5_))
    refine hK.out _ _ ⟨(blk_cell ab.out 0).trans rfl, (blk_cell ab.out 1).trans rfl, (blk_cell ab.out 2).trans rfl, (blk_cell aa.out 0).trans rfl, (blk_cell aa.out 1).trans rfl, (blk_cell aa.out 2).trans rfl⟩ (fun hHeld => ?_)
    clear hK K
    refine norm_ (a' := ?_) ?_ ?_
    rotate_left
    ·show Act.put _ (some 23) _ = _
     simp only [pn_, sz_, ss_, i64_w, i32_w]
     rfl
    refine on_ 4 (some 24) (bl 13 31) HT_ (fun K hK => ?_)
    refine gO_ Try.func13 #[.agg #[.int .i64 am, .string an, .slice au ai.length av], .agg #[.int .i64 bd, .string be, .slice co bf.length cp]] ?_
    with_reducible refine (spec_EqualRegex.calls k am an _ _ ai bd be _ _ bf false _ ?side1 ?side2 ?side3 ?side4 A17.out).mono ?_
    (case side1 => exact rc_ ((Kd.N_reads' ap.out).2.2))
    (case side2 => exact (Kd.N_reads' ap.out).2.1)
    (case side3 => exact rc_ ((Kd.N_reads' aK.out).2.2))
    (case side4 => exact (Kd.N_reads' aK.out).2.1)
    rintro e w32 ⟨rfl, hb⟩
    refine ⟨_, rfl, ?_⟩
    replace ak := am_ (Kd.N_below (rn_ ak.out) hb)
    replace ap := am_ (Kd.N_below (rn_ ap.out) hb)
    replace aK := am_ (Kd.N_below (rn_ aK.out) hb)
    replace aa := am_ (blk_below (rb_ aa.out) hb)
    replace ab := am_ (blk_below (rb_ ab.out) hb)
    replace HB := am_ (below_step (b2_ HB.out aq.out aw.out) hb)
    (try clear hb)
    (try clear hb2)
    (try clear hk)
    (try clear hi)
    refine hK.out _ _ ⟨(blk_cell ab.out 0).trans rfl, (blk_cell ab.out 1).trans rfl, (blk_cell ab.out 2).trans rfl, (blk_cell aa.out 0).trans rfl, (blk_cell aa.out 1).trans rfl, (blk_cell aa.out 2).trans rfl⟩ (fun hHeld => ?_)
    clear hK K
    refine norm_ (a' := ?_) ?_ ?_
    rotate_left
    ·show Act.put _ (some 24) _ = _
     simp only [pn_, sz_, ss_, i64_w, i32_w]
     rfl
    refine pu_ 5 25 (bl 13 63) HT_ ?_
    refine pu_ 6 26 (bl 13 127) HT_ ?_
    refine pz_ 7 27 (bl 13 255) HT_ ?_
    refine pz_ 8 28 (bl 13 511) HT_ ?_
    refine pz_ 9 29 (bl 13 1023) HT_ ?_
    refine pz_ 10 30 (bl 13 2047) HT_ ?_
    refine pz_ 11 31 (bl 13 4095) HT_ ?_
    refine pu_ 12 32 (bl 13 8191) HT_ ?_
    refine done_ (done_of HT_.out (by kernel_rfl)) ?_
    try go_wp2
    go_meet
    case rel => exact ⟨_, (true), (by first | rfl | (simp; done) | (simp [*]; done)), H', ⟨by first | omega | exact Nat.le_refl _⟩, ⟨by refine rn_ ?_; exact Kd.N_mono ak.out (fun _ hk => ⟨hk.1.1, ⟨hk.1.2.1, hk.1.2.2⟩⟩)⟩, ⟨by refine rn_ ?_; exact Kd.N_mono ap.out (fun _ hk => ⟨hk.1.1, ⟨hk.1.2.1, hk.1.2.2⟩⟩)⟩, ⟨by refine rb_ ?_; exact aa.out⟩, ⟨by refine rb_ ?_; exact ab.out⟩, ⟨by exact zp53_0_ HB.out aq.out aw.out⟩⟩
  case rest =>
   clear HC6
   try clear c1
   try clear c2
   try clear p2
   try clear c3
   try clear c11
   try clear c13
   try clear c18
   try clear c26
   try clear c28
   try clear c29
   try clear c30
   try clear c31
   try clear bm
   try clear bn
   try clear bo
   try clear bu
   try clear bv
   try clear bw
   try clear bp
   try clear bq
   try clear br
   try clear bx
   try clear bz
   try clear bA
   obtain ⟨kq, bt, rfl, HA, HJ5, af, ae, aa, ab, HB⟩ := hcut
   cases kq with
   | zero => exact absurd HA.out (by simp [laws_FnDerivatives.j0])
   | succ kj5 =>
    have H := HA.out
    clear HA
    simp only [laws_FnDerivatives.j0] at H
    by_cases c33 : bt = true
    ·subst c33
     have H1 : (some false) = some r := by rw [if_pos rfl] at H; exact H
     clear H
     have H := H1
     clear H1
     obtain rfl := Option.some.inj H
     exact absurd hR (by decide)
    ·replace c33 := Bool.eq_false_iff.mpr c33
     subst c33
     have H1 : ((spec_DrawMatchRegex.f kj5 l0).bind fun bt1055 => ((impl_MatchRegex.f kj5 bt1055.1 bt1055.2.1 bt1055.2.2.1 bt1055.2.2.2).bind fun aQ => ((spec_MatchRegex.f kj5 bt1055.1 bt1055.2.1 bt1055.2.2.1 bt1055.2.2.2).bind fun aR => (if (aQ != aR) = true then (some false) else ((spec_WordsUpTo.f kj5 2).bind fun aA => (laws_FnDerivatives.l0 kj5 aF aA 0 ao ar aj am an ai)))))) = some r := by rw [if_neg (show ¬ (false = true) by decide)] at H; exact H
     clear H
     have H := H1
     clear H1
     replace H := Option.bind_eq_some_iff.mp H
     obtain ⟨⟨aE, aG, az, bj⟩, bZ, H⟩ := H
     have A34 := am_ bZ
     clear bZ
     replace H := Option.bind_eq_some_iff.mp H
     obtain ⟨aQ, ca, H⟩ := H
     have A35 := am_ ca
     clear ca
     replace H := Option.bind_eq_some_iff.mp H
     obtain ⟨aR, cb, H⟩ := H
     have A36 := am_ cb
     clear cb
     by_cases c37 : (aQ != aR) = true
     ·rw [if_pos c37] at H
      have c37b0 : (aQ != aR) = true := c37
      (try (have c37b1 : decide (aQ = aR) = false := by simpa using c37))
      (try (have c37b2 : (aQ == aR) = false := by simpa using c37))
      (try (have c37b3 : ¬ (aQ = aR) := by simpa using c37))
      clear c37
      obtain rfl := Option.some.inj H
      exact absurd hR (by decide)
     ·rw [if_neg c37] at H
      have c37b0 : (aQ != aR) = false := by simpa using c37
      (try (have c37b1 : decide (aQ = aR) = true := by simpa using c37))
      (try (have c37b2 : (aQ == aR) = true := by simpa using c37))
      clear c37
      replace H := Option.bind_eq_some_iff.mp H
      obtain ⟨aA, cc, H⟩ := H
      have A38 := am_ cc
      clear cc
      have H' := am_ H
      clear H
      try go_wp2_with (first | ((with_reducible refine gate_callee (f := 35) rfl ?_); refine gL_ (some 35) Try.func35 #[.slice A0 l0.length c0] ?_; (with_reducible refine (spec_DrawMatchRegex.calls kj5 _ _ l0 aE aG az bj _ ?side1 ?side2 A34.out).mono ?_); (case side1 => exact rc_ (Kd.C_below HR0.out HB.out)); (case side2 => exact HC0.out); rintro e w39 ⟨cB, rfl, ho0, hb⟩; refine ⟨_, rfl, ?_⟩; have n0_ := am_ (Kd.N_elder' (rn_ af.out) (by first | exact Kd.N_base ho0 | exact Kd.R_base ho0) hb); have n1_ := am_ (Kd.N_elder' (rn_ ae.out) (by first | exact Kd.N_base ho0 | exact Kd.R_base ho0) hb); have n2_ := am_ (Kd.N_lower (Kd.N_mono (ok' := fun k_ => some k_ ≠ (.slice ay aj.length ax : Value).ownBlock ∧ some k_ ≠ (.slice au ai.length av : Value).ownBlock ∧ k_ ≠ ah ∧ k_ ≠ ad) ho0 (fun k_ hk_ => ⟨(Kd.fresh' (Kd.N_lt (rn_ af.out)) k_ hk_), (Kd.fresh' (Kd.N_lt (rn_ ae.out)) k_ hk_), (Kd.freshB (g := ah) (o := .cells #[.int .i64 ao, .string ar, .slice ay aj.length ax] 29 (0, 0)) (rb_ aa.out) k_ hk_), (Kd.freshB (g := ad) (o := .cells #[.int .i64 am, .string an, .slice au ai.length av] 29 (0, 0)) (rb_ ab.out) k_ hk_)⟩)) (below_size (b2_ HB.out aq.out aw.out))); have n3_ := am_ (blk_below (rb_ aa.out) hb); have n4_ := am_ (blk_below (rb_ ab.out) hb); have n5_ := am_ (below_step (b2_ HB.out aq.out aw.out) hb); clear af; clear ae; clear aa; clear ab; clear HB; have af := n0_; have ae := n1_; have aD := n2_; have aa := n3_; have ab := n4_; have HB := n5_; clear n0_ n1_ n2_ n3_ n4_ n5_; (try clear hb); (try clear hb2); (try clear hk); (try clear hi); (try clear ho0)) | ((with_reducible refine gate_dst (N := 6) rfl ?_); refine box_event ?hg (N := 6) ?hd (cs := #[.int .i64 0, .string (⟨#[]⟩ : ByteArray), .slice none 0 0]) (t := 29) ?hr ?_; (case hd => rfl); (case hg => rfl); (case hr => first | (go_simp; done) | (go_simp; rfl)); intro ag hg w40 hbox hb; have n0_ := am_ (Kd.N_below (Kd.N_elderB (rn_ af.out) ag (Nat.le_of_eq hg.symm)) hb); have n1_ := am_ (Kd.N_below (Kd.N_elderB (rn_ ae.out) ag (Nat.le_of_eq hg.symm)) hb); have n2_ := am_ (Kd.N_below (Kd.N_elderB (rn_ aD.out) ag (Nat.le_of_eq hg.symm)) hb); have n3_ := am_ (blk_below (rb_ aa.out) hb); have n4_ := am_ (blk_below (rb_ ab.out) hb); have n5_ := am_ (below_step (b2_ HB.out aq.out aw.out) hb); have n6_ := am_ (hbox); have n7_ := am_ ((by rw [hg]; exact (below_size (b2_ HB.out aq.out aw.out)) : w.heap.size ≤ ag)); have n8_ := am_ ((by rw [hg]; exact (below_size (b2_ HB.out aq.out aw.out)) : w.heap.size ≤ ag)); have n9_ := am_ ((by rw [hg]; exact Nat.ne_of_lt (blk_lt (rb_ aa.out)) : ah ≠ ag)); have n10_ := am_ ((by rw [hg]; exact Nat.ne_of_gt (blk_lt (rb_ aa.out)) : ag ≠ ah)); have n11_ := am_ ((by rw [hg]; exact Nat.ne_of_lt (blk_lt (rb_ ab.out)) : ad ≠ ag)); have n12_ := am_ ((by rw [hg]; exact Nat.ne_of_gt (blk_lt (rb_ ab.out)) : ag ≠ ad)); clear af; clear ae; clear aD; clear aa; clear ab; clear HB; have af := n0_; have ae := n1_; have aD := n2_; have aa := n3_; have ab := n4_; have HB := n5_; have al := n6_; have cw := n7_; have aL := n8_; have ba := n9_; have bE := n10_; have aU := n11_; have bh := n12_; clear n0_ n1_ n2_ n3_ n4_ n5_ n6_ n7_ n8_ n9_ n10_ n11_ n12_; clear hb hbox hg; have cC := bE.out; have cD := ba.out; have cE := bh.out; have cF := aU.out; have bF := ck_ (v := (.int .i64 0)) al 0 rfl; have bG := ck_ (v := (.string (⟨#[]⟩ : ByteArray))) al 1 rfl; have bH := ck_ (v := (.slice none 0 0)) al 2 rfl; have bI := blk_frozen al.out 0; have bJ := blk_frozen al.out 1; have bK := blk_frozen al.out 2; obtain ⟨aH, aI, cq⟩ := Kd.N_slice aD.out; subst cq))
      have n0_ : Aside0 (Kd.N k29 29 (((w40.setCell ⟨ag, 0, none⟩ (.int .i64 aE)).setCell ⟨ag, 1, none⟩ (.string aG)).setCell ⟨ag, 2, none⟩ (.slice aH az.length aI)) w.heap.size (fun k_ => some k_ ≠ (.slice au ai.length av : Value).ownBlock ∧ some k_ ≠ (.slice aH az.length aI : Value).ownBlock ∧ k_ ≠ ah ∧ k_ ≠ ad ∧ k_ ≠ ag) (.slice ay aj.length ax) aj) := ⟨by refine rn_ ?_; exact Kd.N_mono (Kd.N_far (p := ⟨ag, 2, none⟩) (Kd.N_far (p := ⟨ag, 1, none⟩) (Kd.N_far (p := ⟨ag, 0, none⟩) (Kd.N_mono af.out (fun k_ hk => (⟨hk, hk.2⟩ : _ ∧ k_ ≠ ag))) (fun _ hk => hk.2) (.int .i64 aE)) (fun _ hk => hk.2) (.string aG)) (fun _ hk => hk.2) (.slice aH az.length aI)) (fun _ hk => ⟨hk.1.1.1.1, ⟨hk.1.1.2, ⟨hk.1.1.1.2.1, ⟨hk.1.1.1.2.2, hk.1.2⟩⟩⟩⟩)⟩
      have n1_ : Aside0 (Kd.N k29 29 (((w40.setCell ⟨ag, 0, none⟩ (.int .i64 aE)).setCell ⟨ag, 1, none⟩ (.string aG)).setCell ⟨ag, 2, none⟩ (.slice aH az.length aI)) w.heap.size (fun k_ => some k_ ≠ (.slice ay aj.length ax : Value).ownBlock ∧ some k_ ≠ (.slice aH az.length aI : Value).ownBlock ∧ k_ ≠ ah ∧ k_ ≠ ad ∧ k_ ≠ ag) (.slice au ai.length av) ai) := ⟨by refine rn_ ?_; exact Kd.N_mono (Kd.N_far (p := ⟨ag, 2, none⟩) (Kd.N_far (p := ⟨ag, 1, none⟩) (Kd.N_far (p := ⟨ag, 0, none⟩) (Kd.N_mono ae.out (fun k_ hk => (⟨hk, hk.2⟩ : _ ∧ k_ ≠ ag))) (fun _ hk => hk.2) (.int .i64 aE)) (fun _ hk => hk.2) (.string aG)) (fun _ hk => hk.2) (.slice aH az.length aI)) (fun _ hk => ⟨hk.1.1.1.1, ⟨hk.1.1.2, ⟨hk.1.1.1.2.1, ⟨hk.1.1.1.2.2, hk.1.2⟩⟩⟩⟩)⟩
      have n2_ : Aside0 (Kd.N k29 29 (((w40.setCell ⟨ag, 0, none⟩ (.int .i64 aE)).setCell ⟨ag, 1, none⟩ (.string aG)).setCell ⟨ag, 2, none⟩ (.slice aH az.length aI)) w.heap.size (fun k_ => some k_ ≠ (.slice ay aj.length ax : Value).ownBlock ∧ some k_ ≠ (.slice au ai.length av : Value).ownBlock ∧ k_ ≠ ah ∧ k_ ≠ ad ∧ k_ ≠ ag) (.slice aH az.length aI) az) := ⟨by refine rn_ ?_; exact Kd.N_mono (Kd.N_far (p := ⟨ag, 2, none⟩) (Kd.N_far (p := ⟨ag, 1, none⟩) (Kd.N_far (p := ⟨ag, 0, none⟩) (Kd.N_mono aD.out (fun k_ hk => (⟨hk, hk.2⟩ : _ ∧ k_ ≠ ag))) (fun _ hk => hk.2) (.int .i64 aE)) (fun _ hk => hk.2) (.string aG)) (fun _ hk => hk.2) (.slice aH az.length aI)) (fun _ hk => ⟨hk.1.1.1, ⟨hk.1.1.2.1, ⟨hk.1.1.2.2.1, ⟨hk.1.1.2.2.2, hk.1.2⟩⟩⟩⟩)⟩
      have n3_ : Aside0 ((((w40.setCell ⟨ag, 0, none⟩ (.int .i64 aE)).setCell ⟨ag, 1, none⟩ (.string aG)).setCell ⟨ag, 2, none⟩ (.slice aH az.length aI)).heap[ah]? = some (.cells #[.int .i64 ao, .string ar, .slice ay aj.length ax] 29 (0, 0))) := ⟨by refine rb_ ?_; refine blk_far ?_ ba.out _; refine rb_ ?_; refine blk_far ?_ ba.out _; refine rb_ ?_; refine blk_far ?_ ba.out _; refine rb_ ?_; exact aa.out⟩
      have n4_ : Aside0 ((((w40.setCell ⟨ag, 0, none⟩ (.int .i64 aE)).setCell ⟨ag, 1, none⟩ (.string aG)).setCell ⟨ag, 2, none⟩ (.slice aH az.length aI)).heap[ad]? = some (.cells #[.int .i64 am, .string an, .slice au ai.length av] 29 (0, 0))) := ⟨by refine rb_ ?_; refine blk_far ?_ aU.out _; refine rb_ ?_; refine blk_far ?_ aU.out _; refine rb_ ?_; refine blk_far ?_ aU.out _; refine rb_ ?_; exact ab.out⟩
      have n5_ : Aside0 ((((w40.setCell ⟨ag, 0, none⟩ (.int .i64 aE)).setCell ⟨ag, 1, none⟩ (.string aG)).setCell ⟨ag, 2, none⟩ (.slice aH az.length aI)).heap[ag]? = some (.cells #[.int .i64 aE, .string aG, .slice aH az.length aI] 29 (0, 0))) := ⟨by refine rb_ ?_; refine blk_put (cs := #[.int .i64 aE, .string aG, .slice none 0 0]) ?_ 2 _ rfl; refine rb_ ?_; refine blk_put (cs := #[.int .i64 aE, .string (⟨#[]⟩ : ByteArray), .slice none 0 0]) ?_ 1 _ rfl; refine rb_ ?_; refine blk_put (cs := #[.int .i64 0, .string (⟨#[]⟩ : ByteArray), .slice none 0 0]) ?_ 0 _ rfl; refine rb_ ?_; exact al.out⟩
      have n6_ : Aside0 (Below w.heap.size w (((w40.setCell ⟨ag, 0, none⟩ (.int .i64 aE)).setCell ⟨ag, 1, none⟩ (.string aG)).setCell ⟨ag, 2, none⟩ (.slice aH az.length aI))) := ⟨by exact zp53_1_ HB.out aq.out aw.out aL.out⟩
      (try clear af)
      (try clear ae)
      (try clear aD)
      (try clear aa)
      (try clear ab)
      (try clear al)
      (try clear HB)
      generalize (((w40.setCell ⟨ag, 0, none⟩ (.int .i64 aE)).setCell ⟨ag, 1, none⟩ (.string aG)).setCell ⟨ag, 2, none⟩ (.slice aH az.length aI)) = w45 at n0_ n1_ n2_ n3_ n4_ n5_ n6_ ⊢
      have af := n0_; have ae := n1_; have aD := n2_; have aa := n3_; have ab := n4_; have al := n5_; have HB := n6_
      clear n0_ n1_ n2_ n3_ n4_ n5_ n6_
      replace af := am_ (Kd.N_drew af.out)
      replace ae := am_ (Kd.N_drew ae.out)
      replace aD := am_ (Kd.N_drew aD.out)
      replace aa := am_ (blk_drew aa.out)
      replace ab := am_ (blk_drew ab.out)
      replace al := am_ (blk_drew al.out)
      replace HB := am_ (below_drew1 HB.out)
      refine start_ (n := 7) (S := fun w' => w'.cell? ⟨ag, 0, none⟩ = some (.int .i64 aE) ∧ w'.cell? ⟨ag, 1, none⟩ = some (.string aG) ∧ w'.cell? ⟨ag, 2, none⟩ = some (.slice aH az.length aI)) (ds := []) #[false, false, false, false, false, false, false] (by kernel_rfl) rfl rfl ⟨(blk_cell al.out 0).trans rfl, (blk_cell al.out 1).trans rfl, (blk_cell al.out 2).trans rfl⟩ (fun hHeld => ?_)
      generalize w45.drew = w46 at af ae aD aa ab al HB hHeld ⊢
      refine pure_ (i := 1) (N := some 39) (v := ?_) (a' := ?_) #[false, true, false, false, false, false, false] rfl rfl (by kernel_rfl) (fun _ _ _ h => h) (Or.inl ⟨by rfl, ?_⟩) ?_ ?_
      rotate_left; (focus (intro w'; go_simp; with_reducible rfl)); rotate_left; (focus (simp only [pn_, sz_, ss_, i64_w, i32_w]; rfl))
      refine pure_ (i := 4) (N := some 42) (v := ?_) (a' := ?_) #[false, true, false, false, true, false, false] rfl rfl (by kernel_rfl) (fun _ _ _ h => h) (Or.inl ⟨by rfl, ?_⟩) ?_ ?_
      rotate_left; (focus (intro w'; go_simp; with_reducible rfl)); rotate_left; (focus (simp only [pn_, sz_, ss_, i64_w, i32_w]; rfl))
      refine take_ (i := 0) (N := some 38) (v := ?_) (a' := ?_) #[true, true, false, false, true, false, false] rfl rfl (by kernel_rfl) (fun _ _ _ h => h) (Or.inl ⟨by rfl, ?_⟩) hHeld ?_ ?_
      rotate_left; (focus (rintro w' ⟨s0, s1, s2⟩; go_simp; with_reducible rfl)); rotate_left; (focus (simp only [pn_, sz_, ss_, i64_w, i32_w]; rfl))
      refine take_ (i := 3) (N := some 41) (v := ?_) (a' := ?_) #[true, true, false, true, true, false, false] rfl rfl (by kernel_rfl) (fun _ _ _ h => h) (Or.inl ⟨by rfl, ?_⟩) hHeld ?_ ?_
      rotate_left; (focus (rintro w' ⟨s0, s1, s2⟩; go_simp; with_reducible rfl)); rotate_left; (focus (simp only [pn_, sz_, ss_, i64_w, i32_w]; rfl))
      refine one_ (i := 2) (N := some 40) #[true, true, true, true, true, false, false] rfl rfl (by kernel_rfl) (by decide) (fun K hK => ?_)
      refine gO_ Try.func26 #[.agg #[.int .i64 aE, .string aG, .slice aH az.length aI], .string bj] ?_
      with_reducible refine (impl_MatchRegex.calls kj5 aE aG _ _ az bj aQ _ ?side1 ?side2 A35.out).mono ?_
      (case side1 => exact rc_ ((Kd.N_reads' aD.out).2.2))
      (case side2 => exact (Kd.N_reads' aD.out).2.1)
      rintro e w47 ⟨rfl, hb⟩
      refine ⟨_, rfl, ?_⟩
      replace af := am_ (Kd.N_below (rn_ af.out) hb)
      replace ae := am_ (Kd.N_below (rn_ ae.out) hb)
      replace aD := am_ (Kd.N_below (rn_ aD.out) hb)
      replace aa := am_ (blk_below (rb_ aa.out) hb)
      replace ab := am_ (blk_below (rb_ ab.out) hb)
      replace al := am_ (blk_below (rb_ al.out) hb)
      replace HB := am_ (below_step (b3_ HB.out aq.out aw.out aL.out) hb)
      (try clear hb)
      (try clear hb2)
      (try clear hk)
      (try clear hi)
      refine hK.out _ _ ⟨(blk_cell al.out 0).trans rfl, (blk_cell al.out 1).trans rfl, (blk_cell al.out 2).trans rfl⟩ (fun hHeld => ?_)
      clear hK K
      refine norm_ (a' := ?_) ?_ ?_
      rotate_left
      ·show Act.put _ (some 40) _ = _
       simp only [pn_, sz_, ss_, i64_w, i32_w]
       rfl
      refine one_ (i := 5) (N := some 43) #[true, true, true, true, true, true, false] rfl rfl (by kernel_rfl) (by decide) (fun K hK => ?_)
      refine gO_ Try.func25 #[.agg #[.int .i64 aE, .string aG, .slice aH az.length aI], .string bj] ?_
      with_reducible refine (spec_MatchRegex.calls kj5 aE aG _ _ az bj aR _ ?side1 ?side2 A36.out).mono ?_
      (case side1 => exact rc_ ((Kd.N_reads' aD.out).2.2))
      (case side2 => exact (Kd.N_reads' aD.out).2.1)
      rintro e w48 ⟨rfl, hb⟩
      refine ⟨_, rfl, ?_⟩
      replace af := am_ (Kd.N_below (rn_ af.out) hb)
      replace ae := am_ (Kd.N_below (rn_ ae.out) hb)
      replace aD := am_ (Kd.N_below (rn_ aD.out) hb)
      replace aa := am_ (blk_below (rb_ aa.out) hb)
      replace ab := am_ (blk_below (rb_ ab.out) hb)
      replace al := am_ (blk_below (rb_ al.out) hb)
      replace HB := am_ (below_step (b3_ HB.out aq.out aw.out aL.out) hb)
      (try clear hb)
      (try clear hb2)
      (try clear hk)
      (try clear hi)
      refine hK.out _ _ ⟨(blk_cell al.out 0).trans rfl, (blk_cell al.out 1).trans rfl, (blk_cell al.out 2).trans rfl⟩ (fun hHeld => ?_)
      clear hK K
      refine norm_ (a' := ?_) ?_ ?_
      rotate_left
      ·show Act.put _ (some 43) _ = _
       simp only [pn_, sz_, ss_, i64_w, i32_w]
       rfl
      refine pure_ (i := 6) (N := some 44) (v := ?_) (a' := ?_) #[true, true, true, true, true, true, true] rfl rfl (by kernel_rfl) (fun _ _ _ h => h) (Or.inl ⟨by rfl, ?_⟩) ?_ ?_
      rotate_left; (focus (intro w'; go_simp; with_reducible rfl)); rotate_left; (focus (simp only [pn_, sz_, ss_, i64_w, i32_w]; rfl))
      refine done_ (by kernel_rfl) ?_
      try go_wp2_with (first | ((with_reducible refine gate_callee (f := 36) rfl ?_); refine gL_ (some 45) Try.func36 #[.int .i64 2] ?_; (with_reducible refine (spec_WordsUpTo.calls kj5 2 aA _ A38.out).mono ?_); rintro e w49 ⟨bb, rfl, ho0, hb⟩; refine ⟨_, rfl, ?_⟩; have n0_ := am_ (Kd.N_elder' (rn_ af.out) (Kd.R_base ho0) hb); have n1_ := am_ (Kd.N_elder' (rn_ ae.out) (Kd.R_base ho0) hb); have n2_ := am_ (Kd.N_elder' (rn_ aD.out) (Kd.R_base ho0) hb); have n3_ := am_ (Kd.R_lower ho0 (below_size (b3_ HB.out aq.out aw.out aL.out))); have n4_ := am_ (blk_below (rb_ aa.out) hb); have n5_ := am_ (blk_below (rb_ ab.out) hb); have n6_ := am_ (blk_below (rb_ al.out) hb); have n7_ := am_ (below_step (b3_ HB.out aq.out aw.out aL.out) hb); clear af; clear ae; clear aD; clear aa; clear ab; clear al; clear HB; have af := n0_; have ae := n1_; have aD := n2_; have cd := n3_; have aa := n4_; have ab := n5_; have al := n6_; have HB := n7_; clear n0_ n1_ n2_ n3_ n4_ n5_ n6_ n7_; (try clear hb); (try clear hb2); (try clear hk); (try clear hi); (try clear ho0)))
      go_loopg [9] kj5 (fun kq v9 w' => ∃ (aC : Int), v9 = .int .i64 aC ∧ Aside0 (laws_FnDerivatives.l0 kq aF aA aC ao ar aj am an ai = some r) ∧ Aside0 (kq ≤ kj5) ∧ Aside0 (Kd.R Kd.string 9 w' w.heap.size (fun _ => True) bb aA) ∧ Aside0 (Kd.N k29 29 w' w.heap.size (fun k_ => some k_ ≠ (bb : Value).ownBlock ∧ some k_ ≠ ((.slice au ai.length av) : Value).ownBlock ∧ some k_ ≠ ((.slice aH az.length aI) : Value).ownBlock ∧ k_ ≠ ah ∧ k_ ≠ ad ∧ k_ ≠ ag) (.slice ay aj.length ax) aj) ∧ Aside0 (Kd.N k29 29 w' w.heap.size (fun k_ => some k_ ≠ (bb : Value).ownBlock ∧ some k_ ≠ ((.slice ay aj.length ax) : Value).ownBlock ∧ some k_ ≠ ((.slice aH az.length aI) : Value).ownBlock ∧ k_ ≠ ah ∧ k_ ≠ ad ∧ k_ ≠ ag) (.slice au ai.length av) ai) ∧ Aside0 (Kd.N k29 29 w' w.heap.size (fun k_ => some k_ ≠ (bb : Value).ownBlock ∧ some k_ ≠ ((.slice ay aj.length ax) : Value).ownBlock ∧ some k_ ≠ ((.slice au ai.length av) : Value).ownBlock ∧ k_ ≠ ah ∧ k_ ≠ ad ∧ k_ ≠ ag) (.slice aH az.length aI) az) ∧ Aside0 (w'.heap[ah]? = some (.cells #[.int .i64 ao, .string ar, (.slice ay aj.length ax)] 29 (0, 0))) ∧ Aside0 (w'.heap[ad]? = some (.cells #[.int .i64 am, .string an, (.slice au ai.length av)] 29 (0, 0))) ∧ Aside0 (w'.heap[ag]? = some (.cells #[.int .i64 aE, .string aG, (.slice aH az.length aI)] 29 (0, 0))) ∧ Aside0 (Below w.heap.size w w'))
      case atStart => exact ⟨(0), (by first | rfl | (simp; done) | (simp [*]; done)), H', ⟨Nat.le_refl _⟩, ⟨by refine rr_ ?_; exact cd.out⟩, ⟨by refine rn_ ?_; exact Kd.N_mono af.out (fun _ hk => ⟨hk.2, ⟨hk.1.1, ⟨hk.1.2.1, ⟨hk.1.2.2.1, ⟨hk.1.2.2.2.1, hk.1.2.2.2.2⟩⟩⟩⟩⟩)⟩, ⟨by refine rn_ ?_; exact Kd.N_mono ae.out (fun _ hk => ⟨hk.2, ⟨hk.1.1, ⟨hk.1.2.1, ⟨hk.1.2.2.1, ⟨hk.1.2.2.2.1, hk.1.2.2.2.2⟩⟩⟩⟩⟩)⟩, ⟨by refine rn_ ?_; exact Kd.N_mono aD.out (fun _ hk => ⟨hk.2, ⟨hk.1.1, ⟨hk.1.2.1, ⟨hk.1.2.2.1, ⟨hk.1.2.2.2.1, hk.1.2.2.2.2⟩⟩⟩⟩⟩)⟩, ⟨by refine rb_ ?_; exact aa.out⟩, ⟨by refine rb_ ?_; exact ab.out⟩, ⟨by refine rb_ ?_; exact al.out⟩, ⟨by exact zp53_1_ HB.out aq.out aw.out aL.out⟩⟩
      case round =>
       clear H'
       try clear c1
       try clear c2
       try clear p2
       try clear c3
       try clear c4
       try clear c11
       try clear c13
       try clear c18
       try clear c25
       try clear c26
       try clear c28
       try clear c29
       try clear c30
       try clear c31
       try clear c33
       try clear c35
       try clear c36
       try clear c37
       try clear c37b0
       try clear c37b1
       try clear c37b2
       try clear c41
       try clear c42
       try clear bm
       try clear bn
       try clear bo
       try clear bF
       try clear bG
       try clear bH
       try clear bu
       try clear bv
       try clear bw
       try clear bp
       try clear bq
       try clear br
       try clear bI
       try clear bJ
       try clear bK
       try clear bx
       try clear bz
       try clear bA
       try clear p2
       obtain ⟨aC, rfl, HA, HK2, aM, af, ae, aB, aa, ab, al, HB⟩ := hrel
       cases gk with
       | zero => exact absurd HA.out (by simp [laws_FnDerivatives.l0])
       | succ k2 =>
        have H := HA.out
        clear HA
        simp only [laws_FnDerivatives.l0] at H
        have HC50 := am_ H
        clear H
        go_upto_region 12 with (fail)
        go_cut [53] (fun v53 wc => ∃ (kq : Nat) (bk : Bool), v53 = .bool bk ∧ Aside0 (laws_FnDerivatives.j2 kq aF aA aC bk ao ar aj am an ai = some r) ∧ Aside0 (kq ≤ k2) ∧ Aside0 (Kd.R Kd.string 9 wc w.heap.size (fun _ => True) bb aA) ∧ Aside0 (Kd.N k29 29 wc w.heap.size (fun k_ => some k_ ≠ (bb : Value).ownBlock ∧ some k_ ≠ ((.slice au ai.length av) : Value).ownBlock ∧ some k_ ≠ ((.slice aH az.length aI) : Value).ownBlock ∧ k_ ≠ ah ∧ k_ ≠ ad ∧ k_ ≠ ag) (.slice ay aj.length ax) aj) ∧ Aside0 (Kd.N k29 29 wc w.heap.size (fun k_ => some k_ ≠ (bb : Value).ownBlock ∧ some k_ ≠ ((.slice ay aj.length ax) : Value).ownBlock ∧ some k_ ≠ ((.slice aH az.length aI) : Value).ownBlock ∧ k_ ≠ ah ∧ k_ ≠ ad ∧ k_ ≠ ag) (.slice au ai.length av) ai) ∧ Aside0 (Kd.N k29 29 wc w.heap.size (fun k_ => some k_ ≠ (bb : Value).ownBlock ∧ some k_ ≠ ((.slice ay aj.length ax) : Value).ownBlock ∧ some k_ ≠ ((.slice au ai.length av) : Value).ownBlock ∧ k_ ≠ ah ∧ k_ ≠ ad ∧ k_ ≠ ag) (.slice aH az.length aI) az) ∧ Aside0 (wc.heap[ah]? = some (.cells #[.int .i64 ao, .string ar, (.slice ay aj.length ax)] 29 (0, 0))) ∧ Aside0 (wc.heap[ad]? = some (.cells #[.int .i64 am, .string an, (.slice au ai.length av)] 29 (0, 0))) ∧ Aside0 (wc.heap[ag]? = some (.cells #[.int .i64 aE, .string aG, (.slice aH az.length aI)] 29 (0, 0))) ∧ Aside0 (Below w.heap.size w wc))
        case first =>
         have H := HC50.out
         clear HC50
         by_cases c51 : aC < (aA.length : Int)
         ·rw [if_pos c51] at H
          have c51b0 : decide (aC < (aA.length : Int)) = true := decide_eq_true c51
          clear c51
          (first | rw [c51b0] | (simp only [i64_w, i32_w]; rw [c51b0]) | skip)
          replace H := Option.bind_eq_some_iff.mp H
          obtain ⟨bs, ce, H⟩ := H
          have A52 := am_ ce
          clear ce
          have H' := am_ H
          clear H
          obtain ⟨cK, cL, cr⟩ := Kd.R_slice aM.out
          subst cr
          have cG := bg.out
          have cH := aJ.out
          have cI := aU.out
          have cJ := bh.out
          have bN := ck_ (v := (.int .i64 am)) ab 0 rfl
          have bO := ck_ (v := (.string an)) ab 1 rfl
          have bP := ck_ (v := (.slice au ai.length av)) ab 2 rfl
          have bQ := blk_frozen ab.out 0
          have bR := blk_frozen ab.out 1
          have bS := blk_frozen ab.out 2
          go_wp2_with (first | (go_at_call 17; (with_reducible refine (spec_IsValidRegex.calls k2 am an _ _ ai bs _ ?side1 ?side2 A52.out).mono ?_); (case side1 => exact rc_ ((Kd.N_reads' ae.out).2.2)); (case side2 => exact (Kd.N_reads' ae.out).2.1); rintro e w57 ⟨rfl, hb⟩; have n0_ := am_ (Kd.R_below (rr_ aM.out) hb); have n1_ := am_ (Kd.N_below (rn_ af.out) hb); have n2_ := am_ (Kd.N_below (rn_ ae.out) hb); have n3_ := am_ (Kd.N_below (rn_ aB.out) hb); have n4_ := am_ (blk_below (rb_ aa.out) hb); have n5_ := am_ (blk_below (rb_ ab.out) hb); have n6_ := am_ (blk_below (rb_ al.out) hb); have n7_ := am_ (below_step (b3_ HB.out aq.out aw.out aL.out) hb); clear aM; clear af; clear ae; clear aB; clear aa; clear ab; clear al; clear HB; have aM := n0_; have af := n1_; have ae := n2_; have aB := n3_; have aa := n4_; have ab := n5_; have al := n6_; have HB := n7_; clear n0_ n1_ n2_ n3_ n4_ n5_ n6_ n7_; (try clear hb); (try clear hb2); (try clear hk); (try clear hi)))
          go_meet
          case rel => exact ⟨_, (bs), (by first | rfl | (simp; done) | (simp [*]; done)), H', ⟨by have := HJ5.out; have := HK2.out; first | omega | exact Nat.le_refl _⟩, ⟨by refine rr_ ?_; exact aM.out⟩, ⟨by refine rn_ ?_; exact af.out⟩, ⟨by refine rn_ ?_; exact ae.out⟩, ⟨by refine rn_ ?_; exact aB.out⟩, ⟨by refine rb_ ?_; exact aa.out⟩, ⟨by refine rb_ ?_; exact ab.out⟩, ⟨by refine rb_ ?_; exact al.out⟩, ⟨by exact zp53_1_ HB.out aq.out aw.out aL.out⟩⟩
         ·rw [if_neg c51] at H
          have c51b0 : decide (aC < (aA.length : Int)) = false := decide_eq_false c51
          clear c51
          (first | rw [c51b0] | (simp only [i64_w, i32_w]; rw [c51b0]) | skip)
          have H' := am_ H
          clear H
          obtain ⟨cM, cN, ct⟩ := Kd.R_slice aM.out
          subst ct
          go_wp2
          go_meet
          case rel => exact ⟨_, (false), (by first | rfl | (simp; done) | (simp [*]; done)), H', ⟨by have := HJ5.out; have := HK2.out; first | omega | exact Nat.le_refl _⟩, ⟨by refine rr_ ?_; exact aM.out⟩, ⟨by refine rn_ ?_; exact af.out⟩, ⟨by refine rn_ ?_; exact ae.out⟩, ⟨by refine rn_ ?_; exact aB.out⟩, ⟨by refine rb_ ?_; exact aa.out⟩, ⟨by refine rb_ ?_; exact ab.out⟩, ⟨by refine rb_ ?_; exact al.out⟩, ⟨by exact zp53_1_ HB.out aq.out aw.out aL.out⟩⟩
        case rest =>
         clear HC50
         try clear c1
         try clear c2
         try clear p2
         try clear c3
         try clear c4
         try clear c5
         try clear c11
         try clear c13
         try clear c18
         try clear c25
         try clear c26
         try clear c28
         try clear c29
         try clear c30
         try clear c31
         try clear c33
         try clear c35
         try clear c36
         try clear c37
         try clear c37b0
         try clear c37b1
         try clear c37b2
         try clear c41
         try clear c42
         try clear c51
         try clear c51b0
         try clear c54
         try clear c55
         try clear bm
         try clear bn
         try clear bo
         try clear bF
         try clear bG
         try clear bH
         try clear bN
         try clear bO
         try clear bP
         try clear bu
         try clear bv
         try clear bw
         try clear bp
         try clear bq
         try clear br
         try clear bI
         try clear bJ
         try clear bK
         try clear bQ
         try clear bR
         try clear bS
         try clear bx
         try clear bz
         try clear bA
         try clear p2
         obtain ⟨kq, bk, rfl, HA, HJ49, aM, af, ae, aB, aa, ab, al, HB⟩ := hcut
         cases kq with
         | zero => exact absurd HA.out (by simp [laws_FnDerivatives.j2])
         | succ kj49 =>
          have H := HA.out
          clear HA
          simp only [laws_FnDerivatives.j2] at H
          by_cases c59 : bk = true
          ·subst c59
           have H1 : (if 0 ≤ aC then (if aC < (aA.length : Int) then ((impl_MatchRegex.f kj49 am an ai (rdOf ByteArray.empty aA aC)).bind fun aS => (if aF.size + (rdOf ByteArray.empty aA aC).size ≤ 9223372036854775807 then ((impl_MatchRegex.f kj49 ao ar aj (aF ++ (rdOf ByteArray.empty aA aC))).bind fun aT => (if (aS != aT) = true then (some false) else (laws_FnDerivatives.l0 kj49 aF aA (wrap64 (aC + 1)) ao ar aj am an ai))) else (none))) else (none)) else (none)) = some r := by rw [if_pos rfl] at H; exact H
           clear H
           have H := H1
           clear H1
           by_cases c60 : 0 ≤ aC
           ·rw [if_pos c60] at H
            have c60b0 : decide (0 ≤ aC) = true := decide_eq_true c60
            clear c60
            by_cases c61 : aC < (aA.length : Int)
            ·rw [if_pos c61] at H
             have c61b0 : decide (aC < (aA.length : Int)) = true := decide_eq_true c61
             clear c61
             replace H := Option.bind_eq_some_iff.mp H
             obtain ⟨aS, cf, H⟩ := H
             have A62 := am_ cf
             clear cf
             by_cases c63 : aF.size + (rdOf ByteArray.empty aA aC).size ≤ 9223372036854775807
             ·rw [if_pos c63] at H
              have c63b0 := eq_true c63
              have c63b1 : decide (aF.size + (rdOf ByteArray.empty aA aC).size ≤ 9223372036854775807) = true := decide_eq_true c63
              try have c63b2 : (9223372036854775807 < aF.size + (rdOf ByteArray.empty aA aC).size) = False := eq_false (Nat.not_lt.2 c63)
              replace H := Option.bind_eq_some_iff.mp H
              obtain ⟨aT, cg, H⟩ := H
              have A64 := am_ cg
              clear cg
              by_cases c65 : (aS != aT) = true
              ·rw [if_pos c65] at H
               have c65b0 : (aS != aT) = true := c65
               (try (have c65b1 : decide (aS = aT) = false := by simpa using c65))
               (try (have c65b2 : (aS == aT) = false := by simpa using c65))
               (try (have c65b3 : ¬ (aS = aT) := by simpa using c65))
               clear c65
               obtain rfl := Option.some.inj H
               exact absurd hR (by decide)
              ·rw [if_neg c65] at H
               have c65b0 : (aS != aT) = false := by simpa using c65
               (try (have c65b1 : decide (aS = aT) = true := by simpa using c65))
               (try (have c65b2 : (aS == aT) = true := by simpa using c65))
               clear c65
               have H' := am_ H
               clear H
               try go_wp2
               replace aM := am_ (Kd.R_drew aM.out)
               replace af := am_ (Kd.N_drew af.out)
               replace ae := am_ (Kd.N_drew ae.out)
               replace aB := am_ (Kd.N_drew aB.out)
               replace aa := am_ (blk_drew aa.out)
               replace ab := am_ (blk_drew ab.out)
               replace al := am_ (blk_drew al.out)
               replace HB := am_ (below_drew1 HB.out)
               obtain ⟨cO, cP, ch⟩ := Kd.R_slice aM.out
               (first | subst ch | (injection ch with f1_ f2_ f3_; have f4_ := f1_.symm; have f5_ := f3_.symm; clear f1_ f2_ f3_; subst f4_; subst f5_))
               have p1068 : 0 ≤ (aC : Int) := of_decide_eq_true ah_
               have q1068 : aC < (aA.length : Int) := of_decide_eq_true ah_
               obtain ⟨bB, e1068, bC⟩ := Kd.at_string (Kd.R_reads' aM.out).2.2 aC p1068 q1068
               cases e1068
               replace p1068 := eq_true p1068
               replace q1068 := eq_true q1068
               have p1070 : 0 ≤ (aC : Int) := of_decide_eq_true ah_
               have q1070 : aC < (aA.length : Int) := of_decide_eq_true ah_
               obtain ⟨ci, e1070, bD⟩ := Kd.at_string (Kd.R_reads' aM.out).2.2 aC p1070 q1070
               obtain rfl : bB = ci := (by injection e1070)
               replace p1070 := eq_true p1070
               replace q1070 := eq_true q1070
               refine start_ (n := 15) (S := fun w' => w'.cell? ⟨ad, 0, none⟩ = some (.int .i64 am) ∧ w'.cell? ⟨ad, 1, none⟩ = some (.string an) ∧ w'.cell? ⟨ad, 2, none⟩ = some (.slice au ai.length av) ∧ w'.cell? ⟨ah, 0, none⟩ = some (.int .i64 ao) ∧ w'.cell? ⟨ah, 1, none⟩ = some (.string ar) ∧ w'.cell? ⟨ah, 2, none⟩ = some (.slice ay aj.length ax) ∧ w'.cell? (bB.add (aC).toNat) = some (.string (rdOf ByteArray.empty aA aC)) ∧ w'.cell? (bB.add (aC).toNat) = some (.string (rdOf ByteArray.empty aA aC))) (ds := []) (bl 15 0) (by kernel_rfl) rfl rfl ⟨(blk_cell ab.out 0).trans rfl, (blk_cell ab.out 1).trans rfl, (blk_cell ab.out 2).trans rfl, (blk_cell aa.out 0).trans rfl, (blk_cell aa.out 1).trans rfl, (blk_cell aa.out 2).trans rfl, bC, bD⟩ (fun hHeld => ?_); refine with_tabW laws_FnDerivatives.tab14 laws_FnDerivatives.bits14 (fun HT_ HW_ => ?_)
               generalize wc.drew = w66 at aM af ae aB aa ab al HB bC bD hHeld ⊢
               refine pu_ 1 57 (bl 15 2) HT_ ?_
               refine pu_ 2 58 (bl 15 6) HT_ ?_
               refine pu_ 3 59 (bl 15 14) HT_ ?_
               refine pu_ 7 63 (bl 15 142) HT_ ?_
               refine pu_ 8 64 (bl 15 398) HT_ ?_
               refine pu_ 9 65 (bl 15 910) HT_ ?_
               refine pu_ 10 66 (bl 15 1934) HT_ ?_
               refine tk_ 0 56 (bl 15 1935) HT_ HW_ hHeld ?_
               refine tk_ 4 60 (bl 15 1951) HT_ HW_ hHeld ?_
               refine tk_ 6 62 (bl 15 2015) HT_ HW_ hHeld ?_
               refine tk_ 11 67 (bl 15 4063) HT_ HW_ hHeld ?_
               refine pu_ 12 68 (bl 15 8159) HT_ ?_
               refine on_ 5 (some 61) (bl 15 8191) HT_ (fun K hK => ?_)
               refine gO_ Try.func26 #[.agg #[.int .i64 am, .string an, .slice au ai.length av], .string (rdOf ByteArray.empty aA aC)] ?_
               with_reducible refine (impl_MatchRegex.calls kj49 am an _ _ ai (rdOf ByteArray.empty aA aC) aS _ ?side1 ?side2 A62.out).mono ?_
               (case side1 => exact rc_ ((Kd.N_reads' ae.out).2.2))
               (case side2 => exact (Kd.N_reads' ae.out).2.1)
               rintro e w68 ⟨rfl, hb⟩
               have bL := (hb.cell (World.block_lt_of_cell? _ _ (hHeld.2.2.2.2.2.2.1))).trans (hHeld.2.2.2.2.2.2.1)
               have bM := (hb.cell (World.block_lt_of_cell? _ _ (hHeld.2.2.2.2.2.2.2))).trans (hHeld.2.2.2.2.2.2.2)
               refine ⟨_, rfl, ?_⟩
               replace aM := am_ (Kd.R_below (rr_ aM.out) hb)
               replace af := am_ (Kd.N_below (rn_ af.out) hb)
               replace ae := am_ (Kd.N_below (rn_ ae.out) hb)
               replace aB := am_ (Kd.N_below (rn_ aB.out) hb)
               replace aa := am_ (blk_below (rb_ aa.out) hb)
               replace ab := am_ (blk_below (rb_ ab.out) hb)
               replace al := am_ (blk_below (rb_ al.out) hb)
               replace HB := am_ (below_step (b3_ HB.out aq.out aw.out aL.out) hb)
               (try clear hb)
               (try clear hb2)
               (try clear hk)
               (try clear hi)
               refine hK.out _ _ ⟨(blk_cell ab.out 0).trans rfl, (blk_cell ab.out 1).trans rfl, (blk_cell ab.out 2).trans rfl, (blk_cell aa.out 0).trans rfl, (blk_cell aa.out 1).trans rfl, (blk_cell aa.out 2).trans rfl, bL, bM⟩ (fun hHeld => ?_)
               clear hK K
               refine norm_ (a' := ?_) ?_ ?_
               rotate_left
               ·show Act.put _ (some 61) _ = _
                simp only [pn_, sz_, ss_, i64_w, i32_w]
                rfl
               refine on_ 13 (some 69) (bl 15 16383) HT_ (fun K hK => ?_)
               refine gO_ Try.func26 #[.agg #[.int .i64 ao, .string ar, .slice ay aj.length ax], .string (aF ++ (rdOf ByteArray.empty aA aC))] ?_
               with_reducible refine (impl_MatchRegex.calls kj49 ao ar _ _ aj (aF ++ (rdOf ByteArray.empty aA aC)) aT _ ?side1 ?side2 A64.out).mono ?_
               (case side1 => exact rc_ ((Kd.N_reads' af.out).2.2))
               (case side2 => exact (Kd.N_reads' af.out).2.1)
               rintro e w69 ⟨rfl, hb⟩
               have bL := (hb.cell (World.block_lt_of_cell? _ _ (hHeld.2.2.2.2.2.2.1))).trans (hHeld.2.2.2.2.2.2.1)
               have bM := (hb.cell (World.block_lt_of_cell? _ _ (hHeld.2.2.2.2.2.2.2))).trans (hHeld.2.2.2.2.2.2.2)
               refine ⟨_, rfl, ?_⟩
               replace aM := am_ (Kd.R_below (rr_ aM.out) hb)
               replace af := am_ (Kd.N_below (rn_ af.out) hb)
               replace ae := am_ (Kd.N_below (rn_ ae.out) hb)
               replace aB := am_ (Kd.N_below (rn_ aB.out) hb)
               replace aa := am_ (blk_below (rb_ aa.out) hb)
               replace ab := am_ (blk_below (rb_ ab.out) hb)
               replace al := am_ (blk_below (rb_ al.out) hb)
               replace HB := am_ (below_step (b3_ HB.out aq.out aw.out aL.out) hb)
               (try clear hb)
               (try clear hb2)
               (try clear hk)
               (try clear hi)
               refine hK.out _ _ ⟨(blk_cell ab.out 0).trans rfl, (blk_cell ab.out 1).trans rfl, (blk_cell ab.out 2).trans rfl, (blk_cell aa.out 0).trans rfl, (blk_cell aa.out 1).trans rfl, (blk_cell aa.out 2).trans rfl, bL, bM⟩ (fun hHeld => ?_)
               clear hK K
               refine norm_ (a' := ?_) ?_ ?_
               rotate_left
               ·show Act.put _ (some 69) _ = _
                simp only [pn_, sz_, ss_, i64_w, i32_w]
                rfl
               refine pu_ 14 70 (bl 15 32767) HT_ ?_
               refine done_ (done_of HT_.out (by kernel_rfl)) ?_
               try go_wp2
               go_roundg kj49
               case measure => have := HJ5.out; have := HK2.out; have := HJ49.out; omega
               case rel => exact ⟨(wrap64 (aC + 1)), (by first | rfl | (simp; done) | (simp [*]; done)), H', ⟨by have := HJ5.out; have := HK2.out; have := HJ49.out; omega⟩, ⟨by refine rr_ ?_; exact aM.out⟩, ⟨by refine rn_ ?_; exact af.out⟩, ⟨by refine rn_ ?_; exact ae.out⟩, ⟨by refine rn_ ?_; exact aB.out⟩, ⟨by refine rb_ ?_; exact aa.out⟩, ⟨by refine rb_ ?_; exact ab.out⟩, ⟨by refine rb_ ?_; exact al.out⟩, ⟨by exact zp53_1_ HB.out aq.out aw.out aL.out⟩⟩
             ·rw [if_neg c63] at H
              exact absurd H (by simp)
            ·rw [if_neg c61] at H
             exact absurd H (by simp)
           ·rw [if_neg c60] at H
            exact absurd H (by simp)
          ·replace c59 := Bool.eq_false_iff.mpr c59
           subst c59
           have H1 : (some true) = some r := by rw [if_neg (show ¬ (false = true) by decide)] at H; exact H
           clear H
           have H := H1
           clear H1
           obtain rfl := Option.some.inj H
           simp only [Option.some.injEq, Prod.mk.injEq] at H
           obtain ⟨rfl⟩ := H
           go_wp2
           go_ret
           exact ⟨by first | rfl | (simp [errW_none, errW_some] <;> rfl) | (simp [*, errW_none, errW_some] <;> rfl), by exact zp53_1_ HB.out aq.out aw.out aL.out⟩
def laws_FnDerivatives.Pure : Prop := ∀ (l0 : List Int), l0.length ≤ maxLen → l0.length * 1 ≤ 140737488351232 → (∀ x ∈ l0, (Lit.int .u8 x).wf = true) → ∃ k, laws_FnDerivatives.f k l0 = some true
theorem laws_FnDerivatives.walk (P : laws_FnDerivatives.Pure) (a0 : Option Addr) (len0 cap0 : Nat) (z0 : List Int) (w : World) (w0 : (a0 = none ∧ len0 = 0 ∧ cap0 = 0 ∧ z0 = []) ∨ ∃ x, a0 = some x ∧ len0 ≤ cap0 ∧ cap0 ≤ maxLen ∧ z0.length = cap0 ∧ (∀ i, i < z0.length → w.cell? (x.add i) = some (.int .u8 (z0.getD i 0))) ∧ ∀ n ∈ z0, (Lit.int .u8 n).wf = true) (y0 : len0 * 1 ≤ 140737488351232) :
  Calls Try.prog 11 #[.slice a0 len0 cap0] w fun e w' => e = .returned (.bool true) ∧ Below w.heap.size w w' := by
 obtain ⟨l0, rfl, hr0, hm0, hw0, hc0⟩ := ReadsInt.ofRowC w0
 obtain ⟨k, h⟩ := P l0 hm0 y0 hw0
 refine (laws_FnDerivatives.calls k _ _ l0 true w (Kd.C_of_reads (d := (0 : Int)) (h1 := fun _ => rfl) hr0) hc0 h rfl).mono ?_
 rintro e w' ⟨rfl, hd⟩
 exact ⟨rfl, hd⟩
end Go.Proofs.Ytldgkgdgcfllmaa.P
end
