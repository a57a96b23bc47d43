/- Texts of the proof of FnExactParseRegex, put together. No condition. -/
import Derived.Test.YtldgkgdgcfllmaaQFnExactParseRegex2
import Derived.Test.YtldgkgdgcfllmaaQFnExactParseRegex3
section
namespace Go.Proofs.Ytldgkgdgcfllmaa.P
open Go.RowKit Go.Proofs.YtldgkgdgcfllmaaW.PrintWords Go.Proofs.YtldgkgdgcfllmaaW.PrintLast Go.Proofs.YtldgkgdgcfllmaaW.PrintMore
attribute [local go_sem] max2_int min2_int max_two min_two max_three min_three max_four min_four
set_option linter.unusedVariables false
set_option linter.unusedSimpArgs false
mutual
def laws_eqRegexS.l0 : Nat → List (S29) → List (S29) → Int → Option (Bool)
  | 0, _, _, _ => none
  | k + 1, x0, x1, x5 => if x5 < (x0.length : Int) then (if 0 ≤ x5 then (if x5 < (x1.length : Int) then ((laws_eqRegex.f k ((rd_T29 x0 x5).f0) ((rd_T29 x0 x5).f1) ((rd_T29 x0 x5).f2) ((rd_T29 x1 x5).f0) ((rd_T29 x1 x5).f1) ((rd_T29 x1 x5).f2)).bind fun aH => (if aH = true then (laws_eqRegexS.l0 k x0 x1 (wrap64 (x5 + 1))) else (some false))) else (none)) else (none)) else (some true)
def laws_eqRegexS.f : Nat → List (S29) → List (S29) → Option (Bool)
  | 0, _, _ => none
  | k + 1, l0, l1 => if (l0.length : Int) = (l1.length : Int) then (laws_eqRegexS.l0 k l0 l1 0) else (some false)
def laws_eqRegex.f : Nat → Int → ByteArray → List (S29) → Int → ByteArray → List (S29) → Option (Bool)
  | 0, _, _, _, _, _, _ => none
  | k + 1, a0_0, a0_1, l0_2, a1_0, a1_1, l1_2 => if a0_0 = a1_0 then (if a0_1.toList = a1_1.toList then ((laws_eqRegexS.f k l0_2 l1_2).bind fun aC => (if aC = true then (some true) else (some false))) else (some false)) else (some false)
end
theorem laws_eqRegexS_2.mono_l : ∀ k, (∀ y0 y1, LeO (laws_eqRegexS.f k y0 y1) (laws_eqRegexS.f (k + 1) y0 y1)) ∧ (∀ y0 y1 y2, LeO (laws_eqRegexS.l0 k y0 y1 y2) (laws_eqRegexS.l0 (k + 1) y0 y1 y2)) ∧ (∀ y0 y1 y2 y3 y4 y5, LeO (laws_eqRegex.f k y0 y1 y2 y3 y4 y5) (laws_eqRegex.f (k + 1) y0 y1 y2 y3 y4 y5))
 | 0 => ⟨fun _ _ r h => by simp [laws_eqRegexS.f] at h, fun _ _ _ r h => by simp [laws_eqRegexS.l0] at h, fun _ _ _ _ _ _ r h => by simp [laws_eqRegex.f] at h⟩
 | k + 1 => by
  obtain ⟨ih0, ih1, ih2⟩ := laws_eqRegexS_2.mono_l k
  refine ⟨?_, ?_, ?_⟩
  ·intro y0 y1
   unfold laws_eqRegexS.f
   repeat' first
   | (with_reducible exact ih0 _ _)
   | (with_reducible exact ih1 _ _ _)
   | (with_reducible exact ih2 _ _ _ _ _ _)
   | (with_reducible exact LeO.refl _)
   | (with_reducible exact LeO.none _)
   | (with_reducible refine LeO.ite ?_ ?_)
   | (with_reducible refine LeO.bind ?_ (fun _ => ?_))
   | exact ih0 _ _
   | exact ih1 _ _ _
   | exact ih2 _ _ _ _ _ _
   | exact LeO.none _
   | refine LeO.ite ?_ ?_
   | refine LeO.bind ?_ (fun _ => ?_)
  ·intro y0 y1 y2
   unfold laws_eqRegexS.l0
   repeat' first
   | (with_reducible exact ih0 _ _)
   | (with_reducible exact ih1 _ _ _)
   | (with_reducible exact ih2 _ _ _ _ _ _)
   | (with_reducible exact LeO.refl _)
   | (with_reducible exact LeO.none _)
   | (with_reducible refine LeO.ite ?_ ?_)
   | (with_reducible refine LeO.bind ?_ (fun _ => ?_))
   | exact ih0 _ _
   | exact ih1 _ _ _
   | exact ih2 _ _ _ _ _ _
   | exact LeO.none _
   | refine LeO.ite ?_ ?_
   | refine LeO.bind ?_ (fun _ => ?_)
  ·intro y0 y1 y2 y3 y4 y5
   unfold laws_eqRegex.f
   repeat' first
   | (with_reducible exact ih0 _ _)
   | (with_reducible exact ih1 _ _ _)
   | (with_reducible exact ih2 _ _ _ _ _ _)
   | (with_reducible exact LeO.refl _)
   | (with_reducible exact LeO.none _)
   | (with_reducible refine LeO.ite ?_ ?_)
   | (with_reducible refine LeO.bind ?_ (fun _ => ?_))
   | exact ih0 _ _
   | exact ih1 _ _ _
   | exact ih2 _ _ _ _ _ _
   | exact LeO.none _
   | refine LeO.ite ?_ ?_
   | refine LeO.bind ?_ (fun _ => ?_)
theorem laws_eqRegexS.mono : ∀ a0 a1 k, LeO (laws_eqRegexS.f k a0 a1) (laws_eqRegexS.f (k + 1) a0 a1) := by
 intro a0 a1 k
 obtain ⟨ih0, ih1, ih2⟩ := laws_eqRegexS_2.mono_l k
 exact ih0 a0 a1
theorem laws_eqRegex.mono : ∀ a0 a1 a2 a3 a4 a5 k, LeO (laws_eqRegex.f k a0 a1 a2 a3 a4 a5) (laws_eqRegex.f (k + 1) a0 a1 a2 a3 a4 a5) := by
 intro a0 a1 a2 a3 a4 a5 k
 obtain ⟨ih0, ih1, ih2⟩ := laws_eqRegexS_2.mono_l k
 exact ih2 a0 a1 a2 a3 a4 a5
def laws_eqRegexS.T6 : Bool × List (List Nat × List Nat) := (true, [([], []), ([], []), ([0, 1], [0, 1]), ([2], [2]), ([], []), ([], []), ([4, 5], [4, 5]), ([6], [6]), ([3, 7], [3, 7]), ([8], [8])])
def laws_eqRegexS.B6 : List Nat := [0, 0, 3, 7, 0, 0, 48, 112, 255, 511]
theorem laws_eqRegexS.tab6 : rtab .any (opsOf Try.f40 6) = laws_eqRegexS.T6 := by kernel_rfl
theorem laws_eqRegexS.bits6 : waitsOk laws_eqRegexS.T6.2 laws_eqRegexS.B6 = true := by kernel_rfl
abbrev laws_eqRegexS.Says (k : Nat) : Prop := ∀ (A0 : Option Addr) (c0 : Nat) (l0 : List (S29)) (A1 : Option Addr) (c1 : Nat) (l1 : List (S29)) (r : Bool) (w : World) (hr0 : Kd.C k29 w A0 l0.length l0) (hc0 : l0.length ≤ c0) (hr1 : Kd.C k29 w A1 l1.length l1) (hc1 : l1.length ≤ c1) (h : laws_eqRegexS.f k l0 l1 = some r),
    Calls Try.prog 40 #[.slice A0 l0.length c0, .slice A1 l1.length c1] w fun e w' => e = .returned (.bool r) ∧ Below w.heap.size w w'
abbrev laws_eqRegex.Says (k : Nat) : Prop := ∀ (a0_0 : Int) (a0_1 : ByteArray) (A0_2 : Option Addr) (c0_2 : Nat) (l0_2 : List (S29)) (a1_0 : Int) (a1_1 : ByteArray) (A1_2 : Option Addr) (c1_2 : Nat) (l1_2 : List (S29)) (r : Bool) (w : World) (hr0_2 : Kd.C k29 w A0_2 l0_2.length l0_2) (hc0_2 : l0_2.length ≤ c0_2) (hr1_2 : Kd.C k29 w A1_2 l1_2.length l1_2) (hc1_2 : l1_2.length ≤ c1_2) (h : laws_eqRegex.f k a0_0 a0_1 l0_2 a1_0 a1_1 l1_2 = some r),
    Calls Try.prog 16 #[.agg #[.int .i64 a0_0, .string a0_1, .slice A0_2 l0_2.length c0_2], .agg #[.int .i64 a1_0, .string a1_1, .slice A1_2 l1_2.length c1_2]] w fun e w' => e = .returned (.bool r) ∧ Below w.heap.size w w'
theorem zp8_0_ {p q : Prop} (h : p) (c : p → q := by intro h_; repeat (first | (with_reducible first | exact h_ | apply below_alloc | apply pw_below_drewN | apply below_drew1) | exact h_)) : q := c h
theorem zp8_1_ {p q g1 g2 : Prop} (h : p) (h1 : g1) (h2 : g2) (c : p → g1 → g2 → q := by intro h_ h1_ h2_; repeat (first | (with_reducible first | exact h_ | apply below_alloc | apply pw_below_drewN | apply below_drew1 | refine below_set ?_ h1_ | refine below_set ?_ h2_) | exact h_)) : q := c h h1 h2
set_option maxHeartbeats 8000000 in
set_option maxRecDepth 100000 in
theorem laws_eqRegexS.step (k : Nat) (ih : ∀ m_, m_ < k → laws_eqRegexS.Says m_) (ihM : ∀ m_, m_ < k → laws_eqRegex.Says m_) : laws_eqRegexS.Says k := by
 intro A0 c0 l0 A1 c1 l1 r w hr0 hc0 hr1 hc1 h
 cases k with
 | zero => exact absurd h (by simp [laws_eqRegexS.f])
 | succ k =>
 simp only [laws_eqRegexS.f] at h
 have hu29 := Try.underlying29
 have HR0 := am_ hr0
 have HC0 := am_ hc0
 clear hr0 hc0
 have HR1 := am_ hr1
 have HC1 := am_ hc1
 clear hr1 hc1
 have HB := am_ (Below.refl w.heap.size w)
 have H : (if (l0.length : Int) = (l1.length : Int) then (laws_eqRegexS.l0 k l0 l1 0) else (some false)) = some r := h
 clear h
 by_cases c3 : (l0.length : Int) = (l1.length : Int)
 ·rw [if_pos c3] at H
  have c3b0 : ((l0.length : Int) == (l1.length : Int)) = true := beq_iff_eq.mpr c3
  have c3b1 : ((l0.length : Int) != (l1.length : Int)) = false := bne_eq_false_iff_eq.mpr c3
  have c3b2 : (l0.length == l1.length) = true := by first | simpa using c3 | (simp at c3 ⊢; omega)
  clear c3
  have H' := am_ H
  clear H
  go_enter Try.func40, Try.ntmps40
  go_wp2
  go_loopg [5] k (fun kq v5 w' => ∃ (aa : Int), v5 = .int .i64 aa ∧ Aside0 (laws_eqRegexS.l0 kq l0 l1 aa = some r) ∧ Aside0 (kq ≤ k) ∧ Aside0 (Below w.heap.size w w'))
  case atStart => exact ⟨(0), (by first | rfl | (simp; done) | (simp [*]; done)), H', ⟨Nat.le_refl _⟩, ⟨by exact zp8_0_ HB.out⟩⟩
  case round =>
   clear H'
   try clear c1
   try clear p2
   try clear c3
   try clear c3b0
   try clear c3b1
   try clear c3b2
   obtain ⟨aa, rfl, HA, HK1, HB⟩ := hrel
   cases gk with
   | zero => exact absurd HA.out (by simp [laws_eqRegexS.l0])
   | succ k1 =>
    have H := HA.out
    clear HA
    simp only [laws_eqRegexS.l0] at H
    by_cases c4 : aa < (l0.length : Int)
    ·rw [if_pos c4] at H
     have c4b0 : decide (aa < (l0.length : Int)) = true := decide_eq_true c4
     clear c4
     by_cases c5 : 0 ≤ aa
     ·rw [if_pos c5] at H
      have c5b0 : decide (0 ≤ aa) = true := decide_eq_true c5
      clear c5
      by_cases c6 : aa < (l1.length : Int)
      ·rw [if_pos c6] at H
       have c6b0 : decide (aa < (l1.length : Int)) = true := decide_eq_true c6
       clear c6
       replace H := Option.bind_eq_some_iff.mp H
       obtain ⟨aH, A70, H⟩ := H
       have A7 := am_ A70
       clear A70
       by_cases c8 : aH = true
       ·subst c8
        have H1 : (laws_eqRegexS.l0 k1 l0 l1 (wrap64 (aa + 1))) = some r := by rw [if_pos rfl] at H; exact H
        clear H
        have H := H1
        clear H1
        have H' := am_ H
        clear H
        try go_wp2
        replace HB := am_ (below_drew1 HB.out)
        have p152 : 0 ≤ (aa : Int) := of_decide_eq_true ah_
        have q152 : aa < (l0.length : Int) := of_decide_eq_true ah_
        obtain ⟨ax, A152_2, c152_2, e152, ah, ai, aj, hl152_2, hi152_2⟩ := at_T29 HR0.out aa p152 q152
        have ap := aj
        have aq := ai
        have ar := ah
        cases e152
        replace ah := (HB.out.cell (World.block_lt_of_cell? w _ ah)).trans ah
        replace ai := (HB.out.cell (World.block_lt_of_cell? w _ ai)).trans ai
        replace aj := (HB.out.cell (World.block_lt_of_cell? w _ aj)).trans aj
        have aA := am_ hi152_2
        have aD := am_ hl152_2
        clear hi152_2 hl152_2
        replace p152 := eq_true p152
        replace q152 := eq_true q152
        have p153 : 0 ≤ (aa : Int) := of_decide_eq_true ah_
        have q153 : aa < (l1.length : Int) := of_decide_eq_true ah_
        obtain ⟨ay, A153_2, c153_2, e153, ak, al, am, hl153_2, hi153_2⟩ := at_T29 HR1.out aa p153 q153
        have au := am
        have av := al
        have aw := ak
        cases e153
        replace ak := (HB.out.cell (World.block_lt_of_cell? w _ ak)).trans ak
        replace al := (HB.out.cell (World.block_lt_of_cell? w _ al)).trans al
        replace am := (HB.out.cell (World.block_lt_of_cell? w _ am)).trans am
        have aB := am_ hi153_2
        have aE := am_ hl153_2
        clear hi153_2 hl153_2
        replace p153 := eq_true p153
        replace q153 := eq_true q153
        refine start_ (n := 10) (S := fun w' => w'.cell? (ax.add ((aa).toNat * 3)) = some (.int .i64 ((rd_T29 l0 aa).f0)) ∧ w'.cell? ⟨(ax.add ((aa).toNat * 3)).block, (ax.add ((aa).toNat * 3)).off + 1, none⟩ = some (.string ((rd_T29 l0 aa).f1)) ∧ w'.cell? ⟨(ax.add ((aa).toNat * 3)).block, (ax.add ((aa).toNat * 3)).off + 2, none⟩ = some (.slice A152_2 ((rd_T29 l0 aa).f2).length c152_2) ∧ w'.cell? (ay.add ((aa).toNat * 3)) = some (.int .i64 ((rd_T29 l1 aa).f0)) ∧ w'.cell? ⟨(ay.add ((aa).toNat * 3)).block, (ay.add ((aa).toNat * 3)).off + 1, none⟩ = some (.string ((rd_T29 l1 aa).f1)) ∧ w'.cell? ⟨(ay.add ((aa).toNat * 3)).block, (ay.add ((aa).toNat * 3)).off + 2, none⟩ = some (.slice A153_2 ((rd_T29 l1 aa).f2).length c153_2)) (ds := []) (bl 10 0) (by kernel_rfl) rfl rfl ⟨((HB.out.cell (World.block_lt_of_cell? w _ ar)).trans ar), ((HB.out.cell (World.block_lt_of_cell? w _ aq)).trans aq), ((HB.out.cell (World.block_lt_of_cell? w _ ap)).trans ap), ((HB.out.cell (World.block_lt_of_cell? w _ aw)).trans aw), ((HB.out.cell (World.block_lt_of_cell? w _ av)).trans av), ((HB.out.cell (World.block_lt_of_cell? w _ au)).trans au)⟩ (fun hHeld => ?_); refine with_tabW laws_eqRegexS.tab6 laws_eqRegexS.bits6 (fun HT_ HW_ => ?_)
        generalize wr.drew = w9 at HB aA aB ah ai aj ak al am hHeld ⊢
        refine pu_ 0 17 (bl 10 1) HT_ ?_
        refine pu_ 1 18 (bl 10 3) HT_ ?_
        refine pu_ 2 19 (bl 10 7) HT_ ?_
        refine pu_ 4 21 (bl 10 23) HT_ ?_
        refine pu_ 5 22 (bl 10 55) HT_ ?_
        refine pu_ 6 23 (bl 10 119) HT_ ?_
        refine tk_ 3 20 (bl 10 127) HT_ HW_ hHeld ?_
        refine tk_ 7 24 (bl 10 255) HT_ HW_ hHeld ?_
        refine on_ 8 (some 25) (bl 10 511) HT_ (fun K hK => ?_)
        refine gO_ Try.func16 #[.agg #[.int .i64 ((rd_T29 l0 aa).f0), .string ((rd_T29 l0 aa).f1), .slice A152_2 ((rd_T29 l0 aa).f2).length c152_2], .agg #[.int .i64 ((rd_T29 l1 aa).f0), .string ((rd_T29 l1 aa).f1), .slice A153_2 ((rd_T29 l1 aa).f2).length c153_2]] ?_
        with_reducible refine (ihM k1 (by have := HK1.out; omega) ((rd_T29 l0 aa).f0) ((rd_T29 l0 aa).f1) _ _ ((rd_T29 l0 aa).f2) ((rd_T29 l1 aa).f0) ((rd_T29 l1 aa).f1) _ _ ((rd_T29 l1 aa).f2) true _ ?side1 ?side2 ?side3 ?side4 A7.out).mono ?_
        (case side1 => exact rc_ (Kd.C_below aA.out HB.out))
        (case side2 => exact aD.out)
        (case side3 => exact rc_ (Kd.C_below aB.out HB.out))
        (case side4 => exact aE.out)
        rintro e w10 ⟨rfl, hb⟩
        refine ⟨_, rfl, ?_⟩
        replace HB := am_ (below_step (b0_ HB.out) hb)
        (try clear hb)
        (try clear hb2)
        (try clear hk)
        (try clear hi)
        refine hK.out _ _ ⟨((HB.out.cell (World.block_lt_of_cell? w _ ar)).trans ar), ((HB.out.cell (World.block_lt_of_cell? w _ aq)).trans aq), ((HB.out.cell (World.block_lt_of_cell? w _ ap)).trans ap), ((HB.out.cell (World.block_lt_of_cell? w _ aw)).trans aw), ((HB.out.cell (World.block_lt_of_cell? w _ av)).trans av), ((HB.out.cell (World.block_lt_of_cell? w _ au)).trans au)⟩ (fun hHeld => ?_)
        clear hK K
        refine norm_ (a' := ?_) ?_ ?_
        rotate_left
        ·show Act.put _ (some 25) _ = _
         simp only [pn_, sz_, ss_, i64_w, i32_w]
         rfl
        refine pu_ 9 26 (bl 10 1023) HT_ ?_
        refine done_ (done_of HT_.out (by kernel_rfl)) ?_
        try go_wp2
        go_roundg k1
        case measure => have := HK1.out; omega
        case rel => exact ⟨(wrap64 (aa + 1)), (by first | rfl | (simp; done) | (simp [*]; done)), H', ⟨by have := HK1.out; omega⟩, ⟨by exact zp8_0_ HB.out⟩⟩
       ·replace c8 := Bool.eq_false_iff.mpr c8
        subst c8
        have H1 : (some false) = some r := by rw [if_neg (show ¬ (false = true) by decide)] at H; exact H
        clear H
        have H := H1
        clear H1
        obtain rfl := Option.some.inj H
        simp only [Option.some.injEq, Prod.mk.injEq] at H
        obtain ⟨rfl⟩ := H
        try go_wp2
        replace HB := am_ (below_drew1 HB.out)
        have p152 : 0 ≤ (aa : Int) := of_decide_eq_true ah_
        have q152 : aa < (l0.length : Int) := of_decide_eq_true ah_
        obtain ⟨ax, A152_2, c152_2, e152, ah, ai, aj, hl152_2, hi152_2⟩ := at_T29 HR0.out aa p152 q152
        have ap := aj
        have aq := ai
        have ar := ah
        cases e152
        replace ah := (HB.out.cell (World.block_lt_of_cell? w _ ah)).trans ah
        replace ai := (HB.out.cell (World.block_lt_of_cell? w _ ai)).trans ai
        replace aj := (HB.out.cell (World.block_lt_of_cell? w _ aj)).trans aj
        have aA := am_ hi152_2
        have aD := am_ hl152_2
        clear hi152_2 hl152_2
        replace p152 := eq_true p152
        replace q152 := eq_true q152
        have p153 : 0 ≤ (aa : Int) := of_decide_eq_true ah_
        have q153 : aa < (l1.length : Int) := of_decide_eq_true ah_
        obtain ⟨ay, A153_2, c153_2, e153, ak, al, am, hl153_2, hi153_2⟩ := at_T29 HR1.out aa p153 q153
        have au := am
        have av := al
        have aw := ak
        cases e153
        replace ak := (HB.out.cell (World.block_lt_of_cell? w _ ak)).trans ak
        replace al := (HB.out.cell (World.block_lt_of_cell? w _ al)).trans al
        replace am := (HB.out.cell (World.block_lt_of_cell? w _ am)).trans am
        have aB := am_ hi153_2
        have aE := am_ hl153_2
        clear hi153_2 hl153_2
        replace p153 := eq_true p153
        replace q153 := eq_true q153
        refine start_ (n := 10) (S := fun w' => w'.cell? (ax.add ((aa).toNat * 3)) = some (.int .i64 ((rd_T29 l0 aa).f0)) ∧ w'.cell? ⟨(ax.add ((aa).toNat * 3)).block, (ax.add ((aa).toNat * 3)).off + 1, none⟩ = some (.string ((rd_T29 l0 aa).f1)) ∧ w'.cell? ⟨(ax.add ((aa).toNat * 3)).block, (ax.add ((aa).toNat * 3)).off + 2, none⟩ = some (.slice A152_2 ((rd_T29 l0 aa).f2).length c152_2) ∧ w'.cell? (ay.add ((aa).toNat * 3)) = some (.int .i64 ((rd_T29 l1 aa).f0)) ∧ w'.cell? ⟨(ay.add ((aa).toNat * 3)).block, (ay.add ((aa).toNat * 3)).off + 1, none⟩ = some (.string ((rd_T29 l1 aa).f1)) ∧ w'.cell? ⟨(ay.add ((aa).toNat * 3)).block, (ay.add ((aa).toNat * 3)).off + 2, none⟩ = some (.slice A153_2 ((rd_T29 l1 aa).f2).length c153_2)) (ds := []) (bl 10 0) (by kernel_rfl) rfl rfl ⟨((HB.out.cell (World.block_lt_of_cell? w _ ar)).trans ar), ((HB.out.cell (World.block_lt_of_cell? w _ aq)).trans aq), ((HB.out.cell (World.block_lt_of_cell? w _ ap)).trans ap), ((HB.out.cell (World.block_lt_of_cell? w _ aw)).trans aw), ((HB.out.cell (World.block_lt_of_cell? w _ av)).trans av), ((HB.out.cell (World.block_lt_of_cell? w _ au)).trans au)⟩ (fun hHeld => ?_); refine with_tabW laws_eqRegexS.tab6 laws_eqRegexS.bits6 (fun HT_ HW_ => ?_)
        generalize wr.drew = w11 at HB aA aB ah ai aj ak al am hHeld ⊢
        refine pu_ 0 17 (bl 10 1) HT_ ?_
        refine pu_ 1 18 (bl 10 3) HT_ ?_
        refine pu_ 2 19 (bl 10 7) HT_ ?_
        refine pu_ 4 21 (bl 10 23) HT_ ?_
        refine pu_ 5 22 (bl 10 55) HT_ ?_
        refine pu_ 6 23 (bl 10 119) HT_ ?_
        refine tk_ 3 20 (bl 10 127) HT_ HW_ hHeld ?_
        refine tk_ 7 24 (bl 10 255) HT_ HW_ hHeld ?_
        refine on_ 8 (some 25) (bl 10 511) HT_ (fun K hK => ?_)
        refine gO_ Try.func16 #[.agg #[.int .i64 ((rd_T29 l0 aa).f0), .string ((rd_T29 l0 aa).f1), .slice A152_2 ((rd_T29 l0 aa).f2).length c152_2], .agg #[.int .i64 ((rd_T29 l1 aa).f0), .string ((rd_T29 l1 aa).f1), .slice A153_2 ((rd_T29 l1 aa).f2).length c153_2]] ?_
        with_reducible refine (ihM k1 (by have := HK1.out; omega) ((rd_T29 l0 aa).f0) ((rd_T29 l0 aa).f1) _ _ ((rd_T29 l0 aa).f2) ((rd_T29 l1 aa).f0) ((rd_T29 l1 aa).f1) _ _ ((rd_T29 l1 aa).f2) false _ ?side1 ?side2 ?side3 ?side4 A7.out).mono ?_
        (case side1 => exact rc_ (Kd.C_below aA.out HB.out))
        (case side2 => exact aD.out)
        (case side3 => exact rc_ (Kd.C_below aB.out HB.out))
        (case side4 => exact aE.out)
        rintro e w12 ⟨rfl, hb⟩
        refine ⟨_, rfl, ?_⟩
        replace HB := am_ (below_step (b0_ HB.out) hb)
        (try clear hb)
        (try clear hb2)
        (try clear hk)
        (try clear hi)
        refine hK.out _ _ ⟨((HB.out.cell (World.block_lt_of_cell? w _ ar)).trans ar), ((HB.out.cell (World.block_lt_of_cell? w _ aq)).trans aq), ((HB.out.cell (World.block_lt_of_cell? w _ ap)).trans ap), ((HB.out.cell (World.block_lt_of_cell? w _ aw)).trans aw), ((HB.out.cell (World.block_lt_of_cell? w _ av)).trans av), ((HB.out.cell (World.block_lt_of_cell? w _ au)).trans au)⟩ (fun hHeld => ?_)
        clear hK K
        refine norm_ (a' := ?_) ?_ ?_
        rotate_left
        ·show Act.put _ (some 25) _ = _
         simp only [pn_, sz_, ss_, i64_w, i32_w]
         rfl
        refine pu_ 9 26 (bl 10 1023) HT_ ?_
        refine done_ (done_of HT_.out (by kernel_rfl)) ?_
        try go_wp2
        go_ret
        exact ⟨by first | rfl | (simp [errW_none, errW_some] <;> rfl) | (simp [*, errW_none, errW_some] <;> rfl), by exact zp8_0_ HB.out⟩
      ·rw [if_neg c6] at H
       exact absurd H (by simp)
     ·rw [if_neg c5] at H
      exact absurd H (by simp)
    ·rw [if_neg c4] at H
     have c4b0 : decide (aa < (l0.length : Int)) = false := decide_eq_false c4
     clear c4
     obtain rfl := Option.some.inj H
     simp only [Option.some.injEq, Prod.mk.injEq] at H
     obtain ⟨rfl⟩ := H
     go_wp2
     go_ret
     exact ⟨by first | rfl | (simp [errW_none, errW_some] <;> rfl) | (simp [*, errW_none, errW_some] <;> rfl), by exact zp8_0_ HB.out⟩
 ·rw [if_neg c3] at H
  have c3b0 : ((l0.length : Int) == (l1.length : Int)) = false := beq_eq_false_iff_ne.mpr c3
  have c3b1 : ((l0.length : Int) != (l1.length : Int)) = true := bne_iff_ne.mpr c3
  have c3b2 : (l0.length == l1.length) = false := by first | simpa using c3 | (simp at c3 ⊢; omega)
  obtain rfl := Option.some.inj H
  simp only [Option.some.injEq, Prod.mk.injEq] at H
  obtain ⟨rfl⟩ := H
  go_enter Try.func40, Try.ntmps40
  go_wp2
  go_ret
  exact ⟨by first | rfl | (simp [errW_none, errW_some] <;> rfl) | (simp [*, errW_none, errW_some] <;> rfl), by exact zp8_0_ HB.out⟩
set_option maxHeartbeats 8000000 in
set_option maxRecDepth 100000 in
theorem laws_eqRegex.step (k : Nat) (ih : ∀ m_, m_ < k → laws_eqRegex.Says m_) (ihM : ∀ m_, m_ < k → laws_eqRegexS.Says m_) : laws_eqRegex.Says k := by
 intro a0_0 a0_1 A0_2 c0_2 l0_2 a1_0 a1_1 A1_2 c1_2 l1_2 r w hr0_2 hc0_2 hr1_2 hc1_2 h
 cases k with
 | zero => exact absurd h (by simp [laws_eqRegex.f])
 | succ k =>
 simp only [laws_eqRegex.f] at h
 have hu29 := Try.underlying29
 have aI := am_ hr0_2
 have aJ := am_ hc0_2
 clear hr0_2 hc0_2
 have aK := am_ hr1_2
 have aL := am_ hc1_2
 clear hr1_2 hc1_2
 have HB := am_ (Below.refl w.heap.size w)
 have H : (if a0_0 = a1_0 then (if a0_1.toList = a1_1.toList then ((laws_eqRegexS.f k l0_2 l1_2).bind fun aC => (if aC = true then (some true) else (some false))) else (some false)) else (some false)) = some r := h
 clear h
 by_cases c3 : a0_0 = a1_0
 ·rw [if_pos c3] at H
  have c3b0 : (a0_0 == a1_0) = true := beq_iff_eq.mpr c3
  have c3b1 : (a0_0 != a1_0) = false := bne_eq_false_iff_eq.mpr c3
  clear c3
  by_cases c4 : a0_1.toList = a1_1.toList
  ·rw [if_pos c4] at H
   have c4b0 : (a0_1.toList == a1_1.toList) = true := beq_iff_eq.mpr c4
   have c4b1 : (a0_1.toList != a1_1.toList) = false := bne_eq_false_iff_eq.mpr c4
   clear c4
   replace H := Option.bind_eq_some_iff.mp H
   obtain ⟨aC, A50, H⟩ := H
   replace H : (if aC = true then (some true) else (some false)) = some r := H
   have A5 := am_ A50
   clear A50
   by_cases c6 : aC = true
   ·subst c6
    have H1 : (some true) = some r := by rw [if_pos rfl] at H; exact H
    clear H
    have H := H1
    clear H1
    obtain rfl := Option.some.inj H
    simp only [Option.some.injEq, Prod.mk.injEq] at H
    obtain ⟨rfl⟩ := H
    go_enter Try.func16, Try.ntmps16
    go_wp2_with (first | ((with_reducible refine gate_dst (N := 2) rfl ?_); refine box_event ?hg (N := 2) ?hd (cs := #[.int .i64 a0_0, .string a0_1, .slice A0_2 l0_2.length c0_2]) (t := 29) ?hr ?_; (case hd => rfl); (case hg => rfl); (case hr => first | (go_simp; done) | (go_simp; rfl)); intro af hg w7 hbox hb; replace ab := am_ (hbox); replace aF := am_ ((by rw [hg]; exact (below_size (b0_ HB.out)) : w.heap.size ≤ af)); replace ae := am_ ((by rw [hg]; exact (below_size (b0_ HB.out)) : w.heap.size ≤ af)); replace HB := am_ (below_step (b0_ HB.out) hb); clear hb hbox hg) | ((with_reducible refine gate_dst (N := 3) rfl ?_); refine box_event ?hg (N := 3) ?hd (cs := #[.int .i64 a1_0, .string a1_1, .slice A1_2 l1_2.length c1_2]) (t := 29) ?hr ?_; (case hd => rfl); (case hg => rfl); (case hr => first | (go_simp; done) | (go_simp; rfl)); intro ag hg w8 hbox hb; have n0_ := am_ (blk_below (rb_ ab.out) hb); have n1_ := am_ (below_step (b1_ HB.out ae.out) hb); have n2_ := am_ (hbox); have n3_ := am_ ((by rw [hg]; exact (below_size (b1_ HB.out ae.out)) : w.heap.size ≤ ag)); have n4_ := am_ ((by rw [hg]; exact (below_size (b1_ HB.out ae.out)) : w.heap.size ≤ ag)); have n5_ := am_ ((by rw [hg]; exact Nat.ne_of_lt (blk_lt (rb_ ab.out)) : af ≠ ag)); have n6_ := am_ ((by rw [hg]; exact Nat.ne_of_gt (blk_lt (rb_ ab.out)) : ag ≠ af)); clear ab; clear HB; have ab := n0_; have HB := n1_; have ad := n2_; have aG := n3_; have az := n4_; have an := n5_; have ao := n6_; clear n0_ n1_ n2_ n3_ n4_ n5_ n6_; clear hb hbox hg; have bQ := an.out; have bR := ao.out; have aM := ck_ (v := (.int .i64 a0_0)) ab 0 rfl; have aN := ck_ (v := (.string a0_1)) ab 1 rfl; have aO := ck_ (v := (.slice A0_2 l0_2.length c0_2)) ab 2 rfl; have aP := blk_frozen ab.out 0; have aQ := blk_frozen ab.out 1; have aR := blk_frozen ab.out 2; have aS := ck_ (v := (.int .i64 a1_0)) ad 0 rfl; have aT := ck_ (v := (.string a1_1)) ad 1 rfl; have aU := ck_ (v := (.slice A1_2 l1_2.length c1_2)) ad 2 rfl; have aV := blk_frozen ad.out 0; have aW := blk_frozen ad.out 1; have aX := blk_frozen ad.out 2) | ((with_reducible refine gate_callee (f := 40) rfl ?_); refine gL_ (some 19) Try.func40 #[.slice A0_2 l0_2.length c0_2, .slice A1_2 l1_2.length c1_2] ?_; (with_reducible refine (ihM k (by omega) _ _ l0_2 _ _ l1_2 true _ ?side1 ?side2 ?side3 ?side4 A5.out).mono ?_); (case side1 => exact rc_ (Kd.C_below aI.out HB.out)); (case side2 => exact aJ.out); (case side3 => exact rc_ (Kd.C_below aK.out HB.out)); (case side4 => exact aL.out); rintro e w12 ⟨rfl, hb⟩; refine ⟨_, rfl, ?_⟩; have n0_ := am_ (blk_below (rb_ ab.out) hb); have n1_ := am_ (blk_below (rb_ ad.out) hb); have n2_ := am_ (below_step (b2_ HB.out ae.out az.out) hb); clear ab; clear ad; clear HB; have ab := n0_; have ad := n1_; have HB := n2_; clear n0_ n1_ n2_; (try clear hb); (try clear hb2); (try clear hk); (try clear hi)))
    go_ret
    exact ⟨by first | rfl | (simp [errW_none, errW_some] <;> rfl) | (simp [*, errW_none, errW_some] <;> rfl), by exact zp8_1_ HB.out ae.out az.out⟩
   ·replace c6 := Bool.eq_false_iff.mpr c6
    subst c6
    have H1 : (some false) = some r := by rw [if_neg (show ¬ (false = true) by decide)] at H; exact H
    clear H
    have H := H1
    clear H1
    obtain rfl := Option.some.inj H
    simp only [Option.some.injEq, Prod.mk.injEq] at H
    obtain ⟨rfl⟩ := H
    go_enter Try.func16, Try.ntmps16
    go_wp2_with (first | ((with_reducible refine gate_dst (N := 2) rfl ?_); refine box_event ?hg (N := 2) ?hd (cs := #[.int .i64 a0_0, .string a0_1, .slice A0_2 l0_2.length c0_2]) (t := 29) ?hr ?_; (case hd => rfl); (case hg => rfl); (case hr => first | (go_simp; done) | (go_simp; rfl)); intro af hg w13 hbox hb; replace ab := am_ (hbox); replace aF := am_ ((by rw [hg]; exact (below_size (b0_ HB.out)) : w.heap.size ≤ af)); replace ae := am_ ((by rw [hg]; exact (below_size (b0_ HB.out)) : w.heap.size ≤ af)); replace HB := am_ (below_step (b0_ HB.out) hb); clear hb hbox hg) | ((with_reducible refine gate_dst (N := 3) rfl ?_); refine box_event ?hg (N := 3) ?hd (cs := #[.int .i64 a1_0, .string a1_1, .slice A1_2 l1_2.length c1_2]) (t := 29) ?hr ?_; (case hd => rfl); (case hg => rfl); (case hr => first | (go_simp; done) | (go_simp; rfl)); intro ag hg w14 hbox hb; have n0_ := am_ (blk_below (rb_ ab.out) hb); have n1_ := am_ (below_step (b1_ HB.out ae.out) hb); have n2_ := am_ (hbox); have n3_ := am_ ((by rw [hg]; exact (below_size (b1_ HB.out ae.out)) : w.heap.size ≤ ag)); have n4_ := am_ ((by rw [hg]; exact (below_size (b1_ HB.out ae.out)) : w.heap.size ≤ ag)); have n5_ := am_ ((by rw [hg]; exact Nat.ne_of_lt (blk_lt (rb_ ab.out)) : af ≠ ag)); have n6_ := am_ ((by rw [hg]; exact Nat.ne_of_gt (blk_lt (rb_ ab.out)) : ag ≠ af)); clear ab; clear HB; have ab := n0_; have HB := n1_; have ad := n2_; have aG := n3_; have az := n4_; have an := n5_; have ao := n6_; clear n0_ n1_ n2_ n3_ n4_ n5_ n6_; clear hb hbox hg; have bK := an.out; have bL := ao.out; have aY := ck_ (v := (.int .i64 a0_0)) ab 0 rfl; have aZ := ck_ (v := (.string a0_1)) ab 1 rfl; have ba := ck_ (v := (.slice A0_2 l0_2.length c0_2)) ab 2 rfl; have bb := blk_frozen ab.out 0; have bc := blk_frozen ab.out 1; have bd := blk_frozen ab.out 2; have be := ck_ (v := (.int .i64 a1_0)) ad 0 rfl; have bf := ck_ (v := (.string a1_1)) ad 1 rfl; have bg := ck_ (v := (.slice A1_2 l1_2.length c1_2)) ad 2 rfl; have bh := blk_frozen ad.out 0; have bi := blk_frozen ad.out 1; have bj := blk_frozen ad.out 2) | ((with_reducible refine gate_callee (f := 40) rfl ?_); refine gL_ (some 19) Try.func40 #[.slice A0_2 l0_2.length c0_2, .slice A1_2 l1_2.length c1_2] ?_; (with_reducible refine (ihM k (by omega) _ _ l0_2 _ _ l1_2 false _ ?side1 ?side2 ?side3 ?side4 A5.out).mono ?_); (case side1 => exact rc_ (Kd.C_below aI.out HB.out)); (case side2 => exact aJ.out); (case side3 => exact rc_ (Kd.C_below aK.out HB.out)); (case side4 => exact aL.out); rintro e w18 ⟨rfl, hb⟩; refine ⟨_, rfl, ?_⟩; have n0_ := am_ (blk_below (rb_ ab.out) hb); have n1_ := am_ (blk_below (rb_ ad.out) hb); have n2_ := am_ (below_step (b2_ HB.out ae.out az.out) hb); clear ab; clear ad; clear HB; have ab := n0_; have ad := n1_; have HB := n2_; clear n0_ n1_ n2_; (try clear hb); (try clear hb2); (try clear hk); (try clear hi)))
    go_ret
    exact ⟨by first | rfl | (simp [errW_none, errW_some] <;> rfl) | (simp [*, errW_none, errW_some] <;> rfl), by exact zp8_1_ HB.out ae.out az.out⟩
  ·rw [if_neg c4] at H
   have c4b0 : (a0_1.toList == a1_1.toList) = false := beq_eq_false_iff_ne.mpr c4
   have c4b1 : (a0_1.toList != a1_1.toList) = true := bne_iff_ne.mpr c4
   obtain rfl := Option.some.inj H
   simp only [Option.some.injEq, Prod.mk.injEq] at H
   obtain ⟨rfl⟩ := H
   go_enter Try.func16, Try.ntmps16
   go_wp2_with (first | ((with_reducible refine gate_dst (N := 2) rfl ?_); refine box_event ?hg (N := 2) ?hd (cs := #[.int .i64 a0_0, .string a0_1, .slice A0_2 l0_2.length c0_2]) (t := 29) ?hr ?_; (case hd => rfl); (case hg => rfl); (case hr => first | (go_simp; done) | (go_simp; rfl)); intro af hg w19 hbox hb; replace ab := am_ (hbox); replace aF := am_ ((by rw [hg]; exact (below_size (b0_ HB.out)) : w.heap.size ≤ af)); replace ae := am_ ((by rw [hg]; exact (below_size (b0_ HB.out)) : w.heap.size ≤ af)); replace HB := am_ (below_step (b0_ HB.out) hb); clear hb hbox hg) | ((with_reducible refine gate_dst (N := 3) rfl ?_); refine box_event ?hg (N := 3) ?hd (cs := #[.int .i64 a1_0, .string a1_1, .slice A1_2 l1_2.length c1_2]) (t := 29) ?hr ?_; (case hd => rfl); (case hg => rfl); (case hr => first | (go_simp; done) | (go_simp; rfl)); intro ag hg w20 hbox hb; have n0_ := am_ (blk_below (rb_ ab.out) hb); have n1_ := am_ (below_step (b1_ HB.out ae.out) hb); have n2_ := am_ (hbox); have n3_ := am_ ((by rw [hg]; exact (below_size (b1_ HB.out ae.out)) : w.heap.size ≤ ag)); have n4_ := am_ ((by rw [hg]; exact (below_size (b1_ HB.out ae.out)) : w.heap.size ≤ ag)); have n5_ := am_ ((by rw [hg]; exact Nat.ne_of_lt (blk_lt (rb_ ab.out)) : af ≠ ag)); have n6_ := am_ ((by rw [hg]; exact Nat.ne_of_gt (blk_lt (rb_ ab.out)) : ag ≠ af)); clear ab; clear HB; have ab := n0_; have HB := n1_; have ad := n2_; have aG := n3_; have az := n4_; have an := n5_; have ao := n6_; clear n0_ n1_ n2_ n3_ n4_ n5_ n6_; clear hb hbox hg; have bM := an.out; have bN := ao.out; have bk := ck_ (v := (.int .i64 a0_0)) ab 0 rfl; have bm := ck_ (v := (.string a0_1)) ab 1 rfl; have bn := ck_ (v := (.slice A0_2 l0_2.length c0_2)) ab 2 rfl; have bo := blk_frozen ab.out 0; have bp := blk_frozen ab.out 1; have bq := blk_frozen ab.out 2; have br := ck_ (v := (.int .i64 a1_0)) ad 0 rfl; have bs := ck_ (v := (.string a1_1)) ad 1 rfl; have bt := ck_ (v := (.slice A1_2 l1_2.length c1_2)) ad 2 rfl; have bu := blk_frozen ad.out 0; have bv := blk_frozen ad.out 1; have bw := blk_frozen ad.out 2))
   go_ret
   exact ⟨by first | rfl | (simp [errW_none, errW_some] <;> rfl) | (simp [*, errW_none, errW_some] <;> rfl), by exact zp8_1_ HB.out ae.out az.out⟩
 ·rw [if_neg c3] at H
  have c3b0 : (a0_0 == a1_0) = false := beq_eq_false_iff_ne.mpr c3
  have c3b1 : (a0_0 != a1_0) = true := bne_iff_ne.mpr c3
  obtain rfl := Option.some.inj H
  simp only [Option.some.injEq, Prod.mk.injEq] at H
  obtain ⟨rfl⟩ := H
  go_enter Try.func16, Try.ntmps16
  go_wp2_with (first | ((with_reducible refine gate_dst (N := 2) rfl ?_); refine box_event ?hg (N := 2) ?hd (cs := #[.int .i64 a0_0, .string a0_1, .slice A0_2 l0_2.length c0_2]) (t := 29) ?hr ?_; (case hd => rfl); (case hg => rfl); (case hr => first | (go_simp; done) | (go_simp; rfl)); intro af hg w24 hbox hb; replace ab := am_ (hbox); replace aF := am_ ((by rw [hg]; exact (below_size (b0_ HB.out)) : w.heap.size ≤ af)); replace ae := am_ ((by rw [hg]; exact (below_size (b0_ HB.out)) : w.heap.size ≤ af)); replace HB := am_ (below_step (b0_ HB.out) hb); clear hb hbox hg) | ((with_reducible refine gate_dst (N := 3) rfl ?_); refine box_event ?hg (N := 3) ?hd (cs := #[.int .i64 a1_0, .string a1_1, .slice A1_2 l1_2.length c1_2]) (t := 29) ?hr ?_; (case hd => rfl); (case hg => rfl); (case hr => first | (go_simp; done) | (go_simp; rfl)); intro ag hg w25 hbox hb; have n0_ := am_ (blk_below (rb_ ab.out) hb); have n1_ := am_ (below_step (b1_ HB.out ae.out) hb); have n2_ := am_ (hbox); have n3_ := am_ ((by rw [hg]; exact (below_size (b1_ HB.out ae.out)) : w.heap.size ≤ ag)); have n4_ := am_ ((by rw [hg]; exact (below_size (b1_ HB.out ae.out)) : w.heap.size ≤ ag)); have n5_ := am_ ((by rw [hg]; exact Nat.ne_of_lt (blk_lt (rb_ ab.out)) : af ≠ ag)); have n6_ := am_ ((by rw [hg]; exact Nat.ne_of_gt (blk_lt (rb_ ab.out)) : ag ≠ af)); clear ab; clear HB; have ab := n0_; have HB := n1_; have ad := n2_; have aG := n3_; have az := n4_; have an := n5_; have ao := n6_; clear n0_ n1_ n2_ n3_ n4_ n5_ n6_; clear hb hbox hg; have bO := an.out; have bP := ao.out; have bx := ck_ (v := (.int .i64 a0_0)) ab 0 rfl; have bz := ck_ (v := (.string a0_1)) ab 1 rfl; have bA := ck_ (v := (.slice A0_2 l0_2.length c0_2)) ab 2 rfl; have bB := blk_frozen ab.out 0; have bC := blk_frozen ab.out 1; have bD := blk_frozen ab.out 2; have bE := ck_ (v := (.int .i64 a1_0)) ad 0 rfl; have bF := ck_ (v := (.string a1_1)) ad 1 rfl; have bG := ck_ (v := (.slice A1_2 l1_2.length c1_2)) ad 2 rfl; have bH := blk_frozen ad.out 0; have bI := blk_frozen ad.out 1; have bJ := blk_frozen ad.out 2))
  go_ret
  exact ⟨by first | rfl | (simp [errW_none, errW_some] <;> rfl) | (simp [*, errW_none, errW_some] <;> rfl), by exact zp8_1_ HB.out ae.out az.out⟩
theorem laws_eqRegexS_2.both (k : Nat) : laws_eqRegexS.Says k ∧ laws_eqRegex.Says k := by
 induction k using Nat.strongRecOn with
 | _ k ih => exact ⟨laws_eqRegexS.step k (fun m_ h_ => (ih m_ h_).1) (fun m_ h_ => (ih m_ h_).2), laws_eqRegex.step k (fun m_ h_ => (ih m_ h_).2) (fun m_ h_ => (ih m_ h_).1)⟩
theorem laws_eqRegexS.calls (k : Nat) : ∀ (A0 : Option Addr) (c0 : Nat) (l0 : List (S29)) (A1 : Option Addr) (c1 : Nat) (l1 : List (S29)) (r : Bool) (w : World) (hr0 : Kd.C k29 w A0 l0.length l0) (hc0 : l0.length ≤ c0) (hr1 : Kd.C k29 w A1 l1.length l1) (hc1 : l1.length ≤ c1) (h : laws_eqRegexS.f k l0 l1 = some r),
  Calls Try.prog 40 #[.slice A0 l0.length c0, .slice A1 l1.length c1] w fun e w' => e = .returned (.bool r) ∧ Below w.heap.size w w' := (laws_eqRegexS_2.both k).1
theorem laws_eqRegex.calls (k : Nat) : ∀ (a0_0 : Int) (a0_1 : ByteArray) (A0_2 : Option Addr) (c0_2 : Nat) (l0_2 : List (S29)) (a1_0 : Int) (a1_1 : ByteArray) (A1_2 : Option Addr) (c1_2 : Nat) (l1_2 : List (S29)) (r : Bool) (w : World) (hr0_2 : Kd.C k29 w A0_2 l0_2.length l0_2) (hc0_2 : l0_2.length ≤ c0_2) (hr1_2 : Kd.C k29 w A1_2 l1_2.length l1_2) (hc1_2 : l1_2.length ≤ c1_2) (h : laws_eqRegex.f k a0_0 a0_1 l0_2 a1_0 a1_1 l1_2 = some r),
  Calls Try.prog 16 #[.agg #[.int .i64 a0_0, .string a0_1, .slice A0_2 l0_2.length c0_2], .agg #[.int .i64 a1_0, .string a1_1, .slice A1_2 l1_2.length c1_2]] w fun e w' => e = .returned (.bool r) ∧ Below w.heap.size w w' := (laws_eqRegexS_2.both k).2
end Go.Proofs.Ytldgkgdgcfllmaa.P
end
section
namespace Go.Proofs.Ytldgkgdgcfllmaa.Pl
open Go.RowKit Go.Proofs.Ytldgkgdgcfllmaa Go.Proofs.Ytldgkgdgcfllmaa.P Go.Proofs.Ytldgkgdgcfllmaa.Rk Go.Proofs.YtldgkgdgcfllmaaW.PrintWords Go.Proofs.YtldgkgdgcfllmaaW.PrintLast Go.Proofs.YtldgkgdgcfllmaaW.PrintMore
set_option linter.unusedVariables false
set_option linter.unusedSimpArgs false
abbrev TI := S29
mutual
theorem TI.ind {p : TI → Prop} (h : ∀ x : TI, (∀ y ∈ x.f2, p y) → p x) : ∀ x, p x
  | ⟨a, s, l⟩ => h _ (TI.inds h l)
theorem TI.inds {p : TI → Prop} (h : ∀ x : TI, (∀ y ∈ x.f2, p y) → p x) : ∀ (l : List TI), ∀ y ∈ l, p y
  | [], _, hy => by cases hy
  | x :: l, y, hy => by
    rcases List.mem_cons.mp hy with q | q
    · rw [q]; exact TI.ind h x
    · exact TI.inds h l y q
end
theorem rdTI (l : List TI) (i : Nat) (h : i < l.length) : rd_T29 l (i : Int) = l[i] := by
  unfold rd_T29
  rw [Int.toNat_natCast, List.getD_eq_getElem?_getD, List.getElem?_eq_getElem h]
  rfl
theorem eq_loop {l : List TI} (hl : l.length ≤ 9223372036854775807) (ih : ∀ y ∈ l, Ev (fun k => laws_eqRegex.f k y.f0 y.f1 y.f2 y.f0 y.f1 y.f2) true) :
    ∀ (d i : Nat), i + d = l.length → Ev (fun k => laws_eqRegexS.l0 k l l (i : Int)) true := by
  intro d
  induction d with
  | zero =>
    intro i h
    refine next ?_
    simp only [laws_eqRegexS.l0, if_neg (show ¬ (i : Int) < (l.length : Int) by omega)]
    exact Ev.now _
  | succ d ihd =>
    intro i h
    have hi : i < l.length := by omega
    refine next ?_
    simp only [laws_eqRegexS.l0, if_pos (show (i : Int) < (l.length : Int) by omega), if_pos (show (0 : Int) ≤ (i : Int) by omega), rdTI l i hi]
    refine Ev.bind (ih _ (List.getElem_mem hi)) ?_
    simp only [if_true, up1 (show i < 9223372036854775807 by omega)]
    exact ihd (i + 1) (by omega)
inductive Thin : TI → Prop
  | mk (x : TI) (h : x.f2.length ≤ 1048576) (hs : x.f1.size ≤ 1048576) (hc : ∀ y ∈ x.f2, Thin y) : Thin x
theorem eq_tree : ∀ x : TI, Thin x → Ev (fun k => laws_eqRegex.f k x.f0 x.f1 x.f2 x.f0 x.f1 x.f2) true := by
  refine TI.ind fun x ih hx => ?_
  obtain ⟨_, h1, _, h2⟩ := hx
  refine next ?_
  simp only [laws_eqRegex.f, if_true]
  have hS : Ev (fun k => laws_eqRegexS.f k x.f2 x.f2) true := by
    refine next ?_
    simp only [laws_eqRegexS.f, if_true]
    exact eq_loop (by omega) (fun y hy => ih y hy (h2 y hy)) x.f2.length 0 (by omega)
  refine Ev.bind hS ?_
  simp only [if_true]
  exact Ev.now _
end Go.Proofs.Ytldgkgdgcfllmaa.Pl
end
