-- Written by gen.py of this repo (a driver of the kit's print) for seat Ytdhgmmgdblnciaa.
import Derived.Test.YtdhgmmgdblnciaaP0
import Derived.Test.YtdhgmmgdblnciaaP1
import Derived.Test.YtdhgmmgdblnciaaP4
namespace Go.Proofs.Ytdhgmmgdblnciaa.P
open Go.RowKit Go.Proofs.YtdhgmmgdblnciaaW.PrintWords Go.Proofs.YtdhgmmgdblnciaaW.PrintLast Go.Proofs.YtdhgmmgdblnciaaW.PrintMore
attribute [local go_sem] max2_int min2_int max_two min_two max_three min_three max_four min_four   -- for this text's walks alone
set_option linter.unusedVariables false
set_option linter.unusedSimpArgs false

/-! ### laws_FnExactParseNumber: function 9 -/
def laws_FnExactParseNumber.f (k : Nat) (a0 : ByteArray) : Option (Bool) := if (a0.size : Int) > 1048576 then (some true) else ((spec_ParseNumber.f k a0).bind fun bt166 => ((impl_ParseNumber.f k a0).bind fun bt168 => (if bt168.1 = bt166.1 then (if (bt168.2 != bt166.2) = true then (some false) else (some true)) else (some false))))
theorem laws_FnExactParseNumber.mono : ∀ a0 k, LeO (laws_FnExactParseNumber.f k a0) (laws_FnExactParseNumber.f (k + 1) a0) := by
  intro a0 k
  unfold laws_FnExactParseNumber.f
  repeat' first
      | (with_reducible exact impl_ParseNumber.mono _ _)
      | (with_reducible exact spec_ParseNumber.mono _ _)
      | (with_reducible exact LeO.refl _)
      | (with_reducible exact LeO.none _)
      | (with_reducible refine LeO.ite ?_ ?_)
      | (with_reducible refine LeO.bind ?_ (fun _ => ?_))
      | exact impl_ParseNumber.mono _ _
      | exact spec_ParseNumber.mono _ _
      | exact LeO.none _
      | refine LeO.ite ?_ ?_
      | refine LeO.bind ?_ (fun _ => ?_)
set_option maxHeartbeats 8000000 in
set_option maxRecDepth 100000 in
theorem laws_FnExactParseNumber.calls (k : Nat) (a0 : ByteArray) (r : Bool) (w : World) (h : laws_FnExactParseNumber.f k a0 = some r) (hR : r = true) :
    Calls Try.prog 9 #[.string a0] w fun e w' => e = .returned (.bool r) ∧ Below w.heap.size w w' := by
  have HB := Aside0.mk (Below.refl w.heap.size w)
  have H : (if (a0.size : Int) > 1048576 then (some true) else ((spec_ParseNumber.f k a0).bind fun bt166 => ((impl_ParseNumber.f k a0).bind fun bt168 => (if bt168.1 = bt166.1 then (if (bt168.2 != bt166.2) = true then (some false) else (some true)) else (some false))))) = some r := h
  clear h
  by_cases c2 : (a0.size : Int) > 1048576
  · rw [if_pos c2] at H
    have c2b0 : decide (1048576 < (a0.size : Int)) = true := decide_eq_true c2
    have c2b1 : decide (1048576 < a0.size) = true := decide_eq_true (by omega)
    clear c2
    obtain rfl := Option.some.inj H
    simp only [Option.some.injEq, Prod.mk.injEq] at H
    obtain ⟨rfl⟩ := H
    go_enter Try.func9, Try.ntmps9
    go_wp2
    go_ret
    exact ⟨by first | rfl | (simp [errW_none, errW_some] <;> rfl) | (simp [*, errW_none, errW_some] <;> rfl), by repeat (first | (with_reducible first | exact HB.out | apply below_alloc | apply pw_below_drewN | apply below_drew1) | exact HB.out)⟩
  · rw [if_neg c2] at H
    have c2b0 : decide (1048576 < (a0.size : Int)) = false := decide_eq_false c2
    have c2b1 : decide (1048576 < a0.size) = false := decide_eq_false (by omega)
    clear c2
    replace H := Option.bind_eq_some_iff.mp H
    obtain ⟨⟨t166, t167⟩, A30, H⟩ := H
    replace H : ((impl_ParseNumber.f k a0).bind fun bt168 => (if bt168.1 = t166 then (if (bt168.2 != t167) = true then (some false) else (some true)) else (some false))) = some r := H
    have A3 := Aside0.mk A30
    clear A30
    replace H := Option.bind_eq_some_iff.mp H
    obtain ⟨⟨t168, t169⟩, A40, H⟩ := H
    replace H : (if t168 = t166 then (if (t169 != t167) = true then (some false) else (some true)) else (some false)) = some r := H
    have A4 := Aside0.mk A40
    clear A40
    by_cases c5 : t168 = t166
    · rw [if_pos c5] at H
      have c5b0 : (t168 == t166) = true := beq_iff_eq.mpr c5
      have c5b1 : (t168 != t166) = false := bne_eq_false_iff_eq.mpr c5
      clear c5
      by_cases c6 : (t169 != t167) = true
      · rw [if_pos c6] at H
        have c6b0 : (t169 != t167) = true := c6
        (try (have c6b1 : decide (t169 = t167) = false := by simpa using c6))
        (try (have c6b2 : (t169 == t167) = false := by simpa using c6))
        (try (have c6b3 : ¬ (t169 = t167) := by simpa using c6))
        clear c6
        obtain rfl := Option.some.inj H
        exact absurd hR (by decide)
      · rw [if_neg c6] at H
        have c6b0 : (t169 != t167) = false := by simpa using c6
        (try (have c6b1 : decide (t169 = t167) = true := by simpa using c6))
        (try (have c6b2 : (t169 == t167) = true := by simpa using c6))
        clear c6
        obtain rfl := Option.some.inj H
        simp only [Option.some.injEq, Prod.mk.injEq] at H
        obtain ⟨rfl⟩ := H
        go_enter Try.func9, Try.ntmps9
        go_wp2_with (first | ((with_reducible refine gate_callee (f := 28) rfl ?_); refine goesL_ (some 12) rfl rfl Try.func28 (by kernel_rfl) rfl #[.string a0] rfl (by (try simp only [List.map_toArray, List.map_cons, List.map_nil]); first | done | rfl | (simp only [List.length_drop, List.length_take]; rfl)) ?_; (with_reducible refine (spec_ParseNumber.calls k a0 t166 t167 _ A3.out).mono ?_); rintro e w7 ⟨rfl, hb⟩; refine ⟨_, rfl, ?_⟩; have n0_ := Aside0.mk (below_step (by repeat (first | (with_reducible first | exact HB.out | apply below_alloc | apply pw_below_drewN | apply below_drew1) | exact HB.out)) hb); clear HB; have HB := n0_; clear n0_; (try clear hb); (try clear hb2); (try clear hk); (try clear hi)) | ((with_reducible refine gate_callee (f := 29) rfl ?_); refine goesL_ (some 17) rfl rfl Try.func29 (by kernel_rfl) rfl #[.string a0] rfl (by (try simp only [List.map_toArray, List.map_cons, List.map_nil]); first | done | rfl | (simp only [List.length_drop, List.length_take]; rfl)) ?_; (with_reducible refine (impl_ParseNumber.calls k a0 t168 t169 _ A4.out).mono ?_); rintro e w8 ⟨rfl, hb⟩; refine ⟨_, rfl, ?_⟩; have n0_ := Aside0.mk (below_step (by repeat (first | (with_reducible first | exact HB.out | apply below_alloc | apply pw_below_drewN | apply below_drew1) | exact HB.out)) hb); clear HB; have HB := n0_; clear n0_; (try clear hb); (try clear hb2); (try clear hk); (try clear hi)))
        go_ret
        exact ⟨by first | rfl | (simp [errW_none, errW_some] <;> rfl) | (simp [*, errW_none, errW_some] <;> rfl), by repeat (first | (with_reducible first | exact HB.out | apply below_alloc | apply pw_below_drewN | apply below_drew1) | exact HB.out)⟩
    · rw [if_neg c5] at H
      have c5b0 : (t168 == t166) = false := beq_eq_false_iff_ne.mpr c5
      have c5b1 : (t168 != t166) = true := bne_iff_ne.mpr c5
      obtain rfl := Option.some.inj H
      exact absurd hR (by decide)

/-- THE ONE PURE STATEMENT of laws_FnExactParseNumber: yours. -/
def laws_FnExactParseNumber.Pure : Prop := ∀ (a0 : ByteArray), a0.size ≤ 140737488351232 → ∃ k, laws_FnExactParseNumber.f k a0 = some true
theorem laws_FnExactParseNumber.walk (P : laws_FnExactParseNumber.Pure) (a0 : ByteArray) (w : World) (w0 : a0.size ≤ 140737488351232) :
    Calls Try.prog 9 #[.string a0] w fun e w' => e = .returned (.bool true) ∧ Below w.heap.size w w' := by
  obtain ⟨k, h⟩ := P a0 w0
  refine (laws_FnExactParseNumber.calls k a0 true w h rfl).mono ?_
  rintro e w' ⟨rfl, hd⟩
  exact ⟨rfl, hd⟩

/-! ### spec_NextWord: function 30 -/
def spec_NextWord.l0 : Nat → ByteArray → ByteArray → Int → Option (ByteArray)
  | 0, _, _, _ => none
  | k + 1, x0, x3, x4 => if x4 ≥ 0 then (if 0 ≤ x4 then (if x4 < (x0.size : Int) then ((spec_LetterIndex.f k (bt x0 x4)).bind fun t171 => (if (wrap64 (t171 + 1)) < 3 then (if x4 ≤ (x0.size : Int) then (if 0 ≤ (wrap64 (t171 + 1)) then (if (wrap64 (t171 + 1)) ≤ (wrap64 (t171 + 2)) then (if (wrap64 (t171 + 2)) ≤ 3 then (if (x0.extract 0 (x4 : Int).toNat).size + ((⟨#[97, 98, 99]⟩ : ByteArray).extract ((wrap64 (t171 + 1)) : Int).toNat ((wrap64 (t171 + 2)) : Int).toNat).size ≤ 9223372036854775807 then (if ((x0.extract 0 (x4 : Int).toNat) ++ ((⟨#[97, 98, 99]⟩ : ByteArray).extract ((wrap64 (t171 + 1)) : Int).toNat ((wrap64 (t171 + 2)) : Int).toNat)).size + x3.size ≤ 9223372036854775807 then (some (((x0.extract 0 (x4 : Int).toNat) ++ ((⟨#[97, 98, 99]⟩ : ByteArray).extract ((wrap64 (t171 + 1)) : Int).toNat ((wrap64 (t171 + 2)) : Int).toNat)) ++ x3)) else (none)) else (none)) else (none)) else (none)) else (none)) else (none)) else (if x3.size + 1 ≤ 9223372036854775807 then (spec_NextWord.l0 k x0 (x3 ++ (⟨#[97]⟩ : ByteArray)) (wrap64 (x4 - 1))) else (none)))) else (none)) else (none)) else (if x3.size + 1 ≤ 9223372036854775807 then ((spec_IsWord.f k (x3 ++ (⟨#[97]⟩ : ByteArray))).bind fun t172 => (if t172 = true then (some (x3 ++ (⟨#[97]⟩ : ByteArray))) else (some (⟨#[]⟩ : ByteArray)))) else (none))
def spec_NextWord.f (k : Nat) (a0 : ByteArray) : Option (ByteArray) := (spec_IsWord.f k a0).bind fun t170 => (if t170 = true then (spec_NextWord.l0 k a0 (⟨#[]⟩ : ByteArray) (wrap64 ((a0.size : Int) - 1))) else (some (⟨#[]⟩ : ByteArray)))
theorem spec_NextWord.mono_l : ∀ k, (∀ y0 y1 y2, LeO (spec_NextWord.l0 k y0 y1 y2) (spec_NextWord.l0 (k + 1) y0 y1 y2))
  | 0 => fun _ _ _ r h => by simp [spec_NextWord.l0] at h
  | k + 1 => by
    have ih0 := spec_NextWord.mono_l k
    · intro y0 y1 y2
      unfold spec_NextWord.l0
      repeat' first
      | (with_reducible exact ih0 _ _ _)
      | (with_reducible exact spec_IsWord.mono _ _)
      | (with_reducible exact spec_LetterIndex.mono _ _)
      | (with_reducible exact LeO.refl _)
      | (with_reducible exact LeO.none _)
      | (with_reducible refine LeO.ite ?_ ?_)
      | (with_reducible refine LeO.bind ?_ (fun _ => ?_))
      | exact ih0 _ _ _
      | exact spec_IsWord.mono _ _
      | exact spec_LetterIndex.mono _ _
      | exact LeO.none _
      | refine LeO.ite ?_ ?_
      | refine LeO.bind ?_ (fun _ => ?_)
theorem spec_NextWord.mono : ∀ a0 k, LeO (spec_NextWord.f k a0) (spec_NextWord.f (k + 1) a0) := by
  intro a0 k
  have ih0 := spec_NextWord.mono_l k
  unfold spec_NextWord.f
  repeat' first
      | (with_reducible exact ih0 _ _ _)
      | (with_reducible exact spec_IsWord.mono _ _)
      | (with_reducible exact spec_LetterIndex.mono _ _)
      | (with_reducible exact LeO.refl _)
      | (with_reducible exact LeO.none _)
      | (with_reducible refine LeO.ite ?_ ?_)
      | (with_reducible refine LeO.bind ?_ (fun _ => ?_))
      | exact ih0 _ _ _
      | exact spec_IsWord.mono _ _
      | exact spec_LetterIndex.mono _ _
      | exact LeO.none _
      | refine LeO.ite ?_ ?_
      | refine LeO.bind ?_ (fun _ => ?_)
set_option maxHeartbeats 8000000 in
set_option maxRecDepth 100000 in
theorem spec_NextWord.calls (k : Nat) (a0 : ByteArray) (r : ByteArray) (w : World) (h : spec_NextWord.f k a0 = some r) :
    Calls Try.prog 30 #[.string a0] w fun e w' => e = .returned (.string r) ∧ Drawn0 w w' := by
  have H : ((spec_IsWord.f k a0).bind fun t170 => (if t170 = true then (spec_NextWord.l0 k a0 (⟨#[]⟩ : ByteArray) (wrap64 ((a0.size : Int) - 1))) else (some (⟨#[]⟩ : ByteArray)))) = some r := h
  clear h
  replace H := Option.bind_eq_some_iff.mp H
  obtain ⟨t170, A20, H⟩ := H
  replace H : (if t170 = true then (spec_NextWord.l0 k a0 (⟨#[]⟩ : ByteArray) (wrap64 ((a0.size : Int) - 1))) else (some (⟨#[]⟩ : ByteArray))) = some r := H
  have A2 := Aside0.mk A20
  clear A20
  by_cases c3 : t170 = true
  · subst c3
    have H1 : (spec_NextWord.l0 k a0 (⟨#[]⟩ : ByteArray) (wrap64 ((a0.size : Int) - 1))) = some r := by rw [if_pos rfl] at H; exact H
    clear H
    have H := H1
    clear H1
    have H' := Aside0.mk H
    clear H
    go_enter Try.func30, Try.ntmps30
    go_wp2_with (first | (go_at_call 21; (with_reducible refine (spec_IsWord.calls k a0 true _ A2.out).mono ?_); rintro e w' ⟨rfl, ⟨nd, rfl⟩⟩; (try first | exact ⟨rfl, _, World.drewN_drewN _ _ _⟩ | exact ⟨rfl, _, Eq.trans (World.drewN_drewN _ _ _) (congrArg (World.drewN _) (Nat.add_assoc _ _ _))⟩)))
    repeat (go_quiet (first | (go_at_call 21; (with_reducible refine (spec_IsWord.calls k a0 true _ A2.out).mono ?_); rintro e w' ⟨rfl, ⟨nd, rfl⟩⟩; (try first | exact ⟨rfl, _, World.drewN_drewN _ _ _⟩ | exact ⟨rfl, _, Eq.trans (World.drewN_drewN _ _ _) (congrArg (World.drewN _) (Nat.add_assoc _ _ _))⟩))); try go_wp2_with (first | (go_at_call 21; (with_reducible refine (spec_IsWord.calls k a0 true _ A2.out).mono ?_); rintro e w' ⟨rfl, ⟨nd, rfl⟩⟩; (try first | exact ⟨rfl, _, World.drewN_drewN _ _ _⟩ | exact ⟨rfl, _, Eq.trans (World.drewN_drewN _ _ _) (congrArg (World.drewN _) (Nat.add_assoc _ _ _))⟩))))
    go_loopg [3, 4] k (fun kq v3 v4 w' => ∃ (x3_1 : ByteArray) (x4_1 : Int), v3 = .string x3_1 ∧ v4 = .int .i64 x4_1 ∧ Aside0 (spec_NextWord.l0 kq a0 x3_1 x4_1 = some r) ∧ Aside0 (kq ≤ k) ∧ Drawn0 w w')
    case atStart => exact ⟨((⟨#[]⟩ : ByteArray)), (wrap64 ((a0.size : Int) - 1)), (by first | rfl | (simp; done) | (simp [*]; done)), (by first | rfl | (simp; done) | (simp [*]; done)), H', ⟨Nat.le_refl _⟩, by repeat (first | exact Drawn0.refl _ | apply Drawn0.step)⟩
    case round =>
      clear H'
      try clear p2
      try clear c3
      obtain ⟨x3_1, x4_1, rfl, rfl, HA, HK1, ⟨m1, rfl⟩⟩ := hrel
      cases gk with
      | zero => exact absurd HA.out (by simp [spec_NextWord.l0])
      | succ k1 =>
        have H := HA.out
        clear HA
        simp only [spec_NextWord.l0] at H
        by_cases c4 : x4_1 ≥ 0
        · rw [if_pos c4] at H
          have c4b0 : decide (0 ≤ x4_1) = true := decide_eq_true c4
          clear c4
          by_cases c5 : 0 ≤ x4_1
          · rw [if_pos c5] at H
            have c5b0 : decide (0 ≤ x4_1) = true := decide_eq_true c5
            clear c5
            by_cases c6 : x4_1 < (a0.size : Int)
            · rw [if_pos c6] at H
              have c6b0 : decide (x4_1 < (a0.size : Int)) = true := decide_eq_true c6
              clear c6
              replace H := Option.bind_eq_some_iff.mp H
              obtain ⟨t171, A80, H⟩ := H
              replace H : (if (wrap64 (t171 + 1)) < 3 then (if x4_1 ≤ (a0.size : Int) then (if 0 ≤ (wrap64 (t171 + 1)) then (if (wrap64 (t171 + 1)) ≤ (wrap64 (t171 + 2)) then (if (wrap64 (t171 + 2)) ≤ 3 then (if (a0.extract 0 (x4_1 : Int).toNat).size + ((⟨#[97, 98, 99]⟩ : ByteArray).extract ((wrap64 (t171 + 1)) : Int).toNat ((wrap64 (t171 + 2)) : Int).toNat).size ≤ 9223372036854775807 then (if ((a0.extract 0 (x4_1 : Int).toNat) ++ ((⟨#[97, 98, 99]⟩ : ByteArray).extract ((wrap64 (t171 + 1)) : Int).toNat ((wrap64 (t171 + 2)) : Int).toNat)).size + x3_1.size ≤ 9223372036854775807 then (some (((a0.extract 0 (x4_1 : Int).toNat) ++ ((⟨#[97, 98, 99]⟩ : ByteArray).extract ((wrap64 (t171 + 1)) : Int).toNat ((wrap64 (t171 + 2)) : Int).toNat)) ++ x3_1)) else (none)) else (none)) else (none)) else (none)) else (none)) else (none)) else (if x3_1.size + 1 ≤ 9223372036854775807 then (spec_NextWord.l0 k1 a0 (x3_1 ++ (⟨#[97]⟩ : ByteArray)) (wrap64 (x4_1 - 1))) else (none))) = some r := H
              have A8 := Aside0.mk A80
              clear A80
              by_cases c9 : (wrap64 (t171 + 1)) < 3
              · rw [if_pos c9] at H
                have c9b0 : decide ((wrap64 (t171 + 1)) < 3) = true := decide_eq_true c9
                clear c9
                have c10b0 := eq_true (of_decide_eq_true (by first | (with_reducible assumption) | assumption) : 0 ≤ x4_1)
                by_cases c11 : x4_1 ≤ (a0.size : Int)
                · rw [if_pos c11] at H
                  have c11b0 := eq_true c11
                  have c11b1 : decide (x4_1 ≤ (a0.size : Int)) = true := decide_eq_true c11
                  clear c11
                  obtain ⟨ji12, hji12⟩ : ∃ j_ : Int, (wrap64 (t171 + 1)) = j_ := ⟨_, rfl⟩
                  replace H : (if 0 ≤ (ji12) then (if (ji12) ≤ (wrap64 (t171 + 2)) then (if (wrap64 (t171 + 2)) ≤ 3 then (if (a0.extract 0 (x4_1 : Int).toNat).size + ((⟨#[97, 98, 99]⟩ : ByteArray).extract ((ji12) : Int).toNat ((wrap64 (t171 + 2)) : Int).toNat).size ≤ 9223372036854775807 then (if ((a0.extract 0 (x4_1 : Int).toNat) ++ ((⟨#[97, 98, 99]⟩ : ByteArray).extract ((ji12) : Int).toNat ((wrap64 (t171 + 2)) : Int).toNat)).size + x3_1.size ≤ 9223372036854775807 then (some (((a0.extract 0 (x4_1 : Int).toNat) ++ ((⟨#[97, 98, 99]⟩ : ByteArray).extract ((ji12) : Int).toNat ((wrap64 (t171 + 2)) : Int).toNat)) ++ x3_1)) else (none)) else (none)) else (none)) else (none)) else (none)) = some r := by first | (rw [hji12] at H; exact H) | (simp only [hji12] at H ⊢; exact H)
                  (try rw [hji12] at c9b0)
                  (try rw [hji12] at A8)
                  have hji12w : (IntKind.i64.wrap (t171 + 1)) = ji12 := (i64_w _).trans hji12
                  by_cases c13 : 0 ≤ (ji12)
                  · rw [if_pos c13] at H
                    have c13b0 := eq_true c13
                    have c13b1 : decide (0 ≤ (ji12)) = true := decide_eq_true c13
                    clear c13
                    by_cases c14 : (ji12) ≤ (wrap64 (t171 + 2))
                    · rw [if_pos c14] at H
                      have c14b0 := eq_true c14
                      have c14b1 : decide ((ji12) ≤ (wrap64 (t171 + 2))) = true := decide_eq_true c14
                      by_cases c15 : (wrap64 (t171 + 2)) ≤ 3
                      · rw [if_pos c15] at H
                        have c15b0 := eq_true c15
                        have c15b1 : decide ((wrap64 (t171 + 2)) ≤ 3) = true := decide_eq_true c15
                        by_cases c16 : (a0.extract 0 (x4_1 : Int).toNat).size + ((⟨#[97, 98, 99]⟩ : ByteArray).extract ((ji12) : Int).toNat ((wrap64 (t171 + 2)) : Int).toNat).size ≤ 9223372036854775807
                        · rw [if_pos c16] at H
                          have c16b0 := eq_true c16
                          have c16b1 : decide ((a0.extract 0 (x4_1 : Int).toNat).size + ((⟨#[97, 98, 99]⟩ : ByteArray).extract ((ji12) : Int).toNat ((wrap64 (t171 + 2)) : Int).toNat).size ≤ 9223372036854775807) = true := decide_eq_true c16
                          try have c16b2 : (9223372036854775807 < (a0.extract 0 (x4_1 : Int).toNat).size + ((⟨#[97, 98, 99]⟩ : ByteArray).extract ((ji12) : Int).toNat ((wrap64 (t171 + 2)) : Int).toNat).size) = False := eq_false (Nat.not_lt.2 c16)
                          by_cases c17 : ((a0.extract 0 (x4_1 : Int).toNat) ++ ((⟨#[97, 98, 99]⟩ : ByteArray).extract ((ji12) : Int).toNat ((wrap64 (t171 + 2)) : Int).toNat)).size + x3_1.size ≤ 9223372036854775807
                          · rw [if_pos c17] at H
                            have c17b0 := eq_true c17
                            have c17b1 : decide (((a0.extract 0 (x4_1 : Int).toNat) ++ ((⟨#[97, 98, 99]⟩ : ByteArray).extract ((ji12) : Int).toNat ((wrap64 (t171 + 2)) : Int).toNat)).size + x3_1.size ≤ 9223372036854775807) = true := decide_eq_true c17
                            try have c17b2 : (9223372036854775807 < ((a0.extract 0 (x4_1 : Int).toNat) ++ ((⟨#[97, 98, 99]⟩ : ByteArray).extract ((ji12) : Int).toNat ((wrap64 (t171 + 2)) : Int).toNat)).size + x3_1.size) = False := eq_false (Nat.not_lt.2 c17)
                            obtain rfl := Option.some.inj H
                            simp only [Option.some.injEq, Prod.mk.injEq] at H
                            obtain ⟨rfl⟩ := H
                            have p7 : 0 ≤ (x4_1 : Int) := of_decide_eq_true (by first | (with_reducible assumption) | assumption)
                            have q7 : x4_1 < (a0.size : Int) := of_decide_eq_true (by first | (with_reducible assumption) | assumption)
                            have hx7 := bt_at a0 x4_1
                            replace p7 := eq_true p7
                            replace q7 := eq_true q7
                            go_wp2_with (first | (go_at_call 15; (with_reducible refine (spec_LetterIndex.calls k1 (bt a0 x4_1) t171 _ A8.out).mono ?_); rintro e w' ⟨rfl, ⟨nd, rfl⟩⟩; (try first | exact ⟨rfl, _, World.drewN_drewN _ _ _⟩ | exact ⟨rfl, _, Eq.trans (World.drewN_drewN _ _ _) (congrArg (World.drewN _) (Nat.add_assoc _ _ _))⟩)))
                            repeat (go_quiet (first | (go_at_call 15; (with_reducible refine (spec_LetterIndex.calls k1 (bt a0 x4_1) t171 _ A8.out).mono ?_); rintro e w' ⟨rfl, ⟨nd, rfl⟩⟩; (try first | exact ⟨rfl, _, World.drewN_drewN _ _ _⟩ | exact ⟨rfl, _, Eq.trans (World.drewN_drewN _ _ _) (congrArg (World.drewN _) (Nat.add_assoc _ _ _))⟩))); try go_wp2_with (first | (go_at_call 15; (with_reducible refine (spec_LetterIndex.calls k1 (bt a0 x4_1) t171 _ A8.out).mono ?_); rintro e w' ⟨rfl, ⟨nd, rfl⟩⟩; (try first | exact ⟨rfl, _, World.drewN_drewN _ _ _⟩ | exact ⟨rfl, _, Eq.trans (World.drewN_drewN _ _ _) (congrArg (World.drewN _) (Nat.add_assoc _ _ _))⟩))))
                            go_ret
                            exact ⟨by first | rfl | (simp; done) | (simp only [← hji12] <;> (first | rfl | simp)) | (simp [*]; done), by repeat (first | exact Drawn0.refl _ | apply Drawn0.step)⟩
                          · rw [if_neg c17] at H
                            exact absurd H (by simp)
                        · rw [if_neg c16] at H
                          exact absurd H (by simp)
                      · rw [if_neg c15] at H
                        exact absurd H (by simp)
                    · rw [if_neg c14] at H
                      exact absurd H (by simp)
                  · rw [if_neg c13] at H
                    exact absurd H (by simp)
                · rw [if_neg c11] at H
                  exact absurd H (by simp)
              · rw [if_neg c9] at H
                have c9b0 : decide ((wrap64 (t171 + 1)) < 3) = false := decide_eq_false c9
                clear c9
                by_cases c18 : x3_1.size + 1 ≤ 9223372036854775807
                · rw [if_pos c18] at H
                  have c18b0 := eq_true c18
                  have c18b1 : decide (x3_1.size + 1 ≤ 9223372036854775807) = true := decide_eq_true c18
                  try have c18b2 : (9223372036854775807 < x3_1.size + 1) = False := eq_false (Nat.not_lt.2 c18)
                  have H' := Aside0.mk H
                  clear H
                  have p7 : 0 ≤ (x4_1 : Int) := of_decide_eq_true (by first | (with_reducible assumption) | assumption)
                  have q7 : x4_1 < (a0.size : Int) := of_decide_eq_true (by first | (with_reducible assumption) | assumption)
                  have hx7 := bt_at a0 x4_1
                  replace p7 := eq_true p7
                  replace q7 := eq_true q7
                  go_wp2_with (first | (go_at_call 15; (with_reducible refine (spec_LetterIndex.calls k1 (bt a0 x4_1) t171 _ A8.out).mono ?_); rintro e w' ⟨rfl, ⟨nd, rfl⟩⟩; (try first | exact ⟨rfl, _, World.drewN_drewN _ _ _⟩ | exact ⟨rfl, _, Eq.trans (World.drewN_drewN _ _ _) (congrArg (World.drewN _) (Nat.add_assoc _ _ _))⟩)))
                  repeat (go_quiet (first | (go_at_call 15; (with_reducible refine (spec_LetterIndex.calls k1 (bt a0 x4_1) t171 _ A8.out).mono ?_); rintro e w' ⟨rfl, ⟨nd, rfl⟩⟩; (try first | exact ⟨rfl, _, World.drewN_drewN _ _ _⟩ | exact ⟨rfl, _, Eq.trans (World.drewN_drewN _ _ _) (congrArg (World.drewN _) (Nat.add_assoc _ _ _))⟩))); try go_wp2_with (first | (go_at_call 15; (with_reducible refine (spec_LetterIndex.calls k1 (bt a0 x4_1) t171 _ A8.out).mono ?_); rintro e w' ⟨rfl, ⟨nd, rfl⟩⟩; (try first | exact ⟨rfl, _, World.drewN_drewN _ _ _⟩ | exact ⟨rfl, _, Eq.trans (World.drewN_drewN _ _ _) (congrArg (World.drewN _) (Nat.add_assoc _ _ _))⟩))))
                  go_roundg k1
                  case measure => have := HK1.out; omega
                  case rel => exact ⟨(x3_1 ++ (⟨#[97]⟩ : ByteArray)), (wrap64 (x4_1 - 1)), (by first | rfl | (simp; done) | (simp [*]; done)), (by first | rfl | (simp; done) | (simp [*]; done)), H', ⟨by have := HK1.out; omega⟩, by repeat (first | exact Drawn0.refl _ | apply Drawn0.step)⟩
                · rw [if_neg c18] at H
                  exact absurd H (by simp)
            · rw [if_neg c6] at H
              exact absurd H (by simp)
          · rw [if_neg c5] at H
            exact absurd H (by simp)
        · rw [if_neg c4] at H
          have c4b0 : decide (0 ≤ x4_1) = false := decide_eq_false c4
          clear c4
          by_cases c19 : x3_1.size + 1 ≤ 9223372036854775807
          · rw [if_pos c19] at H
            have c19b0 := eq_true c19
            have c19b1 : decide (x3_1.size + 1 ≤ 9223372036854775807) = true := decide_eq_true c19
            try have c19b2 : (9223372036854775807 < x3_1.size + 1) = False := eq_false (Nat.not_lt.2 c19)
            replace H := Option.bind_eq_some_iff.mp H
            obtain ⟨t172, A200, H⟩ := H
            replace H : (if t172 = true then (some (x3_1 ++ (⟨#[97]⟩ : ByteArray))) else (some (⟨#[]⟩ : ByteArray))) = some r := H
            have A20 := Aside0.mk A200
            clear A200
            by_cases c21 : t172 = true
            · subst c21
              have H1 : (some (x3_1 ++ (⟨#[97]⟩ : ByteArray))) = some r := by rw [if_pos rfl] at H; exact H
              clear H
              have H := H1
              clear H1
              obtain rfl := Option.some.inj H
              simp only [Option.some.injEq, Prod.mk.injEq] at H
              obtain ⟨rfl⟩ := H
              go_wp2_with (first | (go_at_call 21; (with_reducible refine (spec_IsWord.calls k1 (x3_1 ++ (⟨#[97]⟩ : ByteArray)) true _ A20.out).mono ?_); rintro e w' ⟨rfl, ⟨nd, rfl⟩⟩; (try first | exact ⟨rfl, _, World.drewN_drewN _ _ _⟩ | exact ⟨rfl, _, Eq.trans (World.drewN_drewN _ _ _) (congrArg (World.drewN _) (Nat.add_assoc _ _ _))⟩)))
              repeat (go_quiet (first | (go_at_call 21; (with_reducible refine (spec_IsWord.calls k1 (x3_1 ++ (⟨#[97]⟩ : ByteArray)) true _ A20.out).mono ?_); rintro e w' ⟨rfl, ⟨nd, rfl⟩⟩; (try first | exact ⟨rfl, _, World.drewN_drewN _ _ _⟩ | exact ⟨rfl, _, Eq.trans (World.drewN_drewN _ _ _) (congrArg (World.drewN _) (Nat.add_assoc _ _ _))⟩))); try go_wp2_with (first | (go_at_call 21; (with_reducible refine (spec_IsWord.calls k1 (x3_1 ++ (⟨#[97]⟩ : ByteArray)) true _ A20.out).mono ?_); rintro e w' ⟨rfl, ⟨nd, rfl⟩⟩; (try first | exact ⟨rfl, _, World.drewN_drewN _ _ _⟩ | exact ⟨rfl, _, Eq.trans (World.drewN_drewN _ _ _) (congrArg (World.drewN _) (Nat.add_assoc _ _ _))⟩))))
              go_ret
              exact ⟨by first | rfl | (simp; done) | (simp [*]; done), by repeat (first | exact Drawn0.refl _ | apply Drawn0.step)⟩
            · replace c21 := Bool.eq_false_iff.mpr c21
              subst c21
              have H1 : (some (⟨#[]⟩ : ByteArray)) = some r := by rw [if_neg (show ¬ (false = true) by decide)] at H; exact H
              clear H
              have H := H1
              clear H1
              obtain rfl := Option.some.inj H
              simp only [Option.some.injEq, Prod.mk.injEq] at H
              obtain ⟨rfl⟩ := H
              go_wp2_with (first | (go_at_call 21; (with_reducible refine (spec_IsWord.calls k1 (x3_1 ++ (⟨#[97]⟩ : ByteArray)) false _ A20.out).mono ?_); rintro e w' ⟨rfl, ⟨nd, rfl⟩⟩; (try first | exact ⟨rfl, _, World.drewN_drewN _ _ _⟩ | exact ⟨rfl, _, Eq.trans (World.drewN_drewN _ _ _) (congrArg (World.drewN _) (Nat.add_assoc _ _ _))⟩)))
              repeat (go_quiet (first | (go_at_call 21; (with_reducible refine (spec_IsWord.calls k1 (x3_1 ++ (⟨#[97]⟩ : ByteArray)) false _ A20.out).mono ?_); rintro e w' ⟨rfl, ⟨nd, rfl⟩⟩; (try first | exact ⟨rfl, _, World.drewN_drewN _ _ _⟩ | exact ⟨rfl, _, Eq.trans (World.drewN_drewN _ _ _) (congrArg (World.drewN _) (Nat.add_assoc _ _ _))⟩))); try go_wp2_with (first | (go_at_call 21; (with_reducible refine (spec_IsWord.calls k1 (x3_1 ++ (⟨#[97]⟩ : ByteArray)) false _ A20.out).mono ?_); rintro e w' ⟨rfl, ⟨nd, rfl⟩⟩; (try first | exact ⟨rfl, _, World.drewN_drewN _ _ _⟩ | exact ⟨rfl, _, Eq.trans (World.drewN_drewN _ _ _) (congrArg (World.drewN _) (Nat.add_assoc _ _ _))⟩))))
              go_ret
              exact ⟨by first | rfl | (simp; done) | (simp [*]; done), by repeat (first | exact Drawn0.refl _ | apply Drawn0.step)⟩
          · rw [if_neg c19] at H
            exact absurd H (by simp)
  · replace c3 := Bool.eq_false_iff.mpr c3
    subst c3
    have H1 : (some (⟨#[]⟩ : ByteArray)) = some r := by rw [if_neg (show ¬ (false = true) by decide)] at H; exact H
    clear H
    have H := H1
    clear H1
    obtain rfl := Option.some.inj H
    simp only [Option.some.injEq, Prod.mk.injEq] at H
    obtain ⟨rfl⟩ := H
    go_enter Try.func30, Try.ntmps30
    go_wp2_with (first | (go_at_call 21; (with_reducible refine (spec_IsWord.calls k a0 false _ A2.out).mono ?_); rintro e w' ⟨rfl, ⟨nd, rfl⟩⟩; (try first | exact ⟨rfl, _, World.drewN_drewN _ _ _⟩ | exact ⟨rfl, _, Eq.trans (World.drewN_drewN _ _ _) (congrArg (World.drewN _) (Nat.add_assoc _ _ _))⟩)))
    repeat (go_quiet (first | (go_at_call 21; (with_reducible refine (spec_IsWord.calls k a0 false _ A2.out).mono ?_); rintro e w' ⟨rfl, ⟨nd, rfl⟩⟩; (try first | exact ⟨rfl, _, World.drewN_drewN _ _ _⟩ | exact ⟨rfl, _, Eq.trans (World.drewN_drewN _ _ _) (congrArg (World.drewN _) (Nat.add_assoc _ _ _))⟩))); try go_wp2_with (first | (go_at_call 21; (with_reducible refine (spec_IsWord.calls k a0 false _ A2.out).mono ?_); rintro e w' ⟨rfl, ⟨nd, rfl⟩⟩; (try first | exact ⟨rfl, _, World.drewN_drewN _ _ _⟩ | exact ⟨rfl, _, Eq.trans (World.drewN_drewN _ _ _) (congrArg (World.drewN _) (Nat.add_assoc _ _ _))⟩))))
    go_ret
    exact ⟨by first | rfl | (simp; done) | (simp [*]; done), by repeat (first | exact Drawn0.refl _ | apply Drawn0.step)⟩

end Go.Proofs.Ytdhgmmgdblnciaa.P
