-- Written by gen.py of this repo (a driver of the kit's print) for seat Ytffagfflgoplbaa.
import Derived.Test.YtffagfflgoplbaaP0
import Derived.Test.YtffagfflgoplbaaP1
import Derived.Test.YtffagfflgoplbaaP5
import Derived.Test.YtffagfflgoplbaaP6
import Derived.Test.YtffagfflgoplbaaP7
namespace Go.Proofs.Ytffagfflgoplbaa.P
open Go.RowKit Go.Proofs.YtffagfflgoplbaaW.PrintWords Go.Proofs.YtffagfflgoplbaaW.PrintLast Go.Proofs.YtffagfflgoplbaaW.PrintMore
attribute [local go_sem] max2_int min2_int max_two min_two max_three min_three max_four min_four   -- for this text's walks alone
set_option linter.unusedVariables false
set_option linter.unusedSimpArgs false

/-! ### laws_FnWords: function 4 -/
def laws_FnWords.l0 : Nat → List Int → List ByteArray → Int → Option (Bool)
  | 0, _, _, _ => none
  | k + 1, x0, x4, x5 => if x5 < (x4.length : Int) then (if 0 ≤ (wrap64 (x5 - 1)) then (if (wrap64 (x5 - 1)) < (x4.length : Int) then (if 0 ≤ x5 then ((impl_CompareWords.f (rdOf ByteArray.empty x4 (wrap64 (x5 - 1))) (rdOf ByteArray.empty x4 x5)).bind fun t293 => (if t293 = (-1) then ((impl_NextWord.f k (rdOf ByteArray.empty x4 (wrap64 (x5 - 1)))).bind fun t295 => (if t295.toList = (rdOf ByteArray.empty x4 x5).toList then (laws_FnWords.l0 k x0 x4 (wrap64 (x5 + 1))) else (some false))) else (some false))) else (none)) else (none)) else (none)) else ((spec_DrawCompareWords.f k x0).bind fun bt297 => ((spec_DrawWordsOfLength.f k x0).bind fun t299 => ((spec_DrawNextWord.f k x0).bind fun t300 => ((impl_CompareWords.f bt297.1 bt297.2).bind fun t301 => ((impl_CompareWords.f bt297.2 bt297.1).bind fun t302 => (if t301 = (wrap64 (-t302)) then ((impl_CompareWords.f bt297.1 bt297.2).bind fun t303 => ((spec_CompareWords.f bt297.1 bt297.2).bind fun t304 => (if t303 = t304 then ((impl_WordsOfLength.f k t299).bind fun t305 => ((spec_WordsOfLength.f k t299).bind fun t308 => ((laws_sameTexts.f k t305 t308).bind fun t311 => (if t311 = true then ((impl_NextWord.f k t300).bind fun t312 => ((spec_NextWord.f k t300).bind fun t313 => (if t312.toList = t313.toList then ((impl_IsWord.f k t300).bind fun t314 => ((spec_IsWord.f k t300).bind fun t315 => (some (t314 == t315)))) else (some false)))) else (some false))))) else (some false)))) else (some false)))))))
def laws_FnWords.f (k : Nat) (l0 : List Int) : Option (Bool) := (laws_big.f l0).bind fun t282 => (if t282 = true then (some true) else ((spec_DrawWordsUpTo.f k l0).bind fun t283 => ((impl_WordsUpTo.f k t283).bind fun t284 => ((spec_WordsUpTo.f k t283).bind fun t287 => ((laws_sameTexts.f k t284 t287).bind fun t290 => (if t290 = true then (laws_FnWords.l0 k l0 t284 1) else (some false)))))))
theorem laws_FnWords.mono_l : ∀ k, (∀ y0 y1 y2, LeO (laws_FnWords.l0 k y0 y1 y2) (laws_FnWords.l0 (k + 1) y0 y1 y2))
  | 0 => fun _ _ _ r h => by simp [laws_FnWords.l0] at h
  | k + 1 => by
    have ih0 := laws_FnWords.mono_l k
    · intro y0 y1 y2
      unfold laws_FnWords.l0
      repeat' first
      | (with_reducible exact ih0 _ _ _)
      | (with_reducible exact impl_IsWord.mono _ _)
      | (with_reducible exact impl_NextWord.mono _ _)
      | (with_reducible exact impl_WordsOfLength.mono _ _)
      | (with_reducible exact impl_WordsUpTo.mono _ _)
      | (with_reducible exact laws_sameTexts.mono _ _ _)
      | (with_reducible exact spec_DrawCompareWords.mono _ _)
      | (with_reducible exact spec_DrawNextWord.mono _ _)
      | (with_reducible exact spec_DrawWordsOfLength.mono _ _)
      | (with_reducible exact spec_DrawWordsUpTo.mono _ _)
      | (with_reducible exact spec_IsWord.mono _ _)
      | (with_reducible exact spec_NextWord.mono _ _)
      | (with_reducible exact spec_WordsOfLength.mono _ _)
      | (with_reducible exact spec_WordsUpTo.mono _ _)
      | (with_reducible exact LeO.refl _)
      | (with_reducible exact LeO.none _)
      | (with_reducible refine LeO.ite ?_ ?_)
      | (with_reducible refine LeO.bind ?_ (fun _ => ?_))
      | exact ih0 _ _ _
      | exact impl_IsWord.mono _ _
      | exact impl_NextWord.mono _ _
      | exact impl_WordsOfLength.mono _ _
      | exact impl_WordsUpTo.mono _ _
      | exact laws_sameTexts.mono _ _ _
      | exact spec_DrawCompareWords.mono _ _
      | exact spec_DrawNextWord.mono _ _
      | exact spec_DrawWordsOfLength.mono _ _
      | exact spec_DrawWordsUpTo.mono _ _
      | exact spec_IsWord.mono _ _
      | exact spec_NextWord.mono _ _
      | exact spec_WordsOfLength.mono _ _
      | exact spec_WordsUpTo.mono _ _
      | exact LeO.none _
      | refine LeO.ite ?_ ?_
      | refine LeO.bind ?_ (fun _ => ?_)
theorem laws_FnWords.mono : ∀ a0 k, LeO (laws_FnWords.f k a0) (laws_FnWords.f (k + 1) a0) := by
  intro a0 k
  have ih0 := laws_FnWords.mono_l k
  unfold laws_FnWords.f
  repeat' first
      | (with_reducible exact ih0 _ _ _)
      | (with_reducible exact impl_IsWord.mono _ _)
      | (with_reducible exact impl_NextWord.mono _ _)
      | (with_reducible exact impl_WordsOfLength.mono _ _)
      | (with_reducible exact impl_WordsUpTo.mono _ _)
      | (with_reducible exact laws_sameTexts.mono _ _ _)
      | (with_reducible exact spec_DrawCompareWords.mono _ _)
      | (with_reducible exact spec_DrawNextWord.mono _ _)
      | (with_reducible exact spec_DrawWordsOfLength.mono _ _)
      | (with_reducible exact spec_DrawWordsUpTo.mono _ _)
      | (with_reducible exact spec_IsWord.mono _ _)
      | (with_reducible exact spec_NextWord.mono _ _)
      | (with_reducible exact spec_WordsOfLength.mono _ _)
      | (with_reducible exact spec_WordsUpTo.mono _ _)
      | (with_reducible exact LeO.refl _)
      | (with_reducible exact LeO.none _)
      | (with_reducible refine LeO.ite ?_ ?_)
      | (with_reducible refine LeO.bind ?_ (fun _ => ?_))
      | exact ih0 _ _ _
      | exact impl_IsWord.mono _ _
      | exact impl_NextWord.mono _ _
      | exact impl_WordsOfLength.mono _ _
      | exact impl_WordsUpTo.mono _ _
      | exact laws_sameTexts.mono _ _ _
      | exact spec_DrawCompareWords.mono _ _
      | exact spec_DrawNextWord.mono _ _
      | exact spec_DrawWordsOfLength.mono _ _
      | exact spec_DrawWordsUpTo.mono _ _
      | exact spec_IsWord.mono _ _
      | exact spec_NextWord.mono _ _
      | exact spec_WordsOfLength.mono _ _
      | exact spec_WordsUpTo.mono _ _
      | exact LeO.none _
      | refine LeO.ite ?_ ?_
      | refine LeO.bind ?_ (fun _ => ?_)
def laws_FnWords.T10 : Bool × List (List Nat × List Nat) := (true, [([], []), ([], []), ([1], [1]), ([0, 2], [0, 2]), ([3], [3]), ([], []), ([], []), ([5, 6], [5, 6]), ([7], [7]), ([4, 8], [4, 8]), ([9], [9]), ([10, 9], [10]), ([11], [11]), ([11], [11]), ([13, 11], [11, 13]), ([12, 14, 11], [11, 12, 14]), ([15, 11], [11, 15]), ([16, 11, 11], [11, 16]), ([11], [11]), ([11], [11]), ([18, 19, 11], [11, 18, 19]), ([20, 11], [11, 20]), ([17, 21, 11], [11, 17, 21]), ([11, 22], [11, 22])])
def laws_FnWords.B10 : List Nat := [0, 0, 2, 7, 15, 0, 0, 96, 224, 511, 1023, 2047, 4095, 4095, 12287, 32767, 65535, 131071, 4095, 4095, 790527, 1839103, 4194303, 8388607]
theorem laws_FnWords.tab10 : rtab .any (opsOf Try.f4 10) = laws_FnWords.T10 := by kernel_rfl
theorem laws_FnWords.bits10 : waitsOk laws_FnWords.T10.2 laws_FnWords.B10 = true := by kernel_rfl
set_option maxHeartbeats 8000000 in
set_option maxRecDepth 100000 in
theorem laws_FnWords.calls (k : Nat) (A0 : Option Addr) (c0 : Nat) (l0 : List Int) (r : Bool) (w : World) (hr0 : Kd.C (Kd.int .u8) w A0 l0.length l0) (hc0 : l0.length ≤ c0) (h : laws_FnWords.f k l0 = some r) (hR : r = true) :
    Calls Try.prog 4 #[.slice A0 l0.length c0] w fun e w' => e = .returned (.bool r) ∧ Below w.heap.size w w' := by
  have HR0 := Aside0.mk hr0
  have HC0 := Aside0.mk hc0
  clear hr0 hc0
  have HB := Aside0.mk (Below.refl w.heap.size w)
  have H : ((laws_big.f l0).bind fun t282 => (if t282 = true then (some true) else ((spec_DrawWordsUpTo.f k l0).bind fun t283 => ((impl_WordsUpTo.f k t283).bind fun t284 => ((spec_WordsUpTo.f k t283).bind fun t287 => ((laws_sameTexts.f k t284 t287).bind fun t290 => (if t290 = true then (laws_FnWords.l0 k l0 t284 1) else (some false)))))))) = some r := h
  clear h
  replace H := Option.bind_eq_some_iff.mp H
  obtain ⟨t282, A20, H⟩ := H
  replace H : (if t282 = true then (some true) else ((spec_DrawWordsUpTo.f k l0).bind fun t283 => ((impl_WordsUpTo.f k t283).bind fun t284 => ((spec_WordsUpTo.f k t283).bind fun t287 => ((laws_sameTexts.f k t284 t287).bind fun t290 => (if t290 = true then (laws_FnWords.l0 k l0 t284 1) else (some false))))))) = some r := H
  have A2 := Aside0.mk A20
  clear A20
  by_cases c3 : t282 = true
  · subst c3
    have H1 : (some true) = some r := by rw [if_pos rfl] at H; exact H
    clear H
    have H := H1
    clear H1
    obtain rfl := Option.some.inj H
    simp only [Option.some.injEq, Prod.mk.injEq] at H
    obtain ⟨rfl⟩ := H
    go_enter Try.func4, Try.ntmps4
    go_wp2_with (first | ((with_reducible refine gate_callee (f := 5) rfl ?_); refine goesL_ (some 11) rfl rfl Try.func5 (by kernel_rfl) rfl #[.slice A0 l0.length c0] rfl (by (try simp only [List.map_toArray, List.map_cons, List.map_nil]); first | done | rfl | (simp only [List.length_drop, List.length_take]; rfl)) ?_; (with_reducible refine (laws_big.calls _ _ l0 true _ ?side1 ?side2 A2.out).mono ?_); (case side1 => repeat (first | exact HR0.out | (with_reducible refine Kd.C_alloc ?_ _) | (with_reducible refine Kd.C_drewN ?_ _) | (with_reducible refine Kd.C_drew ?_))); (case side2 => exact HC0.out); rintro e w' ⟨rfl, ⟨nd, rfl⟩⟩; refine ⟨_, rfl, ?_⟩))
    go_ret
    exact ⟨by first | rfl | (simp [errW_none, errW_some] <;> rfl) | (simp [*, errW_none, errW_some] <;> rfl), by repeat (first | (with_reducible first | exact HB.out | apply below_alloc | apply pw_below_drewN | apply below_drew1) | exact HB.out)⟩
  · replace c3 := Bool.eq_false_iff.mpr c3
    subst c3
    have H1 : ((spec_DrawWordsUpTo.f k l0).bind fun t283 => ((impl_WordsUpTo.f k t283).bind fun t284 => ((spec_WordsUpTo.f k t283).bind fun t287 => ((laws_sameTexts.f k t284 t287).bind fun t290 => (if t290 = true then (laws_FnWords.l0 k l0 t284 1) else (some false)))))) = some r := by rw [if_neg (show ¬ (false = true) by decide)] at H; exact H
    clear H
    have H := H1
    clear H1
    replace H := Option.bind_eq_some_iff.mp H
    obtain ⟨t283, A40, H⟩ := H
    replace H : ((impl_WordsUpTo.f k t283).bind fun t284 => ((spec_WordsUpTo.f k t283).bind fun t287 => ((laws_sameTexts.f k t284 t287).bind fun t290 => (if t290 = true then (laws_FnWords.l0 k l0 t284 1) else (some false))))) = some r := H
    have A4 := Aside0.mk A40
    clear A40
    replace H := Option.bind_eq_some_iff.mp H
    obtain ⟨t284, A50, H⟩ := H
    replace H : ((spec_WordsUpTo.f k t283).bind fun t287 => ((laws_sameTexts.f k t284 t287).bind fun t290 => (if t290 = true then (laws_FnWords.l0 k l0 t284 1) else (some false)))) = some r := H
    have A5 := Aside0.mk A50
    clear A50
    replace H := Option.bind_eq_some_iff.mp H
    obtain ⟨t287, A60, H⟩ := H
    replace H : ((laws_sameTexts.f k t284 t287).bind fun t290 => (if t290 = true then (laws_FnWords.l0 k l0 t284 1) else (some false))) = some r := H
    have A6 := Aside0.mk A60
    clear A60
    replace H := Option.bind_eq_some_iff.mp H
    obtain ⟨t290, A70, H⟩ := H
    replace H : (if t290 = true then (laws_FnWords.l0 k l0 t284 1) else (some false)) = some r := H
    have A7 := Aside0.mk A70
    clear A70
    by_cases c8 : t290 = true
    · subst c8
      have H1 : (laws_FnWords.l0 k l0 t284 1) = some r := by rw [if_pos rfl] at H; exact H
      clear H
      have H := H1
      clear H1
      have H' := Aside0.mk H
      clear H
      go_enter Try.func4, Try.ntmps4
      go_wp2_with (first | ((with_reducible refine gate_callee (f := 5) rfl ?_); refine goesL_ (some 11) rfl rfl Try.func5 (by kernel_rfl) rfl #[.slice A0 l0.length c0] rfl (by (try simp only [List.map_toArray, List.map_cons, List.map_nil]); first | done | rfl | (simp only [List.length_drop, List.length_take]; rfl)) ?_; (with_reducible refine (laws_big.calls _ _ l0 false _ ?side1 ?side2 A2.out).mono ?_); (case side1 => repeat (first | exact HR0.out | (with_reducible refine Kd.C_alloc ?_ _) | (with_reducible refine Kd.C_drewN ?_ _) | (with_reducible refine Kd.C_drew ?_))); (case side2 => exact HC0.out); rintro e w' ⟨rfl, ⟨nd, rfl⟩⟩; refine ⟨_, rfl, ?_⟩) | ((with_reducible refine gate_callee (f := 10) rfl ?_); refine goesL_ (some 13) rfl rfl Try.func10 (by kernel_rfl) rfl #[.slice A0 l0.length c0] rfl (by (try simp only [List.map_toArray, List.map_cons, List.map_nil]); first | done | rfl | (simp only [List.length_drop, List.length_take]; rfl)) ?_; (with_reducible refine (spec_DrawWordsUpTo.calls k _ _ l0 t283 _ ?side1 ?side2 A4.out).mono ?_); (case side1 => repeat (first | exact HR0.out | (with_reducible refine Kd.C_alloc ?_ _) | (with_reducible refine Kd.C_drewN ?_ _) | (with_reducible refine Kd.C_drew ?_))); (case side2 => exact HC0.out); rintro e w9 ⟨rfl, hb⟩; refine ⟨_, rfl, ?_⟩; have n0_ := Aside0.mk (below_step (by repeat (first | (with_reducible first | exact HB.out | apply below_alloc | apply pw_below_drewN | apply below_drew1) | exact HB.out)) hb); clear HB; have HB := n0_; clear n0_; (try clear hb); (try clear hb2); (try clear hk); (try clear hi)) | ((with_reducible refine gate_callee (f := 11) rfl ?_); refine goesL_ (some 15) rfl rfl Try.func11 (by kernel_rfl) rfl #[.int .i64 t283] rfl (by (try simp only [List.map_toArray, List.map_cons, List.map_nil]); first | done | rfl | (simp only [List.length_drop, List.length_take]; rfl)) ?_; (with_reducible refine (impl_WordsUpTo.calls k t283 t284 _ A5.out).mono ?_); rintro e w10 ⟨v285, rfl, ho0, hb⟩; refine ⟨_, rfl, ?_⟩; have n0_ := Aside0.mk (Kd.R_lower ho0 (below_size (by repeat (first | (with_reducible first | exact HB.out | apply below_alloc | apply pw_below_drewN | apply below_drew1) | exact HB.out)))); have n1_ := Aside0.mk (below_step (by repeat (first | (with_reducible first | exact HB.out | apply below_alloc | apply pw_below_drewN | apply below_drew1) | exact HB.out)) hb); clear HB; have HO286 := n0_; have HB := n1_; clear n0_ n1_; (try clear hb); (try clear hb2); (try clear hk); (try clear hi); (try clear ho0)) | ((with_reducible refine gate_callee (f := 13) rfl ?_); refine goesL_ (some 18) rfl rfl Try.func13 (by kernel_rfl) rfl #[.int .i64 t283] rfl (by (try simp only [List.map_toArray, List.map_cons, List.map_nil]); first | done | rfl | (simp only [List.length_drop, List.length_take]; rfl)) ?_; (with_reducible refine (spec_WordsUpTo.calls k t283 t287 _ A6.out).mono ?_); rintro e w11 ⟨v288, rfl, ho0, hb⟩; refine ⟨_, rfl, ?_⟩; have n0_ := Aside0.mk (Kd.R_elder' (by (with_reducible repeat (first | apply Kd.R_alloc | apply Kd.R_drewN | apply Kd.R_drew)); exact HO286.out) (Kd.R_base ho0) hb); have n1_ := Aside0.mk (Kd.R_lower (Kd.R_new' ho0 (Kd.R_lt (by (with_reducible repeat (first | apply Kd.R_alloc | apply Kd.R_drewN | apply Kd.R_drew)); exact HO286.out))) (below_size (by repeat (first | (with_reducible first | exact HB.out | apply below_alloc | apply pw_below_drewN | apply below_drew1) | exact HB.out)))); have n2_ := Aside0.mk (below_step (by repeat (first | (with_reducible first | exact HB.out | apply below_alloc | apply pw_below_drewN | apply below_drew1) | exact HB.out)) hb); clear HO286; clear HB; have HO286 := n0_; have HO289 := n1_; have HB := n2_; clear n0_ n1_ n2_; (try clear hb); (try clear hb2); (try clear hk); (try clear hi); (try clear ho0); obtain ⟨Ao12, co12, eo12⟩ := Kd.R_slice HO286.out; subst eo12; obtain ⟨Ao13, co13, eo13⟩ := Kd.R_slice HO289.out; subst eo13) | ((with_reducible refine gate_callee (f := 12) rfl ?_); refine goesL_ (some 19) rfl rfl Try.func12 (by kernel_rfl) rfl #[.slice Ao12 t284.length co12, .slice Ao13 t287.length co13] rfl (by (try simp only [List.map_toArray, List.map_cons, List.map_nil]); first | done | rfl | (simp only [List.length_drop, List.length_take]; rfl)) ?_; (with_reducible refine (laws_sameTexts.calls k _ _ t284 _ _ t287 true _ ?side1 ?side2 ?side3 ?side4 A7.out).mono ?_); (case side1 => repeat (first | exact (Kd.R_reads' HO286.out).2.2 | (with_reducible refine Kd.C_alloc ?_ _) | (with_reducible refine Kd.C_drewN ?_ _) | (with_reducible refine Kd.C_drew ?_))); (case side2 => exact (Kd.R_reads' HO286.out).2.1); (case side3 => repeat (first | exact (Kd.R_reads' HO289.out).2.2 | (with_reducible refine Kd.C_alloc ?_ _) | (with_reducible refine Kd.C_drewN ?_ _) | (with_reducible refine Kd.C_drew ?_))); (case side4 => exact (Kd.R_reads' HO289.out).2.1); rintro e w' ⟨rfl, ⟨nd, rfl⟩⟩; refine ⟨_, rfl, ?_⟩))
      go_loopg [5] k (fun kq v5 w' => ∃ (x5_1 : Int), v5 = .int .i64 x5_1 ∧ Aside0 (laws_FnWords.l0 kq l0 t284 x5_1 = some r) ∧ Aside0 (kq ≤ k) ∧ Aside0 (Kd.R Kd.string 9 w' w.heap.size (fun _ => True) (.slice Ao12 t284.length co12) t284) ∧ Aside0 (Below w.heap.size w w'))
      case atStart => exact ⟨(1), (by first | rfl | (simp; done) | (simp [*]; done)), H', ⟨Nat.le_refl _⟩, ⟨by (with_reducible repeat (first | apply Kd.R_alloc | apply Kd.R_drewN | apply Kd.R_drew)); exact Kd.R_mono HO286.out (fun _ hk => trivial)⟩, ⟨by repeat (first | (with_reducible first | exact HB.out | apply below_alloc | apply pw_below_drewN | apply below_drew1) | exact HB.out)⟩⟩
      case round =>
        clear H'
        try clear c1
        try clear p2
        try clear c3
        try clear c4
        try clear c5
        try clear c8
        try clear c10
        try clear c11
        try clear c12
        try clear c13
        obtain ⟨x5_1, rfl, HA, HK1, HO_4, HB⟩ := hrel
        cases gk with
        | zero => exact absurd HA.out (by simp [laws_FnWords.l0])
        | succ k1 =>
          have H := HA.out
          clear HA
          simp only [laws_FnWords.l0] at H
          by_cases c14 : x5_1 < (t284.length : Int)
          · rw [if_pos c14] at H
            have c14b0 : decide (x5_1 < (t284.length : Int)) = true := decide_eq_true c14
            clear c14
            obtain ⟨ji15, hji15⟩ : ∃ j_ : Int, (wrap64 (x5_1 - 1)) = j_ := ⟨_, rfl⟩
            replace H : (if 0 ≤ (ji15) then (if (ji15) < (t284.length : Int) then (if 0 ≤ x5_1 then ((impl_CompareWords.f (rdOf ByteArray.empty t284 (ji15)) (rdOf ByteArray.empty t284 x5_1)).bind fun t293 => (if t293 = (-1) then ((impl_NextWord.f k1 (rdOf ByteArray.empty t284 (ji15))).bind fun t295 => (if t295.toList = (rdOf ByteArray.empty t284 x5_1).toList then (laws_FnWords.l0 k1 l0 t284 (wrap64 (x5_1 + 1))) else (some false))) else (some false))) else (none)) else (none)) else (none)) = some r := by first | (rw [hji15] at H; exact H) | (simp only [hji15] at H ⊢; exact H)
            have hji15w : (IntKind.i64.wrap (x5_1 - 1)) = ji15 := (i64_w _).trans hji15
            by_cases c16 : 0 ≤ (ji15)
            · rw [if_pos c16] at H
              have c16b0 : decide (0 ≤ (ji15)) = true := decide_eq_true c16
              clear c16
              by_cases c17 : (ji15) < (t284.length : Int)
              · rw [if_pos c17] at H
                have c17b0 : decide ((ji15) < (t284.length : Int)) = true := decide_eq_true c17
                clear c17
                by_cases c18 : 0 ≤ x5_1
                · rw [if_pos c18] at H
                  have c18b0 : decide (0 ≤ x5_1) = true := decide_eq_true c18
                  clear c18
                  replace H := Option.bind_eq_some_iff.mp H
                  obtain ⟨t293, A190, H⟩ := H
                  replace H : (if t293 = (-1) then ((impl_NextWord.f k1 (rdOf ByteArray.empty t284 (ji15))).bind fun t295 => (if t295.toList = (rdOf ByteArray.empty t284 x5_1).toList then (laws_FnWords.l0 k1 l0 t284 (wrap64 (x5_1 + 1))) else (some false))) else (some false)) = some r := H
                  have A19 := Aside0.mk A190
                  clear A190
                  by_cases c20 : t293 = (-1)
                  · rw [if_pos c20] at H
                    have c20b0 : (t293 == (-1)) = true := beq_iff_eq.mpr c20
                    have c20b1 : (t293 != (-1)) = false := bne_eq_false_iff_eq.mpr c20
                    clear c20
                    replace H := Option.bind_eq_some_iff.mp H
                    obtain ⟨t295, A210, H⟩ := H
                    replace H : (if t295.toList = (rdOf ByteArray.empty t284 x5_1).toList then (laws_FnWords.l0 k1 l0 t284 (wrap64 (x5_1 + 1))) else (some false)) = some r := H
                    have A21 := Aside0.mk A210
                    clear A210
                    by_cases c22 : t295.toList = (rdOf ByteArray.empty t284 x5_1).toList
                    · rw [if_pos c22] at H
                      have c22b0 : (t295.toList == (rdOf ByteArray.empty t284 x5_1).toList) = true := beq_iff_eq.mpr c22
                      have c22b1 : (t295.toList != (rdOf ByteArray.empty t284 x5_1).toList) = false := bne_eq_false_iff_eq.mpr c22
                      clear c22
                      have H' := Aside0.mk H
                      clear H
                      try go_wp2
                      have n0_ := Aside0.mk (Kd.R_drew HO_4.out)
                      have n1_ := Aside0.mk (below_drew1 HB.out)
                      clear HO_4
                      clear HB
                      have HO_4 := n0_
                      have HB := n1_
                      clear n0_ n1_
                      have p291 : 0 ≤ ((ji15) : Int) := of_decide_eq_true (by first | (with_reducible assumption) | assumption)
                      have q291 : (ji15) < (t284.length : Int) := of_decide_eq_true (by first | (with_reducible assumption) | assumption)
                      obtain ⟨ad291, e291, hx291_0⟩ := Kd.at_string (Kd.R_reads' HO_4.out).2.2 (ji15) p291 q291
                      cases e291
                      replace p291 := eq_true p291
                      replace q291 := eq_true q291
                      have p292 : 0 ≤ (x5_1 : Int) := of_decide_eq_true (by first | (with_reducible assumption) | assumption)
                      have q292 : x5_1 < (t284.length : Int) := of_decide_eq_true (by first | (with_reducible assumption) | assumption)
                      obtain ⟨ad292, e292, hx292_0⟩ := Kd.at_string (Kd.R_reads' HO_4.out).2.2 x5_1 p292 q292
                      obtain rfl : ad291 = ad292 := (by injection e292)
                      replace p292 := eq_true p292
                      replace q292 := eq_true q292
                      have p294 : 0 ≤ ((ji15) : Int) := of_decide_eq_true (by first | (with_reducible assumption) | assumption)
                      have q294 : (ji15) < (t284.length : Int) := of_decide_eq_true (by first | (with_reducible assumption) | assumption)
                      obtain ⟨ad294, e294, hx294_0⟩ := Kd.at_string (Kd.R_reads' HO_4.out).2.2 (ji15) p294 q294
                      obtain rfl : ad291 = ad294 := (by injection e294)
                      replace p294 := eq_true p294
                      replace q294 := eq_true q294
                      have p296 : 0 ≤ (x5_1 : Int) := of_decide_eq_true (by first | (with_reducible assumption) | assumption)
                      have q296 : x5_1 < (t284.length : Int) := of_decide_eq_true (by first | (with_reducible assumption) | assumption)
                      obtain ⟨ad296, e296, hx296_0⟩ := Kd.at_string (Kd.R_reads' HO_4.out).2.2 x5_1 p296 q296
                      obtain rfl : ad291 = ad296 := (by injection e296)
                      replace p296 := eq_true p296
                      replace q296 := eq_true q296
                      refine start_ (n := 24) (S := fun w' => w'.cell? (ad291.add ((ji15)).toNat) = some (.string (rdOf ByteArray.empty t284 (ji15))) ∧ w'.cell? (ad291.add (x5_1).toNat) = some (.string (rdOf ByteArray.empty t284 x5_1)) ∧ w'.cell? (ad291.add ((ji15)).toNat) = some (.string (rdOf ByteArray.empty t284 (ji15))) ∧ w'.cell? (ad291.add (x5_1).toNat) = some (.string (rdOf ByteArray.empty t284 x5_1))) (ds := []) #[false, false, false, false, false, false, false, false, false, false, false, false, false, false, false, false, false, false, false, false, false, false, false, false] (by kernel_rfl) rfl rfl ⟨hx291_0, hx292_0, hx294_0, hx296_0⟩ (fun hHeld => ?_); refine with_tabW laws_FnWords.tab10 laws_FnWords.bits10 (fun HT_ HW_ => ?_)
                      generalize wr.drew = w23 at HO_4 HB hx291_0 hx292_0 hx294_0 hx296_0 hHeld ⊢
                      refine pure_ (i := 0) (N := some 27) (v := ?_) (a' := ?_) #[true, false, false, false, false, false, false, false, false, false, false, false, false, false, false, false, false, false, false, false, false, false, false, false] rfl rfl (any_of HT_.out (by kernel_rfl)) (fun _ _ _ h => h) (Or.inl ⟨by rfl, ?_⟩) ?_ ?_
                      rotate_left
                      · intro w'
                        go_simp
                        with_reducible rfl
                      rotate_left
                      · simp only [Act.put, List.setIfInBounds_toArray, List.set_cons_zero, List.set_cons_succ, i64_w, i32_w]
                        rfl
                      refine pure_ (i := 1) (N := some 28) (v := ?_) (a' := ?_) #[true, true, false, false, false, false, false, false, false, false, false, false, false, false, false, false, false, false, false, false, false, false, false, false] rfl rfl (any_of HT_.out (by kernel_rfl)) (fun _ _ _ h => h) (Or.inl ⟨by rfl, ?_⟩) ?_ ?_
                      rotate_left
                      · intro w'
                        go_simp
                        with_reducible rfl
                      rotate_left
                      · simp only [Act.put, List.setIfInBounds_toArray, List.set_cons_zero, List.set_cons_succ, i64_w, i32_w]
                        rfl
                      refine pure_ (i := 2) (N := some 29) (v := ?_) (a' := ?_) #[true, true, true, false, false, false, false, false, false, false, false, false, false, false, false, false, false, false, false, false, false, false, false, false] rfl rfl (any_of HT_.out (by kernel_rfl)) (fun _ _ _ h => h) (Or.inl ⟨by rfl, ?_⟩) ?_ ?_
                      rotate_left
                      · intro w'
                        go_simp
                        with_reducible rfl
                      rotate_left
                      · simp only [Act.put, List.setIfInBounds_toArray, List.set_cons_zero, List.set_cons_succ, i64_w, i32_w]
                        rfl
                      refine pure_ (i := 3) (N := some 30) (v := ?_) (a' := ?_) #[true, true, true, true, false, false, false, false, false, false, false, false, false, false, false, false, false, false, false, false, false, false, false, false] rfl rfl (any_of HT_.out (by kernel_rfl)) (fun _ _ _ h => h) (Or.inl ⟨by rfl, ?_⟩) ?_ ?_
                      rotate_left
                      · intro w'
                        go_simp
                        with_reducible rfl
                      rotate_left
                      · simp only [Act.put, List.setIfInBounds_toArray, List.set_cons_zero, List.set_cons_succ, i64_w, i32_w]
                        rfl
                      refine pure_ (i := 5) (N := some 32) (v := ?_) (a' := ?_) #[true, true, true, true, false, true, false, false, false, false, false, false, false, false, false, false, false, false, false, false, false, false, false, false] rfl rfl (any_of HT_.out (by kernel_rfl)) (fun _ _ _ h => h) (Or.inl ⟨by rfl, ?_⟩) ?_ ?_
                      rotate_left
                      · intro w'
                        go_simp
                        with_reducible rfl
                      rotate_left
                      · simp only [Act.put, List.setIfInBounds_toArray, List.set_cons_zero, List.set_cons_succ, i64_w, i32_w]
                        rfl
                      refine pure_ (i := 6) (N := some 33) (v := ?_) (a' := ?_) #[true, true, true, true, false, true, true, false, false, false, false, false, false, false, false, false, false, false, false, false, false, false, false, false] rfl rfl (any_of HT_.out (by kernel_rfl)) (fun _ _ _ h => h) (Or.inl ⟨by rfl, ?_⟩) ?_ ?_
                      rotate_left
                      · intro w'
                        go_simp
                        with_reducible rfl
                      rotate_left
                      · simp only [Act.put, List.setIfInBounds_toArray, List.set_cons_zero, List.set_cons_succ, i64_w, i32_w]
                        rfl
                      refine pure_ (i := 7) (N := some 34) (v := ?_) (a' := ?_) #[true, true, true, true, false, true, true, true, false, false, false, false, false, false, false, false, false, false, false, false, false, false, false, false] rfl rfl (any_of HT_.out (by kernel_rfl)) (fun _ _ _ h => h) (Or.inl ⟨by rfl, ?_⟩) ?_ ?_
                      rotate_left
                      · intro w'
                        go_simp
                        with_reducible rfl
                      rotate_left
                      · simp only [Act.put, List.setIfInBounds_toArray, List.set_cons_zero, List.set_cons_succ, i64_w, i32_w]
                        rfl
                      refine take_ (i := 4) (N := some 31) (v := ?_) (a' := ?_) #[true, true, true, true, true, true, true, true, false, false, false, false, false, false, false, false, false, false, false, false, false, false, false, false] rfl rfl (take_ofW HT_.out HW_.out (by kernel_rfl)) (fun _ _ _ h => h) (Or.inl ⟨by rfl, ?_⟩) hHeld ?_ ?_
                      rotate_left
                      · rintro w' ⟨s0, s1, s2, s3⟩
                        go_simp
                        with_reducible rfl
                      rotate_left
                      · simp only [Act.put, List.setIfInBounds_toArray, List.set_cons_zero, List.set_cons_succ, i64_w, i32_w]
                        rfl
                      refine take_ (i := 8) (N := some 35) (v := ?_) (a' := ?_) #[true, true, true, true, true, true, true, true, true, false, false, false, false, false, false, false, false, false, false, false, false, false, false, false] rfl rfl (take_ofW HT_.out HW_.out (by kernel_rfl)) (fun _ _ _ h => h) (Or.inl ⟨by rfl, ?_⟩) hHeld ?_ ?_
                      rotate_left
                      · rintro w' ⟨s0, s1, s2, s3⟩
                        go_simp
                        with_reducible rfl
                      rotate_left
                      · simp only [Act.put, List.setIfInBounds_toArray, List.set_cons_zero, List.set_cons_succ, i64_w, i32_w]
                        rfl
                      refine one_ (i := 9) (N := some 36) #[true, true, true, true, true, true, true, true, true, true, false, false, false, false, false, false, false, false, false, false, false, false, false, false] rfl rfl (one_of HT_.out (by kernel_rfl)) (by decide) (fun K hK => ?_)
                      refine goes_ Try.func14 (by kernel_rfl) rfl #[.string (rdOf ByteArray.empty t284 (ji15)), .string (rdOf ByteArray.empty t284 x5_1)] (by rfl) rfl rfl (by (try simp only [List.map_toArray, List.map_cons, List.map_nil]); first | done | (simp only [hji15]; rfl) | rfl | (simp only [List.length_drop, List.length_take]; rfl)) ?_
                      with_reducible refine (impl_CompareWords.calls (rdOf ByteArray.empty t284 (ji15)) (rdOf ByteArray.empty t284 x5_1) t293 _ A19.out).mono ?_
                      rintro e w' ⟨rfl, ⟨nd, rfl⟩⟩
                      refine ⟨_, rfl, ?_⟩
                      refine hK.out _ _ ⟨hHeld.1, hHeld.2.1, hHeld.2.2.1, hHeld.2.2.2⟩ (fun hHeld => ?_)
                      clear hK K
                      refine norm_ (a' := ?_) ?_ ?_
                      rotate_left
                      · show Act.put _ (some 36) _ = _
                        simp only [Act.put, List.setIfInBounds_toArray, List.set_cons_zero, List.set_cons_succ, i64_w, i32_w]
                        rfl
                      refine pure_ (i := 10) (N := some 37) (v := ?_) (a' := ?_) #[true, true, true, true, true, true, true, true, true, true, true, false, false, false, false, false, false, false, false, false, false, false, false, false] rfl rfl (any_of HT_.out (by kernel_rfl)) (fun _ _ _ h => h) (Or.inl ⟨by rfl, ?_⟩) ?_ ?_
                      rotate_left
                      · intro w'
                        go_simp
                        with_reducible rfl
                      rotate_left
                      · simp only [Act.put, List.setIfInBounds_toArray, List.set_cons_zero, List.set_cons_succ, i64_w, i32_w]
                        rfl
                      refine pure_ (i := 11) (N := some 38) (v := ?_) (a' := ?_) #[true, true, true, true, true, true, true, true, true, true, true, true, false, false, false, false, false, false, false, false, false, false, false, false] rfl rfl (any_of HT_.out (by kernel_rfl)) (fun _ _ _ h => h) (Or.inl ⟨by rfl, ?_⟩) ?_ ?_
                      rotate_left
                      · intro w'
                        go_simp
                        with_reducible rfl
                      rotate_left
                      · simp only [Act.put, List.setIfInBounds_toArray, List.set_cons_zero, List.set_cons_succ, i64_w, i32_w]
                        rfl
                      refine pure_ (i := 12) (N := some 39) (v := ?_) (a' := ?_) #[true, true, true, true, true, true, true, true, true, true, true, true, true, false, false, false, false, false, false, false, false, false, false, false] rfl rfl (any_of HT_.out (by kernel_rfl)) (fun _ _ _ h => h) (Or.inl ⟨by rfl, ?_⟩) ?_ ?_
                      rotate_left
                      · intro w'
                        go_simp
                        with_reducible rfl
                      rotate_left
                      · simp only [Act.put, List.setIfInBounds_toArray, List.set_cons_zero, List.set_cons_succ, i64_w, i32_w]
                        rfl
                      refine pure_ (i := 13) (N := some 40) (v := ?_) (a' := ?_) #[true, true, true, true, true, true, true, true, true, true, true, true, true, true, false, false, false, false, false, false, false, false, false, false] rfl rfl (any_of HT_.out (by kernel_rfl)) (fun _ _ _ h => h) (Or.inl ⟨by rfl, ?_⟩) ?_ ?_
                      rotate_left
                      · intro w'
                        go_simp
                        with_reducible rfl
                      rotate_left
                      · simp only [Act.put, List.setIfInBounds_toArray, List.set_cons_zero, List.set_cons_succ, i64_w, i32_w]
                        rfl
                      refine pure_ (i := 14) (N := some 41) (v := ?_) (a' := ?_) #[true, true, true, true, true, true, true, true, true, true, true, true, true, true, true, false, false, false, false, false, false, false, false, false] rfl rfl (any_of HT_.out (by kernel_rfl)) (fun _ _ _ h => h) (Or.inl ⟨by rfl, ?_⟩) ?_ ?_
                      rotate_left
                      · intro w'
                        go_simp
                        with_reducible rfl
                      rotate_left
                      · simp only [Act.put, List.setIfInBounds_toArray, List.set_cons_zero, List.set_cons_succ, i64_w, i32_w]
                        rfl
                      refine pure_ (i := 15) (N := some 42) (v := ?_) (a' := ?_) #[true, true, true, true, true, true, true, true, true, true, true, true, true, true, true, true, false, false, false, false, false, false, false, false] rfl rfl (any_of HT_.out (by kernel_rfl)) (fun _ _ _ h => h) (Or.inl ⟨by rfl, ?_⟩) ?_ ?_
                      rotate_left
                      · intro w'
                        go_simp
                        with_reducible rfl
                      rotate_left
                      · simp only [Act.put, List.setIfInBounds_toArray, List.set_cons_zero, List.set_cons_succ, i64_w, i32_w]
                        rfl
                      refine pure_ (i := 18) (N := some 45) (v := ?_) (a' := ?_) #[true, true, true, true, true, true, true, true, true, true, true, true, true, true, true, true, false, false, true, false, false, false, false, false] rfl rfl (any_of HT_.out (by kernel_rfl)) (fun _ _ _ h => h) (Or.inl ⟨by rfl, ?_⟩) ?_ ?_
                      rotate_left
                      · intro w'
                        go_simp
                        with_reducible rfl
                      rotate_left
                      · simp only [Act.put, List.setIfInBounds_toArray, List.set_cons_zero, List.set_cons_succ, i64_w, i32_w]
                        rfl
                      refine pure_ (i := 19) (N := some 46) (v := ?_) (a' := ?_) #[true, true, true, true, true, true, true, true, true, true, true, true, true, true, true, true, false, false, true, true, false, false, false, false] rfl rfl (any_of HT_.out (by kernel_rfl)) (fun _ _ _ h => h) (Or.inl ⟨by rfl, ?_⟩) ?_ ?_
                      rotate_left
                      · intro w'
                        go_simp
                        with_reducible rfl
                      rotate_left
                      · simp only [Act.put, List.setIfInBounds_toArray, List.set_cons_zero, List.set_cons_succ, i64_w, i32_w]
                        rfl
                      refine pure_ (i := 20) (N := some 47) (v := ?_) (a' := ?_) #[true, true, true, true, true, true, true, true, true, true, true, true, true, true, true, true, false, false, true, true, true, false, false, false] rfl rfl (any_of HT_.out (by kernel_rfl)) (fun _ _ _ h => h) (Or.inl ⟨by rfl, ?_⟩) ?_ ?_
                      rotate_left
                      · intro w'
                        go_simp
                        with_reducible rfl
                      rotate_left
                      · simp only [Act.put, List.setIfInBounds_toArray, List.set_cons_zero, List.set_cons_succ, i64_w, i32_w]
                        rfl
                      refine take_ (i := 16) (N := some 43) (v := ?_) (a' := ?_) #[true, true, true, true, true, true, true, true, true, true, true, true, true, true, true, true, true, false, true, true, true, false, false, false] rfl rfl (take_ofW HT_.out HW_.out (by kernel_rfl)) (fun _ _ _ h => h) (Or.inl ⟨by rfl, ?_⟩) hHeld ?_ ?_
                      rotate_left
                      · rintro w' ⟨s0, s1, s2, s3⟩
                        go_simp
                        with_reducible rfl
                      rotate_left
                      · simp only [Act.put, List.setIfInBounds_toArray, List.set_cons_zero, List.set_cons_succ, i64_w, i32_w]
                        rfl
                      refine take_ (i := 21) (N := some 48) (v := ?_) (a' := ?_) #[true, true, true, true, true, true, true, true, true, true, true, true, true, true, true, true, true, false, true, true, true, true, false, false] rfl rfl (take_ofW HT_.out HW_.out (by kernel_rfl)) (fun _ _ _ h => h) (Or.inl ⟨by rfl, ?_⟩) hHeld ?_ ?_
                      rotate_left
                      · rintro w' ⟨s0, s1, s2, s3⟩
                        go_simp
                        with_reducible rfl
                      rotate_left
                      · simp only [Act.put, List.setIfInBounds_toArray, List.set_cons_zero, List.set_cons_succ, i64_w, i32_w]
                        rfl
                      refine one_ (i := 17) (N := some 44) #[true, true, true, true, true, true, true, true, true, true, true, true, true, true, true, true, true, true, true, true, true, true, false, false] rfl rfl (one_of HT_.out (by kernel_rfl)) (by decide) (fun K hK => ?_)
                      refine goes_ Try.func15 (by kernel_rfl) rfl #[.string (rdOf ByteArray.empty t284 (ji15))] (by rfl) rfl rfl (by (try simp only [List.map_toArray, List.map_cons, List.map_nil]); first | done | (simp only [hji15]; rfl) | rfl | (simp only [List.length_drop, List.length_take]; rfl)) ?_
                      with_reducible refine (impl_NextWord.calls k1 (rdOf ByteArray.empty t284 (ji15)) t295 _ A21.out).mono ?_
                      rintro e w24 ⟨rfl, hb⟩
                      have HS0_ := (hb.cell (World.block_lt_of_cell? _ _ (hHeld.1))).trans (hHeld.1)
                      have HS1_ := (hb.cell (World.block_lt_of_cell? _ _ (hHeld.2.1))).trans (hHeld.2.1)
                      have HS2_ := (hb.cell (World.block_lt_of_cell? _ _ (hHeld.2.2.1))).trans (hHeld.2.2.1)
                      have HS3_ := (hb.cell (World.block_lt_of_cell? _ _ (hHeld.2.2.2))).trans (hHeld.2.2.2)
                      refine ⟨_, rfl, ?_⟩
                      have n0_ := Aside0.mk (Kd.R_below (by (with_reducible repeat (first | apply Kd.R_alloc | apply Kd.R_drewN | apply Kd.R_drew)); exact HO_4.out) hb)
                      have n1_ := Aside0.mk (below_step (by repeat (first | (with_reducible first | exact HB.out | apply below_alloc | apply pw_below_drewN | apply below_drew1) | exact HB.out)) hb)
                      clear HO_4
                      clear HB
                      have HO_4 := n0_
                      have HB := n1_
                      clear n0_ n1_
                      (try clear hb)
                      (try clear hb2)
                      (try clear hk)
                      (try clear hi)
                      refine hK.out _ _ ⟨HS0_, HS1_, HS2_, HS3_⟩ (fun hHeld => ?_)
                      clear hK K
                      refine norm_ (a' := ?_) ?_ ?_
                      rotate_left
                      · show Act.put _ (some 44) _ = _
                        simp only [Act.put, List.setIfInBounds_toArray, List.set_cons_zero, List.set_cons_succ, i64_w, i32_w]
                        rfl
                      refine pure_ (i := 22) (N := some 49) (v := ?_) (a' := ?_) #[true, true, true, true, true, true, true, true, true, true, true, true, true, true, true, true, true, true, true, true, true, true, true, false] rfl rfl (any_of HT_.out (by kernel_rfl)) (fun _ _ _ h => h) (Or.inl ⟨by rfl, ?_⟩) ?_ ?_
                      rotate_left
                      · intro w'
                        go_simp
                        with_reducible rfl
                      rotate_left
                      · simp only [Act.put, List.setIfInBounds_toArray, List.set_cons_zero, List.set_cons_succ, i64_w, i32_w]
                        rfl
                      refine pure_ (i := 23) (N := some 50) (v := ?_) (a' := ?_) #[true, true, true, true, true, true, true, true, true, true, true, true, true, true, true, true, true, true, true, true, true, true, true, true] rfl rfl (any_of HT_.out (by kernel_rfl)) (fun _ _ _ h => h) (Or.inl ⟨by rfl, ?_⟩) ?_ ?_
                      rotate_left
                      · intro w'
                        go_simp
                        with_reducible rfl
                      rotate_left
                      · simp only [Act.put, List.setIfInBounds_toArray, List.set_cons_zero, List.set_cons_succ, i64_w, i32_w]
                        rfl
                      refine done_ (done_of HT_.out (by kernel_rfl)) ?_
                      try go_wp2
                      go_roundg k1
                      case measure => have := HK1.out; omega
                      case rel => exact ⟨(wrap64 (x5_1 + 1)), (by first | rfl | (simp; done) | (simp [*]; done)), H', ⟨by have := HK1.out; omega⟩, ⟨by (with_reducible repeat (first | apply Kd.R_alloc | apply Kd.R_drewN | apply Kd.R_drew)); exact HO_4.out⟩, ⟨by repeat (first | (with_reducible first | exact HB.out | apply below_alloc | apply pw_below_drewN | apply below_drew1) | exact HB.out)⟩⟩
                    · rw [if_neg c22] at H
                      have c22b0 : (t295.toList == (rdOf ByteArray.empty t284 x5_1).toList) = false := beq_eq_false_iff_ne.mpr c22
                      have c22b1 : (t295.toList != (rdOf ByteArray.empty t284 x5_1).toList) = true := bne_iff_ne.mpr c22
                      obtain rfl := Option.some.inj H
                      exact absurd hR (by decide)
                  · rw [if_neg c20] at H
                    have c20b0 : (t293 == (-1)) = false := beq_eq_false_iff_ne.mpr c20
                    have c20b1 : (t293 != (-1)) = true := bne_iff_ne.mpr c20
                    obtain rfl := Option.some.inj H
                    exact absurd hR (by decide)
                · rw [if_neg c18] at H
                  exact absurd H (by simp)
              · rw [if_neg c17] at H
                exact absurd H (by simp)
            · rw [if_neg c16] at H
              exact absurd H (by simp)
          · rw [if_neg c14] at H
            have c14b0 : decide (x5_1 < (t284.length : Int)) = false := decide_eq_false c14
            clear c14
            replace H := Option.bind_eq_some_iff.mp H
            obtain ⟨⟨t297, t298⟩, A250, H⟩ := H
            replace H : ((spec_DrawWordsOfLength.f k1 l0).bind fun t299 => ((spec_DrawNextWord.f k1 l0).bind fun t300 => ((impl_CompareWords.f t297 t298).bind fun t301 => ((impl_CompareWords.f t298 t297).bind fun t302 => (if t301 = (wrap64 (-t302)) then ((impl_CompareWords.f t297 t298).bind fun t303 => ((spec_CompareWords.f t297 t298).bind fun t304 => (if t303 = t304 then ((impl_WordsOfLength.f k1 t299).bind fun t305 => ((spec_WordsOfLength.f k1 t299).bind fun t308 => ((laws_sameTexts.f k1 t305 t308).bind fun t311 => (if t311 = true then ((impl_NextWord.f k1 t300).bind fun t312 => ((spec_NextWord.f k1 t300).bind fun t313 => (if t312.toList = t313.toList then ((impl_IsWord.f k1 t300).bind fun t314 => ((spec_IsWord.f k1 t300).bind fun t315 => (some (t314 == t315)))) else (some false)))) else (some false))))) else (some false)))) else (some false)))))) = some r := H
            have A25 := Aside0.mk A250
            clear A250
            replace H := Option.bind_eq_some_iff.mp H
            obtain ⟨t299, A260, H⟩ := H
            replace H : ((spec_DrawNextWord.f k1 l0).bind fun t300 => ((impl_CompareWords.f t297 t298).bind fun t301 => ((impl_CompareWords.f t298 t297).bind fun t302 => (if t301 = (wrap64 (-t302)) then ((impl_CompareWords.f t297 t298).bind fun t303 => ((spec_CompareWords.f t297 t298).bind fun t304 => (if t303 = t304 then ((impl_WordsOfLength.f k1 t299).bind fun t305 => ((spec_WordsOfLength.f k1 t299).bind fun t308 => ((laws_sameTexts.f k1 t305 t308).bind fun t311 => (if t311 = true then ((impl_NextWord.f k1 t300).bind fun t312 => ((spec_NextWord.f k1 t300).bind fun t313 => (if t312.toList = t313.toList then ((impl_IsWord.f k1 t300).bind fun t314 => ((spec_IsWord.f k1 t300).bind fun t315 => (some (t314 == t315)))) else (some false)))) else (some false))))) else (some false)))) else (some false))))) = some r := H
            have A26 := Aside0.mk A260
            clear A260
            replace H := Option.bind_eq_some_iff.mp H
            obtain ⟨t300, A270, H⟩ := H
            replace H : ((impl_CompareWords.f t297 t298).bind fun t301 => ((impl_CompareWords.f t298 t297).bind fun t302 => (if t301 = (wrap64 (-t302)) then ((impl_CompareWords.f t297 t298).bind fun t303 => ((spec_CompareWords.f t297 t298).bind fun t304 => (if t303 = t304 then ((impl_WordsOfLength.f k1 t299).bind fun t305 => ((spec_WordsOfLength.f k1 t299).bind fun t308 => ((laws_sameTexts.f k1 t305 t308).bind fun t311 => (if t311 = true then ((impl_NextWord.f k1 t300).bind fun t312 => ((spec_NextWord.f k1 t300).bind fun t313 => (if t312.toList = t313.toList then ((impl_IsWord.f k1 t300).bind fun t314 => ((spec_IsWord.f k1 t300).bind fun t315 => (some (t314 == t315)))) else (some false)))) else (some false))))) else (some false)))) else (some false)))) = some r := H
            have A27 := Aside0.mk A270
            clear A270
            replace H := Option.bind_eq_some_iff.mp H
            obtain ⟨t301, A280, H⟩ := H
            replace H : ((impl_CompareWords.f t298 t297).bind fun t302 => (if t301 = (wrap64 (-t302)) then ((impl_CompareWords.f t297 t298).bind fun t303 => ((spec_CompareWords.f t297 t298).bind fun t304 => (if t303 = t304 then ((impl_WordsOfLength.f k1 t299).bind fun t305 => ((spec_WordsOfLength.f k1 t299).bind fun t308 => ((laws_sameTexts.f k1 t305 t308).bind fun t311 => (if t311 = true then ((impl_NextWord.f k1 t300).bind fun t312 => ((spec_NextWord.f k1 t300).bind fun t313 => (if t312.toList = t313.toList then ((impl_IsWord.f k1 t300).bind fun t314 => ((spec_IsWord.f k1 t300).bind fun t315 => (some (t314 == t315)))) else (some false)))) else (some false))))) else (some false)))) else (some false))) = some r := H
            have A28 := Aside0.mk A280
            clear A280
            replace H := Option.bind_eq_some_iff.mp H
            obtain ⟨t302, A290, H⟩ := H
            replace H : (if t301 = (wrap64 (-t302)) then ((impl_CompareWords.f t297 t298).bind fun t303 => ((spec_CompareWords.f t297 t298).bind fun t304 => (if t303 = t304 then ((impl_WordsOfLength.f k1 t299).bind fun t305 => ((spec_WordsOfLength.f k1 t299).bind fun t308 => ((laws_sameTexts.f k1 t305 t308).bind fun t311 => (if t311 = true then ((impl_NextWord.f k1 t300).bind fun t312 => ((spec_NextWord.f k1 t300).bind fun t313 => (if t312.toList = t313.toList then ((impl_IsWord.f k1 t300).bind fun t314 => ((spec_IsWord.f k1 t300).bind fun t315 => (some (t314 == t315)))) else (some false)))) else (some false))))) else (some false)))) else (some false)) = some r := H
            have A29 := Aside0.mk A290
            clear A290
            by_cases c30 : t301 = (wrap64 (-t302))
            · rw [if_pos c30] at H
              have c30b0 : (t301 == (wrap64 (-t302))) = true := beq_iff_eq.mpr c30
              have c30b1 : (t301 != (wrap64 (-t302))) = false := bne_eq_false_iff_eq.mpr c30
              clear c30
              replace H := Option.bind_eq_some_iff.mp H
              obtain ⟨t303, A310, H⟩ := H
              replace H : ((spec_CompareWords.f t297 t298).bind fun t304 => (if t303 = t304 then ((impl_WordsOfLength.f k1 t299).bind fun t305 => ((spec_WordsOfLength.f k1 t299).bind fun t308 => ((laws_sameTexts.f k1 t305 t308).bind fun t311 => (if t311 = true then ((impl_NextWord.f k1 t300).bind fun t312 => ((spec_NextWord.f k1 t300).bind fun t313 => (if t312.toList = t313.toList then ((impl_IsWord.f k1 t300).bind fun t314 => ((spec_IsWord.f k1 t300).bind fun t315 => (some (t314 == t315)))) else (some false)))) else (some false))))) else (some false))) = some r := H
              have A31 := Aside0.mk A310
              clear A310
              replace H := Option.bind_eq_some_iff.mp H
              obtain ⟨t304, A320, H⟩ := H
              replace H : (if t303 = t304 then ((impl_WordsOfLength.f k1 t299).bind fun t305 => ((spec_WordsOfLength.f k1 t299).bind fun t308 => ((laws_sameTexts.f k1 t305 t308).bind fun t311 => (if t311 = true then ((impl_NextWord.f k1 t300).bind fun t312 => ((spec_NextWord.f k1 t300).bind fun t313 => (if t312.toList = t313.toList then ((impl_IsWord.f k1 t300).bind fun t314 => ((spec_IsWord.f k1 t300).bind fun t315 => (some (t314 == t315)))) else (some false)))) else (some false))))) else (some false)) = some r := H
              have A32 := Aside0.mk A320
              clear A320
              by_cases c33 : t303 = t304
              · rw [if_pos c33] at H
                have c33b0 : (t303 == t304) = true := beq_iff_eq.mpr c33
                have c33b1 : (t303 != t304) = false := bne_eq_false_iff_eq.mpr c33
                clear c33
                replace H := Option.bind_eq_some_iff.mp H
                obtain ⟨t305, A340, H⟩ := H
                replace H : ((spec_WordsOfLength.f k1 t299).bind fun t308 => ((laws_sameTexts.f k1 t305 t308).bind fun t311 => (if t311 = true then ((impl_NextWord.f k1 t300).bind fun t312 => ((spec_NextWord.f k1 t300).bind fun t313 => (if t312.toList = t313.toList then ((impl_IsWord.f k1 t300).bind fun t314 => ((spec_IsWord.f k1 t300).bind fun t315 => (some (t314 == t315)))) else (some false)))) else (some false)))) = some r := H
                have A34 := Aside0.mk A340
                clear A340
                replace H := Option.bind_eq_some_iff.mp H
                obtain ⟨t308, A350, H⟩ := H
                replace H : ((laws_sameTexts.f k1 t305 t308).bind fun t311 => (if t311 = true then ((impl_NextWord.f k1 t300).bind fun t312 => ((spec_NextWord.f k1 t300).bind fun t313 => (if t312.toList = t313.toList then ((impl_IsWord.f k1 t300).bind fun t314 => ((spec_IsWord.f k1 t300).bind fun t315 => (some (t314 == t315)))) else (some false)))) else (some false))) = some r := H
                have A35 := Aside0.mk A350
                clear A350
                replace H := Option.bind_eq_some_iff.mp H
                obtain ⟨t311, A360, H⟩ := H
                replace H : (if t311 = true then ((impl_NextWord.f k1 t300).bind fun t312 => ((spec_NextWord.f k1 t300).bind fun t313 => (if t312.toList = t313.toList then ((impl_IsWord.f k1 t300).bind fun t314 => ((spec_IsWord.f k1 t300).bind fun t315 => (some (t314 == t315)))) else (some false)))) else (some false)) = some r := H
                have A36 := Aside0.mk A360
                clear A360
                by_cases c37 : t311 = true
                · subst c37
                  have H1 : ((impl_NextWord.f k1 t300).bind fun t312 => ((spec_NextWord.f k1 t300).bind fun t313 => (if t312.toList = t313.toList then ((impl_IsWord.f k1 t300).bind fun t314 => ((spec_IsWord.f k1 t300).bind fun t315 => (some (t314 == t315)))) else (some false)))) = some r := by rw [if_pos rfl] at H; exact H
                  clear H
                  have H := H1
                  clear H1
                  replace H := Option.bind_eq_some_iff.mp H
                  obtain ⟨t312, A380, H⟩ := H
                  replace H : ((spec_NextWord.f k1 t300).bind fun t313 => (if t312.toList = t313.toList then ((impl_IsWord.f k1 t300).bind fun t314 => ((spec_IsWord.f k1 t300).bind fun t315 => (some (t314 == t315)))) else (some false))) = some r := H
                  have A38 := Aside0.mk A380
                  clear A380
                  replace H := Option.bind_eq_some_iff.mp H
                  obtain ⟨t313, A390, H⟩ := H
                  replace H : (if t312.toList = t313.toList then ((impl_IsWord.f k1 t300).bind fun t314 => ((spec_IsWord.f k1 t300).bind fun t315 => (some (t314 == t315)))) else (some false)) = some r := H
                  have A39 := Aside0.mk A390
                  clear A390
                  by_cases c40 : t312.toList = t313.toList
                  · rw [if_pos c40] at H
                    have c40b0 : (t312.toList == t313.toList) = true := beq_iff_eq.mpr c40
                    have c40b1 : (t312.toList != t313.toList) = false := bne_eq_false_iff_eq.mpr c40
                    clear c40
                    replace H := Option.bind_eq_some_iff.mp H
                    obtain ⟨t314, A410, H⟩ := H
                    replace H : ((spec_IsWord.f k1 t300).bind fun t315 => (some (t314 == t315))) = some r := H
                    have A41 := Aside0.mk A410
                    clear A410
                    replace H := Option.bind_eq_some_iff.mp H
                    obtain ⟨t315, A420, H⟩ := H
                    replace H : (some (t314 == t315)) = some r := H
                    have A42 := Aside0.mk A420
                    clear A420
                    obtain rfl := Option.some.inj H
                    simp only [Option.some.injEq, Prod.mk.injEq] at H
                    obtain ⟨rfl⟩ := H
                    go_wp2_with (first | ((with_reducible refine gate_callee (f := 16) rfl ?_); refine goesL_ (some 53) rfl rfl Try.func16 (by kernel_rfl) rfl #[.slice A0 l0.length c0] rfl (by (try simp only [List.map_toArray, List.map_cons, List.map_nil]); first | done | rfl | (simp only [List.length_drop, List.length_take]; rfl)) ?_; (with_reducible refine (spec_DrawCompareWords.calls k1 _ _ l0 t297 t298 _ ?side1 ?side2 A25.out).mono ?_); (case side1 => repeat (first | exact (Kd.C_below HR0.out HB.out) | (with_reducible refine Kd.C_alloc ?_ _) | (with_reducible refine Kd.C_drewN ?_ _) | (with_reducible refine Kd.C_drew ?_))); (case side2 => exact HC0.out); rintro e w43 ⟨rfl, hb⟩; refine ⟨_, rfl, ?_⟩; have n0_ := Aside0.mk (Kd.R_below (by (with_reducible repeat (first | apply Kd.R_alloc | apply Kd.R_drewN | apply Kd.R_drew)); exact HO_4.out) hb); have n1_ := Aside0.mk (below_step (by repeat (first | (with_reducible first | exact HB.out | apply below_alloc | apply pw_below_drewN | apply below_drew1) | exact HB.out)) hb); clear HO_4; clear HB; have HO_4 := n0_; have HB := n1_; clear n0_ n1_; (try clear hb); (try clear hb2); (try clear hk); (try clear hi)) | ((with_reducible refine gate_callee (f := 17) rfl ?_); refine goesL_ (some 57) rfl rfl Try.func17 (by kernel_rfl) rfl #[.slice A0 l0.length c0] rfl (by (try simp only [List.map_toArray, List.map_cons, List.map_nil]); first | done | rfl | (simp only [List.length_drop, List.length_take]; rfl)) ?_; (with_reducible refine (spec_DrawWordsOfLength.calls k1 _ _ l0 t299 _ ?side1 ?side2 A26.out).mono ?_); (case side1 => repeat (first | exact (Kd.C_below HR0.out HB.out) | (with_reducible refine Kd.C_alloc ?_ _) | (with_reducible refine Kd.C_drewN ?_ _) | (with_reducible refine Kd.C_drew ?_))); (case side2 => exact HC0.out); rintro e w44 ⟨rfl, hb⟩; refine ⟨_, rfl, ?_⟩; have n0_ := Aside0.mk (Kd.R_below (by (with_reducible repeat (first | apply Kd.R_alloc | apply Kd.R_drewN | apply Kd.R_drew)); exact HO_4.out) hb); have n1_ := Aside0.mk (below_step (by repeat (first | (with_reducible first | exact HB.out | apply below_alloc | apply pw_below_drewN | apply below_drew1) | exact HB.out)) hb); clear HO_4; clear HB; have HO_4 := n0_; have HB := n1_; clear n0_ n1_; (try clear hb); (try clear hb2); (try clear hk); (try clear hi)) | ((with_reducible refine gate_callee (f := 18) rfl ?_); refine goesL_ (some 59) rfl rfl Try.func18 (by kernel_rfl) rfl #[.slice A0 l0.length c0] rfl (by (try simp only [List.map_toArray, List.map_cons, List.map_nil]); first | done | rfl | (simp only [List.length_drop, List.length_take]; rfl)) ?_; (with_reducible refine (spec_DrawNextWord.calls k1 _ _ l0 t300 _ ?side1 ?side2 A27.out).mono ?_); (case side1 => repeat (first | exact (Kd.C_below HR0.out HB.out) | (with_reducible refine Kd.C_alloc ?_ _) | (with_reducible refine Kd.C_drewN ?_ _) | (with_reducible refine Kd.C_drew ?_))); (case side2 => exact HC0.out); rintro e w45 ⟨rfl, hb⟩; refine ⟨_, rfl, ?_⟩; have n0_ := Aside0.mk (Kd.R_below (by (with_reducible repeat (first | apply Kd.R_alloc | apply Kd.R_drewN | apply Kd.R_drew)); exact HO_4.out) hb); have n1_ := Aside0.mk (below_step (by repeat (first | (with_reducible first | exact HB.out | apply below_alloc | apply pw_below_drewN | apply below_drew1) | exact HB.out)) hb); clear HO_4; clear HB; have HO_4 := n0_; have HB := n1_; clear n0_ n1_; (try clear hb); (try clear hb2); (try clear hk); (try clear hi)) | ((with_reducible refine gate_callee (f := 14) rfl ?_); refine goesL_ (some 62) rfl rfl Try.func14 (by kernel_rfl) rfl #[.string t297, .string t298] rfl (by (try simp only [List.map_toArray, List.map_cons, List.map_nil]); first | done | rfl | (simp only [List.length_drop, List.length_take]; rfl)) ?_; (with_reducible refine (impl_CompareWords.calls t297 t298 t301 _ A28.out).mono ?_); rintro e w' ⟨rfl, ⟨nd, rfl⟩⟩; refine ⟨_, rfl, ?_⟩) | ((with_reducible refine gate_callee (f := 14) rfl ?_); refine goesL_ (some 65) rfl rfl Try.func14 (by kernel_rfl) rfl #[.string t298, .string t297] rfl (by (try simp only [List.map_toArray, List.map_cons, List.map_nil]); first | done | rfl | (simp only [List.length_drop, List.length_take]; rfl)) ?_; (with_reducible refine (impl_CompareWords.calls t298 t297 t302 _ A29.out).mono ?_); rintro e w' ⟨rfl, ⟨nd, rfl⟩⟩; refine ⟨_, rfl, ?_⟩) | (go_at_call 14; (with_reducible refine (impl_CompareWords.calls t297 t298 t303 _ A31.out).mono ?_); rintro e w' ⟨rfl, ⟨nd, rfl⟩⟩) | (go_at_call 19; (with_reducible refine (spec_CompareWords.calls t297 t298 t304 _ A32.out).mono ?_); rintro e w' ⟨rfl, ⟨nd, rfl⟩⟩) | (go_at_call 20; (with_reducible refine (impl_WordsOfLength.calls k1 t299 t305 _ A34.out).mono ?_); rintro e w46 ⟨v306, rfl, ho0, hb⟩; have n0_ := Aside0.mk (Kd.R_elder' (by (with_reducible repeat (first | apply Kd.R_alloc | apply Kd.R_drewN | apply Kd.R_drew)); exact HO_4.out) (Kd.R_base ho0) hb); have n1_ := Aside0.mk (Kd.R_lower (Kd.R_new' ho0 (Kd.R_lt (by (with_reducible repeat (first | apply Kd.R_alloc | apply Kd.R_drewN | apply Kd.R_drew)); exact HO_4.out))) (below_size (by repeat (first | (with_reducible first | exact HB.out | apply below_alloc | apply pw_below_drewN | apply below_drew1) | exact HB.out)))); have n2_ := Aside0.mk (below_step (by repeat (first | (with_reducible first | exact HB.out | apply below_alloc | apply pw_below_drewN | apply below_drew1) | exact HB.out)) hb); clear HO_4; clear HB; have HO_4 := n0_; have HO307 := n1_; have HB := n2_; clear n0_ n1_ n2_; (try clear hb); (try clear hb2); (try clear hk); (try clear hi); (try clear ho0)) | (go_at_call 21; (with_reducible refine (spec_WordsOfLength.calls k1 t299 t308 _ A35.out).mono ?_); rintro e w47 ⟨v309, rfl, ho0, hb⟩; have n0_ := Aside0.mk (Kd.R_elder' (by (with_reducible repeat (first | apply Kd.R_alloc | apply Kd.R_drewN | apply Kd.R_drew)); exact HO_4.out) (Kd.R_base ho0) hb); have n1_ := Aside0.mk (Kd.R_elder' (by (with_reducible repeat (first | apply Kd.R_alloc | apply Kd.R_drewN | apply Kd.R_drew)); exact HO307.out) (Kd.R_base ho0) hb); have n2_ := Aside0.mk (Kd.R_lower (Kd.R_new' (Kd.R_new' ho0 (Kd.R_lt (by (with_reducible repeat (first | apply Kd.R_alloc | apply Kd.R_drewN | apply Kd.R_drew)); exact HO_4.out))) (Kd.R_lt (by (with_reducible repeat (first | apply Kd.R_alloc | apply Kd.R_drewN | apply Kd.R_drew)); exact HO307.out))) (below_size (by repeat (first | (with_reducible first | exact HB.out | apply below_alloc | apply pw_below_drewN | apply below_drew1) | exact HB.out)))); have n3_ := Aside0.mk (below_step (by repeat (first | (with_reducible first | exact HB.out | apply below_alloc | apply pw_below_drewN | apply below_drew1) | exact HB.out)) hb); clear HO_4; clear HO307; clear HB; have HO_4 := n0_; have HO307 := n1_; have HO310 := n2_; have HB := n3_; clear n0_ n1_ n2_ n3_; (try clear hb); (try clear hb2); (try clear hk); (try clear hi); (try clear ho0); obtain ⟨Ao48, co48, eo48⟩ := Kd.R_slice HO307.out; subst eo48; obtain ⟨Ao49, co49, eo49⟩ := Kd.R_slice HO310.out; subst eo49) | (go_at_call 12; (with_reducible refine (laws_sameTexts.calls k1 _ _ t305 _ _ t308 true _ ?side1 ?side2 ?side3 ?side4 A36.out).mono ?_); (case side1 => repeat (first | exact (Kd.R_reads' HO307.out).2.2 | (with_reducible refine Kd.C_alloc ?_ _) | (with_reducible refine Kd.C_drewN ?_ _) | (with_reducible refine Kd.C_drew ?_))); (case side2 => exact (Kd.R_reads' HO307.out).2.1); (case side3 => repeat (first | exact (Kd.R_reads' HO310.out).2.2 | (with_reducible refine Kd.C_alloc ?_ _) | (with_reducible refine Kd.C_drewN ?_ _) | (with_reducible refine Kd.C_drew ?_))); (case side4 => exact (Kd.R_reads' HO310.out).2.1); rintro e w' ⟨rfl, ⟨nd, rfl⟩⟩) | (go_at_call 15; (with_reducible refine (impl_NextWord.calls k1 t300 t312 _ A38.out).mono ?_); rintro e w50 ⟨rfl, hb⟩; have n0_ := Aside0.mk (Kd.R_below (by (with_reducible repeat (first | apply Kd.R_alloc | apply Kd.R_drewN | apply Kd.R_drew)); exact HO_4.out) hb); have n1_ := Aside0.mk (Kd.R_below (by (with_reducible repeat (first | apply Kd.R_alloc | apply Kd.R_drewN | apply Kd.R_drew)); exact HO307.out) hb); have n2_ := Aside0.mk (Kd.R_below (by (with_reducible repeat (first | apply Kd.R_alloc | apply Kd.R_drewN | apply Kd.R_drew)); exact HO310.out) hb); have n3_ := Aside0.mk (below_step (by repeat (first | (with_reducible first | exact HB.out | apply below_alloc | apply pw_below_drewN | apply below_drew1) | exact HB.out)) hb); clear HO_4; clear HO307; clear HO310; clear HB; have HO_4 := n0_; have HO307 := n1_; have HO310 := n2_; have HB := n3_; clear n0_ n1_ n2_ n3_; (try clear hb); (try clear hb2); (try clear hk); (try clear hi)) | (go_at_call 22; (with_reducible refine (spec_NextWord.calls k1 t300 t313 _ A39.out).mono ?_); rintro e w' ⟨rfl, ⟨nd, rfl⟩⟩) | (go_at_call 23; (with_reducible refine (impl_IsWord.calls k1 t300 t314 _ A41.out).mono ?_); rintro e w' ⟨rfl, ⟨nd, rfl⟩⟩) | (go_at_call 24; (with_reducible refine (spec_IsWord.calls k1 t300 t315 _ A42.out).mono ?_); rintro e w' ⟨rfl, ⟨nd, rfl⟩⟩))
                    go_ret
                    exact ⟨by first | rfl | (simp [errW_none, errW_some] <;> rfl) | (simp [*, errW_none, errW_some] <;> rfl), by repeat (first | (with_reducible first | exact HB.out | apply below_alloc | apply pw_below_drewN | apply below_drew1) | exact HB.out)⟩
                  · rw [if_neg c40] at H
                    have c40b0 : (t312.toList == t313.toList) = false := beq_eq_false_iff_ne.mpr c40
                    have c40b1 : (t312.toList != t313.toList) = true := bne_iff_ne.mpr c40
                    obtain rfl := Option.some.inj H
                    exact absurd hR (by decide)
                · replace c37 := Bool.eq_false_iff.mpr c37
                  subst c37
                  have H1 : (some false) = some r := by rw [if_neg (show ¬ (false = true) by decide)] at H; exact H
                  clear H
                  have H := H1
                  clear H1
                  obtain rfl := Option.some.inj H
                  exact absurd hR (by decide)
              · rw [if_neg c33] at H
                have c33b0 : (t303 == t304) = false := beq_eq_false_iff_ne.mpr c33
                have c33b1 : (t303 != t304) = true := bne_iff_ne.mpr c33
                obtain rfl := Option.some.inj H
                exact absurd hR (by decide)
            · rw [if_neg c30] at H
              have c30b0 : (t301 == (wrap64 (-t302))) = false := beq_eq_false_iff_ne.mpr c30
              have c30b1 : (t301 != (wrap64 (-t302))) = true := bne_iff_ne.mpr c30
              obtain rfl := Option.some.inj H
              exact absurd hR (by decide)
    · replace c8 := Bool.eq_false_iff.mpr c8
      subst c8
      have H1 : (some false) = some r := by rw [if_neg (show ¬ (false = true) by decide)] at H; exact H
      clear H
      have H := H1
      clear H1
      obtain rfl := Option.some.inj H
      exact absurd hR (by decide)

/-- THE ONE PURE STATEMENT of laws_FnWords: yours. -/
def laws_FnWords.Pure : Prop := ∀ (l0 : List Int), l0.length ≤ maxLen → l0.length * 1 ≤ 140737488351232 → (∀ x ∈ l0, (Lit.int .u8 x).wf = true) → ∃ k, laws_FnWords.f k l0 = some true
theorem laws_FnWords.walk (P : laws_FnWords.Pure) (a0 : Option Addr) (len0 cap0 : Nat) (z0 : List Int) (w : World) (w0 : (a0 = none ∧ len0 = 0 ∧ cap0 = 0 ∧ z0 = []) ∨ ∃ x, a0 = some x ∧ len0 ≤ cap0 ∧ cap0 ≤ maxLen ∧ z0.length = cap0 ∧ (∀ i, i < z0.length → w.cell? (x.add i) = some (.int .u8 (z0.getD i 0))) ∧ ∀ n ∈ z0, (Lit.int .u8 n).wf = true) (y0 : len0 * 1 ≤ 140737488351232) :
    Calls Try.prog 4 #[.slice a0 len0 cap0] w fun e w' => e = .returned (.bool true) ∧ Below w.heap.size w w' := by
  obtain ⟨l0, rfl, hr0, hm0, hw0, hc0⟩ := ReadsInt.ofRowC w0
  obtain ⟨k, h⟩ := P l0 hm0 y0 hw0
  refine (laws_FnWords.calls k _ _ l0 true w (Kd.C_of_reads (d := (0 : Int)) (h1 := fun _ => rfl) hr0) hc0 h rfl).mono ?_
  rintro e w' ⟨rfl, hd⟩
  exact ⟨rfl, hd⟩

end Go.Proofs.Ytffagfflgoplbaa.P
