/- Texts of the proof of FnDerivatives, put together. No condition. -/
import Derived.Test.YtldgkgdgcfllmaaQFnDerivatives3
import Derived.Test.YtldgkgdgcfllmaaQFnDerivatives4
section
namespace Go.Proofs.Ytldgkgdgcfllmaa.P
open Go.RowKit Go.Proofs.YtldgkgdgcfllmaaW.PrintWords Go.Proofs.YtldgkgdgcfllmaaW.PrintLast Go.Proofs.YtldgkgdgcfllmaaW.PrintMore
attribute [local go_sem] max2_int min2_int max_two min_two max_three min_three max_four min_four
set_option linter.unusedVariables false
set_option linter.unusedSimpArgs false
def spec_IsValidRegex.f (k : Nat) (a0_0 : Int) (a0_1 : ByteArray) (l0_2 : List (S29)) : Option (Bool) := (spec_l3Left.f k a0_0 a0_1 l0_2 16).bind fun af => (if af ≥ 0 then ((spec_l3Depth.f k a0_0 a0_1 l0_2).bind fun ag => (if ag ≤ 6 then ((spec_l3All.f k a0_0 a0_1 l0_2).bind fun ak => (some ak)) else (some false))) else (some false))
theorem spec_IsValidRegex.mono : ∀ a0 a1 a2 k, LeO (spec_IsValidRegex.f k a0 a1 a2) (spec_IsValidRegex.f (k + 1) a0 a1 a2) := by
  intro a0 a1 a2 k
  unfold spec_IsValidRegex.f
  repeat' first
      | (with_reducible exact spec_l3All.mono _ _ _ _)
      | (with_reducible exact spec_l3Depth.mono _ _ _ _)
      | (with_reducible exact spec_l3Left.mono _ _ _ _ _)
      | (with_reducible exact LeO.refl _)
      | (with_reducible exact LeO.none _)
      | (with_reducible refine LeO.ite ?_ ?_)
      | (with_reducible refine LeO.bind ?_ (fun _ => ?_))
      | exact spec_l3All.mono _ _ _ _
      | exact spec_l3Depth.mono _ _ _ _
      | exact spec_l3Left.mono _ _ _ _ _
      | exact LeO.none _
      | refine LeO.ite ?_ ?_
      | refine LeO.bind ?_ (fun _ => ?_)
set_option maxHeartbeats 8000000 in
set_option maxRecDepth 100000 in
theorem spec_IsValidRegex.calls (k : Nat) (a0_0 : Int) (a0_1 : ByteArray) (A0_2 : Option Addr) (c0_2 : Nat) (l0_2 : List (S29)) (r : Bool) (w : World) (hr0_2 : Kd.C k29 w A0_2 l0_2.length l0_2) (hc0_2 : l0_2.length ≤ c0_2) (h : spec_IsValidRegex.f k a0_0 a0_1 l0_2 = some r) :
    Calls Try.prog 17 #[.agg #[.int .i64 a0_0, .string a0_1, .slice A0_2 l0_2.length c0_2]] w fun e w' => e = .returned (.bool r) ∧ Below w.heap.size w w' := by
  have hu29 := Try.underlying29
  have ah := am_ hr0_2
  have ai := am_ hc0_2
  clear hr0_2 hc0_2
  have HB := am_ (Below.refl w.heap.size w)
  have H : ((spec_l3Left.f k a0_0 a0_1 l0_2 16).bind fun af => (if af ≥ 0 then ((spec_l3Depth.f k a0_0 a0_1 l0_2).bind fun ag => (if ag ≤ 6 then ((spec_l3All.f k a0_0 a0_1 l0_2).bind fun ak => (some ak)) else (some false))) else (some false))) = some r := h
  clear h
  replace H := Option.bind_eq_some_iff.mp H
  obtain ⟨af, A20, H⟩ := H
  have A2 := am_ A20
  clear A20
  by_cases c3 : af ≥ 0
  · rw [if_pos c3] at H
    have c3b0 : decide (0 ≤ af) = true := decide_eq_true c3
    clear c3
    replace H := Option.bind_eq_some_iff.mp H
    obtain ⟨ag, A40, H⟩ := H
    have A4 := am_ A40
    clear A40
    by_cases c5 : ag ≤ 6
    · rw [if_pos c5] at H
      have c5b0 : decide (ag ≤ 6) = true := decide_eq_true c5
      clear c5
      replace H := Option.bind_eq_some_iff.mp H
      obtain ⟨ak, A60, H⟩ := H
      replace H : (some ak) = some r := H
      have A6 := am_ A60
      clear A60
      obtain rfl := Option.some.inj H
      simp only [Option.some.injEq, Prod.mk.injEq] at H
      obtain ⟨rfl⟩ := H
      go_enter Try.func17, Try.ntmps17
      go_wp2_with (first | ((with_reducible refine gate_dst (N := 1) rfl ?_); refine box_event ?hg (N := 1) ?hd (cs := #[.int .i64 a0_0, .string a0_1, .slice A0_2 l0_2.length c0_2]) (t := 29) ?hr ?_; (case hd => rfl); (case hg => rfl); (case hr => first | (go_simp; done) | (go_simp; rfl)); intro ae hg w7 hbox hb; replace aa := am_ (hbox); replace ap := am_ ((by rw [hg]; exact (below_size (b0_ HB.out)) : w.heap.size ≤ ae)); replace ad := am_ ((by rw [hg]; exact (below_size (b0_ HB.out)) : w.heap.size ≤ ae)); replace HB := am_ (below_step (b0_ HB.out) hb); clear hb hbox hg; have aW := ck_ (v := (.int .i64 a0_0)) aa 0 rfl; have aX := ck_ (v := (.string a0_1)) aa 1 rfl; have aY := ck_ (v := (.slice A0_2 l0_2.length c0_2)) aa 2 rfl; have aZ := blk_frozen aa.out 0; have ba := blk_frozen aa.out 1; have bb := blk_frozen aa.out 2) | ((with_reducible refine gate_callee (f := 41) rfl ?_); refine gL_ (some 4) Try.func41 #[.agg #[.int .i64 a0_0, .string a0_1, .slice A0_2 l0_2.length c0_2], .int .i64 16] ?_; (with_reducible refine (spec_l3Left.calls k a0_0 a0_1 _ _ l0_2 16 af _ ?side1 ?side2 A2.out).mono ?_); (case side1 => exact rc_ (Kd.C_below ah.out HB.out)); (case side2 => exact ai.out); rintro e w9 ⟨rfl, hb⟩; refine ⟨_, rfl, ?_⟩; have n0_ := am_ (blk_below (rb_ aa.out) hb); have n1_ := am_ (below_step (b1_ HB.out ad.out) hb); clear aa; clear HB; have aa := n0_; have HB := n1_; clear n0_ n1_; (try clear hb); (try clear hb2); (try clear hk); (try clear hi); have aq := ck_ (v := (.int .i64 a0_0)) aa 0 rfl; have ar := ck_ (v := (.string a0_1)) aa 1 rfl; have au := ck_ (v := (.slice A0_2 l0_2.length c0_2)) aa 2 rfl; have av := blk_frozen aa.out 0; have aw := blk_frozen aa.out 1; have ax := blk_frozen aa.out 2) | (go_at_call 42; (with_reducible refine (spec_l3Depth.calls k a0_0 a0_1 _ _ l0_2 ag _ ?side1 ?side2 A4.out).mono ?_); (case side1 => exact rc_ (Kd.C_below ah.out HB.out)); (case side2 => exact ai.out); rintro e w11 ⟨rfl, hb⟩; have n0_ := am_ (blk_below (rb_ aa.out) hb); have n1_ := am_ (below_step (b1_ HB.out ad.out) hb); clear aa; clear HB; have aa := n0_; have HB := n1_; clear n0_ n1_; (try clear hb); (try clear hb2); (try clear hk); (try clear hi); have ay := ck_ (v := (.int .i64 a0_0)) aa 0 rfl; have az := ck_ (v := (.string a0_1)) aa 1 rfl; have aA := ck_ (v := (.slice A0_2 l0_2.length c0_2)) aa 2 rfl; have aB := blk_frozen aa.out 0; have aC := blk_frozen aa.out 1; have aD := blk_frozen aa.out 2) | (go_at_call 43; (with_reducible refine (spec_l3All.calls k a0_0 a0_1 _ _ l0_2 ak _ ?side1 ?side2 A6.out).mono ?_); (case side1 => exact rc_ (Kd.C_below ah.out HB.out)); (case side2 => exact ai.out); rintro e w13 ⟨rfl, hb⟩; have n0_ := am_ (blk_below (rb_ aa.out) hb); have n1_ := am_ (below_step (b1_ HB.out ad.out) hb); clear aa; clear HB; have aa := n0_; have HB := n1_; clear n0_ n1_; (try clear hb); (try clear hb2); (try clear hk); (try clear hi)))
      go_ret
      exact ⟨by first | rfl | (simp [errW_none, errW_some] <;> rfl) | (simp [*, errW_none, errW_some] <;> rfl), by repeat (first | (with_reducible first | exact HB.out | apply below_alloc | apply pw_below_drewN | apply below_drew1 | refine below_set ?_ ad.out) | exact HB.out)⟩
    · rw [if_neg c5] at H
      have c5b0 : decide (ag ≤ 6) = false := decide_eq_false c5
      clear c5
      obtain rfl := Option.some.inj H
      simp only [Option.some.injEq, Prod.mk.injEq] at H
      obtain ⟨rfl⟩ := H
      go_enter Try.func17, Try.ntmps17
      go_wp2_with (first | ((with_reducible refine gate_dst (N := 1) rfl ?_); refine box_event ?hg (N := 1) ?hd (cs := #[.int .i64 a0_0, .string a0_1, .slice A0_2 l0_2.length c0_2]) (t := 29) ?hr ?_; (case hd => rfl); (case hg => rfl); (case hr => first | (go_simp; done) | (go_simp; rfl)); intro ae hg w14 hbox hb; replace aa := am_ (hbox); replace ap := am_ ((by rw [hg]; exact (below_size (b0_ HB.out)) : w.heap.size ≤ ae)); replace ad := am_ ((by rw [hg]; exact (below_size (b0_ HB.out)) : w.heap.size ≤ ae)); replace HB := am_ (below_step (b0_ HB.out) hb); clear hb hbox hg; have aE := ck_ (v := (.int .i64 a0_0)) aa 0 rfl; have aF := ck_ (v := (.string a0_1)) aa 1 rfl; have aG := ck_ (v := (.slice A0_2 l0_2.length c0_2)) aa 2 rfl; have aH := blk_frozen aa.out 0; have aI := blk_frozen aa.out 1; have aJ := blk_frozen aa.out 2) | ((with_reducible refine gate_callee (f := 41) rfl ?_); refine gL_ (some 4) Try.func41 #[.agg #[.int .i64 a0_0, .string a0_1, .slice A0_2 l0_2.length c0_2], .int .i64 16] ?_; (with_reducible refine (spec_l3Left.calls k a0_0 a0_1 _ _ l0_2 16 af _ ?side1 ?side2 A2.out).mono ?_); (case side1 => exact rc_ (Kd.C_below ah.out HB.out)); (case side2 => exact ai.out); rintro e w16 ⟨rfl, hb⟩; refine ⟨_, rfl, ?_⟩; have n0_ := am_ (blk_below (rb_ aa.out) hb); have n1_ := am_ (below_step (b1_ HB.out ad.out) hb); clear aa; clear HB; have aa := n0_; have HB := n1_; clear n0_ n1_; (try clear hb); (try clear hb2); (try clear hk); (try clear hi); have aK := ck_ (v := (.int .i64 a0_0)) aa 0 rfl; have aL := ck_ (v := (.string a0_1)) aa 1 rfl; have aM := ck_ (v := (.slice A0_2 l0_2.length c0_2)) aa 2 rfl; have aN := blk_frozen aa.out 0; have aO := blk_frozen aa.out 1; have aP := blk_frozen aa.out 2) | (go_at_call 42; (with_reducible refine (spec_l3Depth.calls k a0_0 a0_1 _ _ l0_2 ag _ ?side1 ?side2 A4.out).mono ?_); (case side1 => exact rc_ (Kd.C_below ah.out HB.out)); (case side2 => exact ai.out); rintro e w18 ⟨rfl, hb⟩; have n0_ := am_ (blk_below (rb_ aa.out) hb); have n1_ := am_ (below_step (b1_ HB.out ad.out) hb); clear aa; clear HB; have aa := n0_; have HB := n1_; clear n0_ n1_; (try clear hb); (try clear hb2); (try clear hk); (try clear hi)))
      go_ret
      exact ⟨by first | rfl | (simp [errW_none, errW_some] <;> rfl) | (simp [*, errW_none, errW_some] <;> rfl), by repeat (first | (with_reducible first | exact HB.out | apply below_alloc | apply pw_below_drewN | apply below_drew1 | refine below_set ?_ ad.out) | exact HB.out)⟩
  · rw [if_neg c3] at H
    have c3b0 : decide (0 ≤ af) = false := decide_eq_false c3
    clear c3
    obtain rfl := Option.some.inj H
    simp only [Option.some.injEq, Prod.mk.injEq] at H
    obtain ⟨rfl⟩ := H
    go_enter Try.func17, Try.ntmps17
    go_wp2_with (first | ((with_reducible refine gate_dst (N := 1) rfl ?_); refine box_event ?hg (N := 1) ?hd (cs := #[.int .i64 a0_0, .string a0_1, .slice A0_2 l0_2.length c0_2]) (t := 29) ?hr ?_; (case hd => rfl); (case hg => rfl); (case hr => first | (go_simp; done) | (go_simp; rfl)); intro ae hg w19 hbox hb; replace aa := am_ (hbox); replace ap := am_ ((by rw [hg]; exact (below_size (b0_ HB.out)) : w.heap.size ≤ ae)); replace ad := am_ ((by rw [hg]; exact (below_size (b0_ HB.out)) : w.heap.size ≤ ae)); replace HB := am_ (below_step (b0_ HB.out) hb); clear hb hbox hg; have aQ := ck_ (v := (.int .i64 a0_0)) aa 0 rfl; have aR := ck_ (v := (.string a0_1)) aa 1 rfl; have aS := ck_ (v := (.slice A0_2 l0_2.length c0_2)) aa 2 rfl; have aT := blk_frozen aa.out 0; have aU := blk_frozen aa.out 1; have aV := blk_frozen aa.out 2) | ((with_reducible refine gate_callee (f := 41) rfl ?_); refine gL_ (some 4) Try.func41 #[.agg #[.int .i64 a0_0, .string a0_1, .slice A0_2 l0_2.length c0_2], .int .i64 16] ?_; (with_reducible refine (spec_l3Left.calls k a0_0 a0_1 _ _ l0_2 16 af _ ?side1 ?side2 A2.out).mono ?_); (case side1 => exact rc_ (Kd.C_below ah.out HB.out)); (case side2 => exact ai.out); rintro e w21 ⟨rfl, hb⟩; refine ⟨_, rfl, ?_⟩; have n0_ := am_ (blk_below (rb_ aa.out) hb); have n1_ := am_ (below_step (b1_ HB.out ad.out) hb); clear aa; clear HB; have aa := n0_; have HB := n1_; clear n0_ n1_; (try clear hb); (try clear hb2); (try clear hk); (try clear hi)))
    go_ret
    exact ⟨by first | rfl | (simp [errW_none, errW_some] <;> rfl) | (simp [*, errW_none, errW_some] <;> rfl), by repeat (first | (with_reducible first | exact HB.out | apply below_alloc | apply pw_below_drewN | apply below_drew1 | refine below_set ?_ ad.out) | exact HB.out)⟩
def strings_IndexByte.f (a0 : ByteArray) (a1 : Int) : Option (Int) := some (Lib.indexByte a0.data.toList a1.toNat.toUInt8)
theorem strings_IndexByte.calls (a0 : ByteArray) (a1 : Int) (r : Int) (w : World) (h : strings_IndexByte.f a0 a1 = some r) :
    Calls Try.prog 84 #[.string a0, .int .u8 a1] w fun e w' => e = .returned (.int .i64 r) ∧ Drawn0 w w' := by
  refine (Try.strings_IndexByte a0 a1 w).mono ?_
  rintro e w' ⟨rfl, rfl⟩
  obtain rfl := Option.some.inj h
  exact ⟨rfl, Drawn0.refl _⟩
def impl_LetterIndex.f (a0 : Int) : Option (Int) := (strings_IndexByte.f (⟨#[97, 98, 99]⟩ : ByteArray) a0).bind fun al => (some al)
set_option maxHeartbeats 8000000 in
set_option maxRecDepth 100000 in
theorem impl_LetterIndex.calls (a0 : Int) (r : Int) (w : World) (h : impl_LetterIndex.f a0 = some r) :
    Calls Try.prog 73 #[.int .u8 a0] w fun e w' => e = .returned (.int .i64 r) ∧ Drawn0 w w' := by
  have H : ((strings_IndexByte.f (⟨#[97, 98, 99]⟩ : ByteArray) a0).bind fun al => (some al)) = some r := h
  clear h
  replace H := Option.bind_eq_some_iff.mp H
  obtain ⟨al, A20, H⟩ := H
  replace H : (some al) = some r := H
  have A2 := am_ A20
  clear A20
  obtain rfl := Option.some.inj H
  simp only [Option.some.injEq, Prod.mk.injEq] at H
  obtain ⟨rfl⟩ := H
  go_enter Try.func73, Try.ntmps73
  go_wp2_with (first | ((with_reducible refine gate_callee (f := 84) rfl ?_); refine gL_ (some 4) Try.func84 #[.string (⟨#[97, 98, 99]⟩ : ByteArray), .int .u8 a0] ?_; (with_reducible refine (strings_IndexByte.calls (⟨#[97, 98, 99]⟩ : ByteArray) a0 al _ A2.out).mono ?_); rintro e w' ⟨rfl, ⟨nd, rfl⟩⟩; refine ⟨_, rfl, ?_⟩))
  go_ret
  exact ⟨by first | rfl | (simp; done) | (simp [*]; done), by repeat (first | exact Drawn0.refl _ | apply Drawn0.step)⟩
def impl_isLetters.l0 : Nat → ByteArray → Int → Option (Bool)
  | 0, _, _ => none
  | k + 1, x0, x3 => if x3 < (x0.size : Int) then (if 0 ≤ x3 then ((impl_LetterIndex.f (bt x0 x3)).bind fun aj => (if aj < 0 then (some false) else (impl_isLetters.l0 k x0 (wrap64 (x3 + 1))))) else (none)) else (some true)
def impl_isLetters.f (k : Nat) (a0 : ByteArray) : Option (Bool) := impl_isLetters.l0 k a0 0
theorem impl_isLetters.mono_l : ∀ k, (∀ y0 y1, LeO (impl_isLetters.l0 k y0 y1) (impl_isLetters.l0 (k + 1) y0 y1))
  | 0 => fun _ _ r h => by simp [impl_isLetters.l0] at h
  | k + 1 => by
    have ih0 := impl_isLetters.mono_l k
    · intro y0 y1
      unfold impl_isLetters.l0
      repeat' first
      | (with_reducible exact ih0 _ _)
      | (with_reducible exact LeO.refl _)
      | (with_reducible exact LeO.none _)
      | (with_reducible refine LeO.ite ?_ ?_)
      | (with_reducible refine LeO.bind ?_ (fun _ => ?_))
      | exact ih0 _ _
      | exact LeO.none _
      | refine LeO.ite ?_ ?_
      | refine LeO.bind ?_ (fun _ => ?_)
theorem impl_isLetters.mono : ∀ a0 k, LeO (impl_isLetters.f k a0) (impl_isLetters.f (k + 1) a0) := by
  intro a0 k
  have ih0 := impl_isLetters.mono_l k
  unfold impl_isLetters.f
  repeat' first
      | (with_reducible exact ih0 _ _)
      | (with_reducible exact LeO.refl _)
      | (with_reducible exact LeO.none _)
      | (with_reducible refine LeO.ite ?_ ?_)
      | (with_reducible refine LeO.bind ?_ (fun _ => ?_))
      | exact ih0 _ _
      | exact LeO.none _
      | refine LeO.ite ?_ ?_
      | refine LeO.bind ?_ (fun _ => ?_)
set_option maxHeartbeats 8000000 in
set_option maxRecDepth 100000 in
theorem impl_isLetters.calls (k : Nat) (a0 : ByteArray) (r : Bool) (w : World) (h : impl_isLetters.f k a0 = some r) :
    Calls Try.prog 78 #[.string a0] w fun e w' => e = .returned (.bool r) ∧ Drawn0 w w' := by
  have H : (impl_isLetters.l0 k a0 0) = some r := h
  clear h
  have H' := am_ H
  clear H
  go_enter Try.func78, Try.ntmps78
  go_wp2
  go_loopg [3] k (fun kq v3 w' => ∃ (ab : Int), v3 = .int .i64 ab ∧ Aside0 (impl_isLetters.l0 kq a0 ab = some r) ∧ Aside0 (kq ≤ k) ∧ Drawn0 w w')
  case atStart => exact ⟨(0), (by first | rfl | (simp; done) | (simp [*]; done)), H', ⟨Nat.le_refl _⟩, by repeat (first | exact Drawn0.refl _ | apply Drawn0.step)⟩
  case round =>
    clear H'
    obtain ⟨ab, rfl, HA, HK1, ⟨m1, rfl⟩⟩ := hrel
    cases gk with
    | zero => exact absurd HA.out (by simp [impl_isLetters.l0])
    | succ k1 =>
      have H := HA.out
      clear HA
      simp only [impl_isLetters.l0] at H
      by_cases c2 : ab < (a0.size : Int)
      · rw [if_pos c2] at H
        have c2b0 : decide (ab < (a0.size : Int)) = true := decide_eq_true c2
        clear c2
        by_cases c3 : 0 ≤ ab
        · rw [if_pos c3] at H
          have c3b0 : decide (0 ≤ ab) = true := decide_eq_true c3
          clear c3
          replace H := Option.bind_eq_some_iff.mp H
          obtain ⟨aj, A50, H⟩ := H
          have A5 := am_ A50
          clear A50
          by_cases c6 : aj < 0
          · rw [if_pos c6] at H
            have c6b0 : decide (aj < 0) = true := decide_eq_true c6
            clear c6
            obtain rfl := Option.some.inj H
            simp only [Option.some.injEq, Prod.mk.injEq] at H
            obtain ⟨rfl⟩ := H
            have p4 : 0 ≤ (ab : Int) := of_decide_eq_true ah_
            have q4 : ab < (a0.size : Int) := of_decide_eq_true ah_
            have hx4 := bt_at a0 ab
            replace p4 := eq_true p4
            replace q4 := eq_true q4
            go_wp2_with (first | ((with_reducible refine gate_callee (f := 73) rfl ?_); refine gL_ (some 13) Try.func73 #[.int .u8 (bt a0 ab)] ?_; (with_reducible refine (impl_LetterIndex.calls (bt a0 ab) aj _ A5.out).mono ?_); rintro e w' ⟨rfl, ⟨nd, rfl⟩⟩; refine ⟨_, rfl, ?_⟩))
            go_ret
            exact ⟨by first | rfl | (simp; done) | (simp [*]; done), by repeat (first | exact Drawn0.refl _ | apply Drawn0.step)⟩
          · rw [if_neg c6] at H
            have c6b0 : decide (aj < 0) = false := decide_eq_false c6
            clear c6
            have H' := am_ H
            clear H
            have p4 : 0 ≤ (ab : Int) := of_decide_eq_true ah_
            have q4 : ab < (a0.size : Int) := of_decide_eq_true ah_
            have hx4 := bt_at a0 ab
            replace p4 := eq_true p4
            replace q4 := eq_true q4
            go_wp2_with (first | ((with_reducible refine gate_callee (f := 73) rfl ?_); refine gL_ (some 13) Try.func73 #[.int .u8 (bt a0 ab)] ?_; (with_reducible refine (impl_LetterIndex.calls (bt a0 ab) aj _ A5.out).mono ?_); rintro e w' ⟨rfl, ⟨nd, rfl⟩⟩; refine ⟨_, rfl, ?_⟩))
            go_roundg k1
            case measure => have := HK1.out; omega
            case rel => exact ⟨(wrap64 (ab + 1)), (by first | rfl | (simp; done) | (simp [*]; done)), H', ⟨by have := HK1.out; omega⟩, by repeat (first | exact Drawn0.refl _ | apply Drawn0.step)⟩
        · rw [if_neg c3] at H
          exact absurd H (by simp)
      · rw [if_neg c2] at H
        have c2b0 : decide (ab < (a0.size : Int)) = false := decide_eq_false c2
        clear c2
        obtain rfl := Option.some.inj H
        simp only [Option.some.injEq, Prod.mk.injEq] at H
        obtain ⟨rfl⟩ := H
        go_wp2
        go_ret
        exact ⟨by first | rfl | (simp; done) | (simp [*]; done), by repeat (first | exact Drawn0.refl _ | apply Drawn0.step)⟩
def impl_IsWord.f (k : Nat) (a0 : ByteArray) : Option (Bool) := if (a0.size : Int) ≤ 30 then ((impl_isLetters.f k a0).bind fun am => (some am)) else (some false)
theorem impl_IsWord.mono : ∀ a0 k, LeO (impl_IsWord.f k a0) (impl_IsWord.f (k + 1) a0) := by
  intro a0 k
  unfold impl_IsWord.f
  repeat' first
      | (with_reducible exact impl_isLetters.mono _ _)
      | (with_reducible exact LeO.refl _)
      | (with_reducible exact LeO.none _)
      | (with_reducible refine LeO.ite ?_ ?_)
      | (with_reducible refine LeO.bind ?_ (fun _ => ?_))
      | exact impl_isLetters.mono _ _
      | exact LeO.none _
      | refine LeO.ite ?_ ?_
      | refine LeO.bind ?_ (fun _ => ?_)
set_option maxHeartbeats 8000000 in
set_option maxRecDepth 100000 in
theorem impl_IsWord.calls (k : Nat) (a0 : ByteArray) (r : Bool) (w : World) (h : impl_IsWord.f k a0 = some r) :
    Calls Try.prog 53 #[.string a0] w fun e w' => e = .returned (.bool r) ∧ Drawn0 w w' := by
  have H : (if (a0.size : Int) ≤ 30 then ((impl_isLetters.f k a0).bind fun am => (some am)) else (some false)) = some r := h
  clear h
  by_cases c2 : (a0.size : Int) ≤ 30
  · rw [if_pos c2] at H
    have c2b0 : decide ((a0.size : Int) ≤ 30) = true := decide_eq_true c2
    have c2b1 : decide (a0.size ≤ 30) = true := decide_eq_true (by omega)
    clear c2
    replace H := Option.bind_eq_some_iff.mp H
    obtain ⟨am, A30, H⟩ := H
    replace H : (some am) = some r := H
    have A3 := am_ A30
    clear A30
    obtain rfl := Option.some.inj H
    simp only [Option.some.injEq, Prod.mk.injEq] at H
    obtain ⟨rfl⟩ := H
    go_enter Try.func53, Try.ntmps53
    go_wp2_with (first | (go_at_call 78; (with_reducible refine (impl_isLetters.calls k a0 am _ A3.out).mono ?_); rintro e w' ⟨rfl, ⟨nd, rfl⟩⟩))
    go_ret
    exact ⟨by first | rfl | (simp; done) | (simp [*]; done), by repeat (first | exact Drawn0.refl _ | apply Drawn0.step)⟩
  · rw [if_neg c2] at H
    have c2b0 : decide ((a0.size : Int) ≤ 30) = false := decide_eq_false c2
    have c2b1 : decide (a0.size ≤ 30) = false := decide_eq_false (by omega)
    clear c2
    obtain rfl := Option.some.inj H
    simp only [Option.some.injEq, Prod.mk.injEq] at H
    obtain ⟨rfl⟩ := H
    go_enter Try.func53, Try.ntmps53
    go_wp2
    go_ret
    exact ⟨by first | rfl | (simp; done) | (simp [*]; done), by repeat (first | exact Drawn0.refl _ | apply Drawn0.step)⟩
mutual
def impl_argsOf.j0 : Nat → Int → Bool → Option (Int)
  | 0, _, _ => none
  | k + 1, x3, x4 => if x4 = true then (some 0) else (if x3 = 8 then (impl_argsOf.j1 k x3 (x3 == 8)) else (impl_argsOf.j1 k x3 (x3 == 9)))
def impl_argsOf.j1 : Nat → Int → Bool → Option (Int)
  | 0, _, _ => none
  | k + 1, x3, x9 => if x9 = true then (some 1) else (if x3 = 5 then (some 2) else (if x3 = 6 then (some 2) else (if x3 = 7 then (some 2) else (some (-1)))))
end
def impl_argsOf.f (k : Nat) (a0 : Int) : Option (Int) := if a0 = 1 then (impl_argsOf.j0 k a0 (a0 == 1)) else (if a0 = 2 then (impl_argsOf.j0 k a0 (a0 == 2)) else (if a0 = 3 then (impl_argsOf.j0 k a0 (a0 == 3)) else (impl_argsOf.j0 k a0 (a0 == 4))))
theorem impl_argsOf.mono_l : ∀ k, (∀ y0 y1, LeO (impl_argsOf.j0 k y0 y1) (impl_argsOf.j0 (k + 1) y0 y1)) ∧ (∀ y0 y1, LeO (impl_argsOf.j1 k y0 y1) (impl_argsOf.j1 (k + 1) y0 y1))
  | 0 => ⟨fun _ _ r h => by simp [impl_argsOf.j0] at h, fun _ _ r h => by simp [impl_argsOf.j1] at h⟩
  | k + 1 => by
    obtain ⟨ih0, ih1⟩ := impl_argsOf.mono_l k
    refine ⟨?_, ?_⟩
    · intro y0 y1
      unfold impl_argsOf.j0
      repeat' first
      | (with_reducible exact ih0 _ _)
      | (with_reducible exact ih1 _ _)
      | (with_reducible exact LeO.refl _)
      | (with_reducible exact LeO.none _)
      | (with_reducible refine LeO.ite ?_ ?_)
      | (with_reducible refine LeO.bind ?_ (fun _ => ?_))
      | exact ih0 _ _
      | exact ih1 _ _
      | exact LeO.none _
      | refine LeO.ite ?_ ?_
      | refine LeO.bind ?_ (fun _ => ?_)
    · intro y0 y1
      unfold impl_argsOf.j1
      repeat' first
      | (with_reducible exact ih0 _ _)
      | (with_reducible exact ih1 _ _)
      | (with_reducible exact LeO.refl _)
      | (with_reducible exact LeO.none _)
      | (with_reducible refine LeO.ite ?_ ?_)
      | (with_reducible refine LeO.bind ?_ (fun _ => ?_))
      | exact ih0 _ _
      | exact ih1 _ _
      | exact LeO.none _
      | refine LeO.ite ?_ ?_
      | refine LeO.bind ?_ (fun _ => ?_)
theorem impl_argsOf.mono : ∀ a0 k, LeO (impl_argsOf.f k a0) (impl_argsOf.f (k + 1) a0) := by
  intro a0 k
  obtain ⟨ih0, ih1⟩ := impl_argsOf.mono_l k
  unfold impl_argsOf.f
  repeat' first
      | (with_reducible exact ih0 _ _)
      | (with_reducible exact ih1 _ _)
      | (with_reducible exact LeO.refl _)
      | (with_reducible exact LeO.none _)
      | (with_reducible refine LeO.ite ?_ ?_)
      | (with_reducible refine LeO.bind ?_ (fun _ => ?_))
      | exact ih0 _ _
      | exact ih1 _ _
      | exact LeO.none _
      | refine LeO.ite ?_ ?_
      | refine LeO.bind ?_ (fun _ => ?_)
set_option maxHeartbeats 8000000 in
set_option maxRecDepth 100000 in
theorem impl_argsOf.calls (k : Nat) (a0 : Int) (r : Int) (w : World) (h : impl_argsOf.f k a0 = some r) :
    Calls Try.prog 70 #[.int .i64 a0] w fun e w' => e = .returned (.int .i64 r) ∧ Drawn0 w w' := by
  have H : (if a0 = 1 then (impl_argsOf.j0 k a0 (a0 == 1)) else (if a0 = 2 then (impl_argsOf.j0 k a0 (a0 == 2)) else (if a0 = 3 then (impl_argsOf.j0 k a0 (a0 == 3)) else (impl_argsOf.j0 k a0 (a0 == 4))))) = some r := h
  clear h
  have HC2 := am_ H
  clear H
  go_enter Try.func70, Try.ntmps70
  go_upto_if 4 with (fail)
  go_cut [4] (fun v4 wc => ∃ (kq : Nat) (an : Bool), v4 = .bool an ∧ Aside0 (impl_argsOf.j0 kq a0 an = some r) ∧ Aside0 (kq ≤ k) ∧ Drawn0 w wc)
  case first =>
    have H := HC2.out
    clear HC2
    by_cases c3 : a0 = 1
    · rw [if_pos c3] at H
      have c3b0 : (a0 == 1) = true := beq_iff_eq.mpr c3
      have c3b1 : (a0 != 1) = false := bne_eq_false_iff_eq.mpr c3
      clear c3
      (first | rw [c3b0] | (simp only [i64_w, i32_w]; rw [c3b0]) | skip)
      have H' := am_ H
      clear H
      go_wp2
      go_meet
      case rel => exact ⟨_, ((a0 == 1)), (by first | rfl | (simp; done) | (simp [*]; done)), H', ⟨by first | omega | exact Nat.le_refl _⟩, by repeat (first | exact Drawn0.refl _ | apply Drawn0.step)⟩
    · rw [if_neg c3] at H
      have c3b0 : (a0 == 1) = false := beq_eq_false_iff_ne.mpr c3
      have c3b1 : (a0 != 1) = true := bne_iff_ne.mpr c3
      (first | rw [c3b0] | (simp only [i64_w, i32_w]; rw [c3b0]) | skip)
      by_cases c4 : a0 = 2
      · rw [if_pos c4] at H
        have c4b0 : (a0 == 2) = true := beq_iff_eq.mpr c4
        have c4b1 : (a0 != 2) = false := bne_eq_false_iff_eq.mpr c4
        clear c4
        have H' := am_ H
        clear H
        go_wp2
        go_meet
        case rel => exact ⟨_, ((a0 == 2)), (by first | rfl | (simp; done) | (simp [*]; done)), H', ⟨by first | omega | exact Nat.le_refl _⟩, by repeat (first | exact Drawn0.refl _ | apply Drawn0.step)⟩
      · rw [if_neg c4] at H
        have c4b0 : (a0 == 2) = false := beq_eq_false_iff_ne.mpr c4
        have c4b1 : (a0 != 2) = true := bne_iff_ne.mpr c4
        by_cases c5 : a0 = 3
        · rw [if_pos c5] at H
          have c5b0 : (a0 == 3) = true := beq_iff_eq.mpr c5
          have c5b1 : (a0 != 3) = false := bne_eq_false_iff_eq.mpr c5
          clear c5
          have H' := am_ H
          clear H
          go_wp2
          go_meet
          case rel => exact ⟨_, ((a0 == 3)), (by first | rfl | (simp; done) | (simp [*]; done)), H', ⟨by first | omega | exact Nat.le_refl _⟩, by repeat (first | exact Drawn0.refl _ | apply Drawn0.step)⟩
        · rw [if_neg c5] at H
          have c5b0 : (a0 == 3) = false := beq_eq_false_iff_ne.mpr c5
          have c5b1 : (a0 != 3) = true := bne_iff_ne.mpr c5
          have H' := am_ H
          clear H
          go_wp2
          go_meet
          case rel => exact ⟨_, ((a0 == 4)), (by first | rfl | (simp; done) | (simp [*]; done)), H', ⟨by first | omega | exact Nat.le_refl _⟩, by repeat (first | exact Drawn0.refl _ | apply Drawn0.step)⟩
  case rest =>
    clear HC2
    try clear p2
    try clear c3
    try clear c3b0
    try clear c3b1
    try clear c4
    try clear c4b0
    try clear c4b1
    try clear c5
    try clear c5b0
    try clear c5b1
    obtain ⟨kq, an, rfl, HA, HJ1, ⟨mc1, rfl⟩⟩ := hcut
    cases kq with
    | zero => exact absurd HA.out (by simp [impl_argsOf.j0])
    | succ kj1 =>
      have H := HA.out
      clear HA
      simp only [impl_argsOf.j0] at H
      by_cases c6 : an = true
      · subst c6
        have H1 : (some 0) = some r := by rw [if_pos rfl] at H; exact H
        clear H
        have H := H1
        clear H1
        obtain rfl := Option.some.inj H
        simp only [Option.some.injEq, Prod.mk.injEq] at H
        obtain ⟨rfl⟩ := H
        go_wp2
        go_ret
        exact ⟨by first | rfl | (simp; done) | (simp [*]; done), by repeat (first | exact Drawn0.refl _ | apply Drawn0.step)⟩
      · replace c6 := Bool.eq_false_iff.mpr c6
        subst c6
        have H1 : (if a0 = 8 then (impl_argsOf.j1 kj1 a0 (a0 == 8)) else (impl_argsOf.j1 kj1 a0 (a0 == 9))) = some r := by rw [if_neg (show ¬ (false = true) by decide)] at H; exact H
        clear H
        have H := H1
        clear H1
        have HC7 := am_ H
        clear H
        go_upto_if 9 with (fail)
        go_cut [9] (fun v9 wc => ∃ (kq : Nat) (ao : Bool), v9 = .bool ao ∧ Aside0 (impl_argsOf.j1 kq a0 ao = some r) ∧ Aside0 (kq ≤ kj1) ∧ Drawn0 w wc)
        case first =>
          have H := HC7.out
          clear HC7
          by_cases c8 : a0 = 8
          · rw [if_pos c8] at H
            have c8b0 : (a0 == 8) = true := beq_iff_eq.mpr c8
            have c8b1 : (a0 != 8) = false := bne_eq_false_iff_eq.mpr c8
            clear c8
            (first | rw [c8b0] | (simp only [i64_w, i32_w]; rw [c8b0]) | skip)
            have H' := am_ H
            clear H
            go_wp2
            go_meet
            case rel => exact ⟨_, ((a0 == 8)), (by first | rfl | (simp; done) | (simp [*]; done)), H', ⟨by have := HJ1.out; first | omega | exact Nat.le_refl _⟩, by repeat (first | exact Drawn0.refl _ | apply Drawn0.step)⟩
          · rw [if_neg c8] at H
            have c8b0 : (a0 == 8) = false := beq_eq_false_iff_ne.mpr c8
            have c8b1 : (a0 != 8) = true := bne_iff_ne.mpr c8
            (first | rw [c8b0] | (simp only [i64_w, i32_w]; rw [c8b0]) | skip)
            have H' := am_ H
            clear H
            go_wp2
            go_meet
            case rel => exact ⟨_, ((a0 == 9)), (by first | rfl | (simp; done) | (simp [*]; done)), H', ⟨by have := HJ1.out; first | omega | exact Nat.le_refl _⟩, by repeat (first | exact Drawn0.refl _ | apply Drawn0.step)⟩
        case rest =>
          clear HC7
          try clear c1
          try clear p2
          try clear c3
          try clear c3b0
          try clear c3b1
          try clear c4
          try clear c4b0
          try clear c4b1
          try clear c5
          try clear c5b0
          try clear c5b1
          try clear c6
          try clear c7
          try clear c8
          try clear c8b0
          try clear c8b1
          try clear p2
          obtain ⟨kq, ao, rfl, HA, HJ6, ⟨mc6, rfl⟩⟩ := hcut
          cases kq with
          | zero => exact absurd HA.out (by simp [impl_argsOf.j1])
          | succ kj6 =>
            have H := HA.out
            clear HA
            simp only [impl_argsOf.j1] at H
            by_cases c9 : ao = true
            · subst c9
              have H1 : (some 1) = some r := by rw [if_pos rfl] at H; exact H
              clear H
              have H := H1
              clear H1
              obtain rfl := Option.some.inj H
              simp only [Option.some.injEq, Prod.mk.injEq] at H
              obtain ⟨rfl⟩ := H
              go_wp2
              go_ret
              exact ⟨by first | rfl | (simp; done) | (simp [*]; done), by repeat (first | exact Drawn0.refl _ | apply Drawn0.step)⟩
            · replace c9 := Bool.eq_false_iff.mpr c9
              subst c9
              have H1 : (if a0 = 5 then (some 2) else (if a0 = 6 then (some 2) else (if a0 = 7 then (some 2) else (some (-1))))) = some r := by rw [if_neg (show ¬ (false = true) by decide)] at H; exact H
              clear H
              have H := H1
              clear H1
              by_cases c10 : a0 = 5
              · rw [if_pos c10] at H
                have c10b0 : (a0 == 5) = true := beq_iff_eq.mpr c10
                have c10b1 : (a0 != 5) = false := bne_eq_false_iff_eq.mpr c10
                clear c10
                obtain rfl := Option.some.inj H
                simp only [Option.some.injEq, Prod.mk.injEq] at H
                obtain ⟨rfl⟩ := H
                go_wp2
                go_ret
                exact ⟨by first | rfl | (simp; done) | (simp [*]; done), by repeat (first | exact Drawn0.refl _ | apply Drawn0.step)⟩
              · rw [if_neg c10] at H
                have c10b0 : (a0 == 5) = false := beq_eq_false_iff_ne.mpr c10
                have c10b1 : (a0 != 5) = true := bne_iff_ne.mpr c10
                by_cases c11 : a0 = 6
                · rw [if_pos c11] at H
                  have c11b0 : (a0 == 6) = true := beq_iff_eq.mpr c11
                  have c11b1 : (a0 != 6) = false := bne_eq_false_iff_eq.mpr c11
                  clear c11
                  obtain rfl := Option.some.inj H
                  simp only [Option.some.injEq, Prod.mk.injEq] at H
                  obtain ⟨rfl⟩ := H
                  go_wp2
                  go_ret
                  exact ⟨by first | rfl | (simp; done) | (simp [*]; done), by repeat (first | exact Drawn0.refl _ | apply Drawn0.step)⟩
                · rw [if_neg c11] at H
                  have c11b0 : (a0 == 6) = false := beq_eq_false_iff_ne.mpr c11
                  have c11b1 : (a0 != 6) = true := bne_iff_ne.mpr c11
                  by_cases c12 : a0 = 7
                  · rw [if_pos c12] at H
                    have c12b0 : (a0 == 7) = true := beq_iff_eq.mpr c12
                    have c12b1 : (a0 != 7) = false := bne_eq_false_iff_eq.mpr c12
                    clear c12
                    obtain rfl := Option.some.inj H
                    simp only [Option.some.injEq, Prod.mk.injEq] at H
                    obtain ⟨rfl⟩ := H
                    go_wp2
                    go_ret
                    exact ⟨by first | rfl | (simp; done) | (simp [*]; done), by repeat (first | exact Drawn0.refl _ | apply Drawn0.step)⟩
                  · rw [if_neg c12] at H
                    have c12b0 : (a0 == 7) = false := beq_eq_false_iff_ne.mpr c12
                    have c12b1 : (a0 != 7) = true := bne_iff_ne.mpr c12
                    obtain rfl := Option.some.inj H
                    simp only [Option.some.injEq, Prod.mk.injEq] at H
                    obtain ⟨rfl⟩ := H
                    go_wp2
                    go_ret
                    exact ⟨by first | rfl | (simp; done) | (simp [*]; done), by repeat (first | exact Drawn0.refl _ | apply Drawn0.step)⟩
end Go.Proofs.Ytldgkgdgcfllmaa.P
end
section
namespace Go.Proofs.Ytldgkgdgcfllmaa.Pl
open Go.RowKit Go.Proofs.YtldgkgdgcfllmaaW.PrintWords Go.Proofs.YtldgkgdgcfllmaaW.PrintLast Go.Proofs.YtldgkgdgcfllmaaW.PrintMore
set_option linter.unusedVariables false
set_option linter.unusedSimpArgs false
theorem next {α : Type} {g : Nat → Option α} {r : α} (h : Ev (fun k => g (k + 1)) r) : Ev g r := by
  obtain ⟨K, hK⟩ := h
  refine ⟨K + 1, fun k hk => ?_⟩
  obtain ⟨m, rfl⟩ : ∃ m, k = m + 1 := ⟨k - 1, by omega⟩
  exact hK m (by omega)
theorem ev_some {α : Type} {a b : α} (h : a = b) : Ev (fun _ => some a) b := by subst h; exact Ev.now a
theorem ev_eq {α : Type} {g : Nat → Option α} {a b : α} (h : Ev g a) (e : a = b) : Ev g b := e ▸ h
theorem w64 {x : Int} (h0 : -9223372036854775808 ≤ x) (h1 : x ≤ 9223372036854775807) : wrap64 x = x := by
  unfold wrap64
  omega
theorem up1 {i : Nat} (h : i < 9223372036854775807) : wrap64 ((i : Int) + 1) = ((i + 1 : Nat) : Int) := by
  rw [w64 (by omega) (by omega)]
  omega
theorem rdOf_get {α : Type} (z : α) (xs : List α) (i : Nat) (h : i < xs.length) : rdOf z xs i = xs[i] := by
  simp [rdOf, List.getD_eq_getElem?_getD, h]
theorem len_bytes (s : ByteArray) : (bytesOf s).length = s.size := by
  simp only [bytesOf, List.length_map]
  exact Array.length_toList
theorem bt_get (s : ByteArray) (i : Nat) (h : i < s.size) : bt s i = (bytesOf s)[i]'(by rw [len_bytes]; exact h) := by
  simp only [bt, Int.toNat_natCast, h, dif_pos, bytesOf, List.getElem_map, Array.getElem_toList]
  rfl
theorem drop_cons (s : ByteArray) (i : Nat) (h : i < s.size) : (bytesOf s).drop i = bt s i :: (bytesOf s).drop (i + 1) := by
  rw [List.drop_eq_getElem_cons (by rw [len_bytes]; exact h), bt_get s i h]
theorem drop_end (s : ByteArray) (i : Nat) (h : s.size ≤ i) : (bytesOf s).drop i = [] := List.drop_eq_nil_of_le (by rw [len_bytes]; exact h)
theorem take_snoc (s : ByteArray) (i : Nat) (h : i < s.size) : (bytesOf s).take (i + 1) = (bytesOf s).take i ++ [bt s i] := by
  rw [List.take_succ_eq_append_getElem (by rw [len_bytes]; exact h), bt_get s i h]
theorem bytes_inj {a b : ByteArray} (h : bytesOf a = bytesOf b) : a = b := by
  have hd : a.data.toList = b.data.toList := by
    simp only [bytesOf] at h
    exact (List.map_inj_right (f := fun x : UInt8 => (x.toNat : Int)) (fun x y e => UInt8.toNat_inj.mp (by have e2 : (x.toNat : Int) = y.toNat := e; omega))).mp h
  cases a with
  | mk da =>
    cases b with
    | mk db =>
      congr
      exact Array.toList_inj.mp hd
theorem toList_iff {a b : ByteArray} : a.toList = b.toList ↔ a = b := by
  constructor
  · intro h
    rw [ByteArray.toList_eq, ByteArray.toList_eq] at h
    exact bytes_inj (by simp only [bytesOf, h])
  · intro h
    rw [h]
theorem bytes_extract (s : ByteArray) (a b : Nat) : bytesOf (s.extract a b) = ((bytesOf s).take b).drop a := by
  simp only [bytesOf, ByteArray.data_extract, Array.toList_extract, List.extract_eq_take_drop, List.map_take, List.map_drop, List.drop_take]
end Go.Proofs.Ytldgkgdgcfllmaa.Pl
end
section
namespace Go.Proofs.Ytldgkgdgcfllmaa.Rg
open Go.RowKit Go.Proofs.Ytldgkgdgcfllmaa.P Go.Proofs.Ytldgkgdgcfllmaa.Pl Go.Proofs.YtldgkgdgcfllmaaW.PrintWords Go.Proofs.YtldgkgdgcfllmaaW.PrintLast Go.Proofs.YtldgkgdgcfllmaaW.PrintMore
set_option linter.unusedVariables false
set_option linter.unusedSimpArgs false
abbrev Tr := S29
inductive Rx where
  | none | empty | letter (c : ByteArray) | any
  | cat (x y : Rx) | or (x y : Rx) | and (x y : Rx) | star (x : Rx) | not (x : Rx)
inductive Ax : Tr → Rx → Prop
  | none (l : ByteArray) : Ax ⟨1, l, []⟩ .none
  | empty (l : ByteArray) : Ax ⟨2, l, []⟩ .empty
  | letter (l : ByteArray) : Ax ⟨3, l, []⟩ (.letter l)
  | any (l : ByteArray) : Ax ⟨4, l, []⟩ .any
  | cat (l : ByteArray) {a b : Tr} {x y : Rx} : Ax a x → Ax b y → Ax ⟨5, l, [a, b]⟩ (.cat x y)
  | or (l : ByteArray) {a b : Tr} {x y : Rx} : Ax a x → Ax b y → Ax ⟨6, l, [a, b]⟩ (.or x y)
  | and (l : ByteArray) {a b : Tr} {x y : Rx} : Ax a x → Ax b y → Ax ⟨7, l, [a, b]⟩ (.and x y)
  | star (l : ByteArray) {a : Tr} {x : Rx} : Ax a x → Ax ⟨8, l, [a]⟩ (.star x)
  | not (l : ByteArray) {a : Tr} {x : Rx} : Ax a x → Ax ⟨9, l, [a]⟩ (.not x)
def sz : Rx → Nat
  | .cat x y => 1 + sz x + sz y
  | .or x y => 1 + sz x + sz y
  | .and x y => 1 + sz x + sz y
  | .star x => 1 + sz x
  | .not x => 1 + sz x
  | _ => 1
theorem sz_pos (x : Rx) : 1 ≤ sz x := by cases x <;> simp only [sz] <;> omega
def starL (f : List Int → Bool) : Nat → List Int → Bool
  | _, [] => true
  | 0, _ :: _ => false
  | n + 1, c :: t => (List.range (t.length + 1)).any fun k => f ((c :: t).take (k + 1)) && starL f n ((c :: t).drop (k + 1))
theorem starL_more (f : List Int → Bool) : ∀ (n m : Nat) (w : List Int), w.length ≤ n → w.length ≤ m → starL f n w = starL f m w
  | n, m, [], _, _ => by unfold starL; rfl
  | 0, _, _ :: _, h, _ => by simp at h
  | _ + 1, 0, _ :: _, _, h => by simp at h
  | n + 1, m + 1, c :: t, h1, h2 => by
    rw [starL, starL]
    simp only [List.length_cons] at h1 h2
    congr 1
    funext k
    rw [starL_more f n m ((c :: t).drop (k + 1)) (by simp; omega) (by simp; omega)]
def lan : Rx → List Int → Bool
  | .none, _ => false
  | .empty, w => decide (w = [])
  | .letter c, w => decide (w = bytesOf c)
  | .any, w => decide (w.length = 1)
  | .cat x y, w => (List.range (w.length + 1)).any fun k => lan x (w.take k) && lan y (w.drop k)
  | .or x y, w => lan x w || lan y w
  | .and x y, w => lan x w && lan y w
  | .star x, w => starL (lan x) w.length w
  | .not x, w => !lan x w
theorem lan_cat (x y : Rx) (w : List Int) : lan (.cat x y) w = true ↔ ∃ k, k ≤ w.length ∧ lan x (w.take k) = true ∧ lan y (w.drop k) = true := by
  rw [lan, List.any_eq_true]
  constructor
  · rintro ⟨k, hk, h⟩
    rw [Bool.and_eq_true] at h
    exact ⟨k, by have := List.mem_range.mp hk; omega, h⟩
  · rintro ⟨k, hk, h1, h2⟩
    exact ⟨k, List.mem_range.mpr (by omega), by rw [h1, h2]; rfl⟩
theorem lan_star (x : Rx) (w : List Int) : lan (.star x) w = true ↔ w = [] ∨ ∃ k, 0 < k ∧ k ≤ w.length ∧ lan x (w.take k) = true ∧ lan (.star x) (w.drop k) = true := by
  cases w with
  | nil => simp [lan, starL]
  | cons c t =>
    have e : ∀ k, lan (.star x) ((c :: t).drop (k + 1)) = starL (lan x) t.length ((c :: t).drop (k + 1)) := fun k => by
      rw [lan]
      exact starL_more _ _ _ _ (Nat.le_refl _) (by simp)
    have h0 : lan (.star x) (c :: t) = (List.range (t.length + 1)).any fun k => lan x ((c :: t).take (k + 1)) && starL (lan x) t.length ((c :: t).drop (k + 1)) := by
      rw [lan, List.length_cons, starL]
    rw [h0, List.any_eq_true]
    constructor
    · rintro ⟨k, hk, h⟩
      rw [Bool.and_eq_true] at h
      have := List.mem_range.mp hk
      exact Or.inr ⟨k + 1, by omega, by simp; omega, h.1, by rw [e]; exact h.2⟩
    · rintro (h | ⟨k, hk, h1, h2, h3⟩)
      · cases h
      · obtain ⟨q, rfl⟩ : ∃ q, k = q + 1 := ⟨k - 1, by omega⟩
        simp only [List.length_cons] at h1
        exact ⟨q, List.mem_range.mpr (by omega), by rw [h2, ← e, h3]; rfl⟩
def sub (l : List Int) (i j : Nat) : List Int := (l.take j).drop i
theorem sub_len {l : List Int} {i j : Nat} (h : j ≤ l.length) : (sub l i j).length = j - i := by
  unfold sub
  rw [List.length_drop, List.length_take]
  omega
theorem sub_take {l : List Int} {i j m : Nat} (h : i + m ≤ j) : (sub l i j).take m = sub l i (i + m) := by
  unfold sub
  rw [List.take_drop, List.take_take, Nat.min_eq_left h]
theorem sub_drop {l : List Int} {i j m : Nat} : (sub l i j).drop m = sub l (i + m) j := by
  unfold sub
  rw [List.drop_drop]
theorem sub_nil {l : List Int} {i j : Nat} (h : j ≤ l.length) (hi : i ≤ j) : sub l i j = [] ↔ i = j := by
  rw [← List.length_eq_zero_iff, sub_len h]
  omega
def mt (l : List Int) (x : Rx) (i j : Nat) : Bool := lan x (sub l i j)
theorem mt_cat {l : List Int} {x y : Rx} {i j : Nat} (hi : i ≤ j) (hj : j ≤ l.length) : mt l (.cat x y) i j = true ↔ ∃ k, i ≤ k ∧ k ≤ j ∧ mt l x i k = true ∧ mt l y k j = true := by
  unfold mt
  rw [lan_cat, sub_len hj]
  constructor
  · rintro ⟨k, hk, h1, h2⟩
    rw [sub_take (by omega)] at h1
    rw [sub_drop] at h2
    exact ⟨i + k, by omega, by omega, h1, h2⟩
  · rintro ⟨k, h0, hk, h1, h2⟩
    refine ⟨k - i, by omega, ?_, ?_⟩
    · rw [sub_take (by omega), show i + (k - i) = k by omega]; exact h1
    · rw [sub_drop, show i + (k - i) = k by omega]; exact h2
theorem mt_star {l : List Int} {x : Rx} {i j : Nat} (hi : i ≤ j) (hj : j ≤ l.length) : mt l (.star x) i j = true ↔ i = j ∨ ∃ k, i < k ∧ k ≤ j ∧ mt l x i k = true ∧ mt l (.star x) k j = true := by
  unfold mt
  rw [lan_star, sub_len hj, sub_nil hj hi]
  constructor
  · rintro (h | ⟨k, h0, hk, h1, h2⟩)
    · exact Or.inl h
    · rw [sub_take (by omega)] at h1
      rw [sub_drop] at h2
      exact Or.inr ⟨i + k, by omega, by omega, h1, h2⟩
  · rintro (h | ⟨k, h0, hk, h1, h2⟩)
    · exact Or.inl h
    · refine Or.inr ⟨k - i, by omega, by omega, ?_, ?_⟩
      · rw [sub_take (by omega), show i + (k - i) = k by omega]; exact h1
      · rw [sub_drop, show i + (k - i) = k by omega]; exact h2
theorem mt_empty {l : List Int} {i j : Nat} (hi : i ≤ j) (hj : j ≤ l.length) : mt l .empty i j = decide (i = j) := by
  unfold mt lan
  exact decide_eq_decide.mpr (sub_nil hj hi)
theorem mt_any {l : List Int} {i j : Nat} (hi : i ≤ j) (hj : j ≤ l.length) : mt l .any i j = decide (j = i + 1) := by
  unfold mt lan
  refine decide_eq_decide.mpr ?_
  rw [sub_len hj]
  omega
theorem mt_or (l : List Int) (x y : Rx) (i j : Nat) : mt l (.or x y) i j = (mt l x i j || mt l y i j) := rfl
theorem mt_and (l : List Int) (x y : Rx) (i j : Nat) : mt l (.and x y) i j = (mt l x i j && mt l y i j) := rfl
theorem mt_not (l : List Int) (x : Rx) (i j : Nat) : mt l (.not x) i j = !mt l x i j := rfl
theorem mt_none (l : List Int) (i j : Nat) : mt l .none i j = false := rfl
theorem mt_letter (s c : ByteArray) (i j : Nat) : mt (bytesOf s) (.letter c) i j = decide (s.extract i j = c) := by
  unfold mt lan sub
  refine decide_eq_decide.mpr ?_
  rw [← bytes_extract]
  exact ⟨fun h => bytes_inj h, fun h => by rw [h]⟩
def fl (N id i j : Nat) : Nat := (id * N + i) * N + j
theorem fl_inj {N id i j id' i' j' : Nat} (hi : i < N) (hj : j < N) (hi' : i' < N) (hj' : j' < N) (h : fl N id i j = fl N id' i' j') : id = id' ∧ i = i' ∧ j = j' := by
  unfold fl at h
  have key : ∀ {a b c d : Nat}, b < N → d < N → a * N + b = c * N + d → a = c ∧ b = d := fun {a b c d} hb hd e => by
    have h1 : (a * N + b) / N = a := by rw [Nat.mul_comm, Nat.mul_add_div (by omega), Nat.div_eq_of_lt hb, Nat.add_zero]
    have h2 : (c * N + d) / N = c := by rw [Nat.mul_comm, Nat.mul_add_div (by omega), Nat.div_eq_of_lt hd, Nat.add_zero]
    have h3 : a = c := by rw [← h1, e, h2]
    subst h3
    exact ⟨rfl, by omega⟩
  obtain ⟨h1, h2⟩ := key hj hj' h
  obtain ⟨h3, h4⟩ := key hi hi' h1
  exact ⟨h3, h4, h2⟩
theorem fl_lt {N T id i j : Nat} (hid : id < T) (hi : i < N) (hj : j < N) : fl N id i j < T * N * N := by
  unfold fl
  have h1 : id * N + i < T * N := by
    have : (id + 1) * N ≤ T * N := Nat.mul_le_mul_right N hid
    rw [Nat.succ_mul] at this
    omega
  have : (id * N + i + 1) * N ≤ T * N * N := Nat.mul_le_mul_right N h1
  rw [Nat.succ_mul] at this
  omega
end Go.Proofs.Ytldgkgdgcfllmaa.Rg
end
section
namespace Go.Proofs.Ytldgkgdgcfllmaa.Rg
open Go.RowKit Go.Proofs.Ytldgkgdgcfllmaa.P Go.Proofs.Ytldgkgdgcfllmaa.Pl Go.Proofs.YtldgkgdgcfllmaaW.PrintWords Go.Proofs.YtldgkgdgcfllmaaW.PrintLast Go.Proofs.YtldgkgdgcfllmaaW.PrintMore
set_option linter.unusedVariables false
set_option linter.unusedSimpArgs false
def leafRx (k : Int) (l : ByteArray) : Option Rx := if k = 1 then some .none else if k = 2 then some .empty else if k = 3 then some (.letter l) else if k = 4 then some .any else none
def oneRx (k : Int) (x : Rx) : Option Rx := if k = 8 then some (.star x) else if k = 9 then some (.not x) else none
def twoRx (k : Int) (x y : Rx) : Option Rx := if k = 5 then some (.cat x y) else if k = 6 then some (.or x y) else if k = 7 then some (.and x y) else none
def toRx : Nat → Tr → Option Rx
  | 0, _ => none
  | n + 1, r => match r.f2 with
    | [] => leafRx r.f0 r.f1
    | [a] => (toRx n a).bind (oneRx r.f0)
    | [a, b] => (toRx n a).bind fun x => (toRx n b).bind (twoRx r.f0 x)
    | _ => none
theorem toRx_ax : ∀ (n : Nat) (r : Tr) (x : Rx), toRx n r = some x → Ax r x := by
  intro n
  induction n with
  | zero => intro r x h; cases h
  | succ n ih =>
    intro r x h
    obtain ⟨k, l, xs⟩ := r
    match xs, h with
    | [], h =>
      simp only [toRx, leafRx] at h
      by_cases h1 : k = 1
      · subst h1; simp at h; subst h; exact Ax.none l
      · by_cases h2 : k = 2
        · subst h2; simp at h; subst h; exact Ax.empty l
        · by_cases h3 : k = 3
          · subst h3; simp at h; subst h; exact Ax.letter l
          · by_cases h4 : k = 4
            · subst h4; simp at h; subst h; exact Ax.any l
            · simp [h1, h2, h3, h4] at h
    | [a], h =>
      simp only [toRx, Option.bind_eq_some_iff] at h
      obtain ⟨y, hy, h⟩ := h
      have hay := ih a y hy
      simp only [oneRx] at h
      by_cases h1 : k = 8
      · subst h1; simp at h; subst h; exact Ax.star l hay
      · by_cases h2 : k = 9
        · subst h2; simp at h; subst h; exact Ax.not l hay
        · simp [h1, h2] at h
    | [a, b], h =>
      simp only [toRx, Option.bind_eq_some_iff] at h
      obtain ⟨y, hy, z, hz, h⟩ := h
      have hay := ih a y hy
      have haz := ih b z hz
      simp only [twoRx] at h
      by_cases h1 : k = 5
      · subst h1; simp at h; subst h; exact Ax.cat l hay haz
      · by_cases h2 : k = 6
        · subst h2; simp at h; subst h; exact Ax.or l hay haz
        · by_cases h3 : k = 7
          · subst h3; simp at h; subst h; exact Ax.and l hay haz
          · simp [h1, h2, h3] at h
    | _ :: _ :: _ :: _, h => simp [toRx] at h
theorem ax_toRx {r : Tr} {x : Rx} (h : Ax r x) : ∀ n, sz x < n → toRx n r = some x := by
  induction h with
  | none l | empty l | letter l | any l =>
    intro n hn
    cases n with
    | zero => omega
    | succ n => simp [toRx, leafRx]
  | star l ha ih | not l ha ih =>
    intro n hn
    simp only [sz] at hn
    cases n with
    | zero => omega
    | succ n => simp [toRx, ih n (by omega), oneRx]
  | cat l ha hb iha ihb | or l ha hb iha ihb | and l ha hb iha ihb =>
    intro n hn
    simp only [sz] at hn
    cases n with
    | zero => omega
    | succ n => simp [toRx, iha n (by omega), ihb n (by omega), twoRx]
def matchF (r : Tr) (s : ByteArray) : Option Bool := (toRx 101 r).bind fun x => if sz x ≤ 100 ∧ s.size ≤ 100 then some (lan x (bytesOf s)) else none
theorem matchF_ax {r : Tr} {x : Rx} {s : ByteArray} (h : Ax r x) (h1 : sz x ≤ 100) (h2 : s.size ≤ 100) : matchF r s = some (lan x (bytesOf s)) := by
  unfold matchF
  rw [ax_toRx h 101 (by omega)]
  simp [h1, h2]
theorem matchF_some {r : Tr} {s : ByteArray} {b : Bool} (h : matchF r s = some b) : ∃ x, Ax r x ∧ sz x ≤ 100 ∧ s.size ≤ 100 ∧ b = lan x (bytesOf s) := by
  unfold matchF at h
  obtain ⟨x, hx, h⟩ := Option.bind_eq_some_iff.mp h
  by_cases hc : sz x ≤ 100 ∧ s.size ≤ 100
  · rw [if_pos hc] at h
    exact ⟨x, toRx_ax _ _ _ hx, hc.1, hc.2, (Option.some.inj h).symm⟩
  · rw [if_neg hc] at h; cases h
end Go.Proofs.Ytldgkgdgcfllmaa.Rg
end
