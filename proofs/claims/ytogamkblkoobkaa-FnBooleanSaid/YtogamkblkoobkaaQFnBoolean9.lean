/- Texts of the proof of FnBoolean, put together. No condition. -/
import Derived.Test.YtogamkblkoobkaaQFnBoolean2
import Derived.Test.YtogamkblkoobkaaQFnBoolean8
section
namespace Go.Proofs.Ytogamkblkoobkaa.P
open Go.RowKit Go.Proofs.YtogamkblkoobkaaW.PrintWords Go.Proofs.YtogamkblkoobkaaW.PrintLast Go.Proofs.YtogamkblkoobkaaW.PrintMore
attribute [local go_sem] max2_int min2_int max_two min_two max_three min_three max_four min_four
set_option linter.unusedVariables false
set_option linter.unusedSimpArgs false
def spec_WordsUpTo.l0 : Nat → Int → List ByteArray → Int → Option (List ByteArray)
  | 0, _, _, _ => none
  | k + 1, x0, x3, x4 => if x4 ≤ x0 then (if x4 ≤ 5 then ((spec_WordsOfLength.f k x4).bind fun ai => (if x3.length + ai.length < 8796093022208 then (spec_WordsUpTo.l0 k x0 (x3 ++ ai) (wrap64 (x4 + 1))) else (none))) else (some x3)) else (some x3)
def spec_WordsUpTo.f (k : Nat) (a0 : Int) : Option (List ByteArray) := spec_WordsUpTo.l0 k a0 (([] : List ByteArray)) 0
theorem spec_WordsUpTo.mono_l : ∀ k, (∀ y0 y1 y2, LeO (spec_WordsUpTo.l0 k y0 y1 y2) (spec_WordsUpTo.l0 (k + 1) y0 y1 y2))
  | 0 => fun _ _ _ r h => by simp [spec_WordsUpTo.l0] at h
  | k + 1 => by
    have ih0 := spec_WordsUpTo.mono_l k
    · intro y0 y1 y2
      unfold spec_WordsUpTo.l0
      repeat' first
      | (with_reducible exact ih0 _ _ _)
      | (with_reducible exact spec_WordsOfLength.mono _ _)
      | (with_reducible exact LeO.refl _)
      | (with_reducible exact LeO.none _)
      | (with_reducible refine LeO.ite ?_ ?_)
      | (with_reducible refine LeO.bind ?_ (fun _ => ?_))
      | exact ih0 _ _ _
      | exact spec_WordsOfLength.mono _ _
      | exact LeO.none _
      | refine LeO.ite ?_ ?_
      | refine LeO.bind ?_ (fun _ => ?_)
theorem spec_WordsUpTo.mono : ∀ a0 k, LeO (spec_WordsUpTo.f k a0) (spec_WordsUpTo.f (k + 1) a0) := by
  intro a0 k
  have ih0 := spec_WordsUpTo.mono_l k
  unfold spec_WordsUpTo.f
  repeat' first
      | (with_reducible exact ih0 _ _ _)
      | (with_reducible exact spec_WordsOfLength.mono _ _)
      | (with_reducible exact LeO.refl _)
      | (with_reducible exact LeO.none _)
      | (with_reducible refine LeO.ite ?_ ?_)
      | (with_reducible refine LeO.bind ?_ (fun _ => ?_))
      | exact ih0 _ _ _
      | exact spec_WordsOfLength.mono _ _
      | exact LeO.none _
      | refine LeO.ite ?_ ?_
      | refine LeO.bind ?_ (fun _ => ?_)
theorem zp51_0_ {p q : Prop} (h : p) (c : p → q := by intro h_; repeat (first | (with_reducible first | exact h_ | apply below_alloc | apply pw_below_drewN | apply below_drew1) | exact h_)) : q := c h
theorem zp51_1_ {p q : Prop} (h : p) (c : p → q := by intro h_; repeat (first | (with_reducible first | exact h_ | apply IsS125.alloc | apply IsS125.drewN | apply IsS125.drew | apply IsS125.set_1 | apply IsS125.set_2) | exact h_)) : q := c h
theorem zp51_2_ {p q g1 : Prop} (h : p) (h1 : g1) (c : p → g1 → q := by intro h_ h1_; repeat (first | (with_reducible first | exact h_ | apply below_alloc | apply pw_below_drewN | apply below_drew1 | refine below_set ?_ h1_) | exact h_)) : q := c h h1
theorem zp51_3_ {p q : Prop} (h : p) (c : p → q := by intro h_; repeat (first | (with_reducible first | exact h_ | apply KeepBut.set_ | apply keep_drewN | apply keep_drew | apply keep_alloc) | exact h_)) : q := c h
set_option maxHeartbeats 8000000 in
set_option maxRecDepth 100000 in
theorem spec_WordsUpTo.calls (k : Nat) (a0 : Int) (r : List ByteArray) (w : World) (h : spec_WordsUpTo.f k a0 = some r) :
    Calls Try.prog 40 #[.int .i64 a0] w fun e w' => ∃ v0_ : Value, e = .returned (v0_) ∧ Kd.R Kd.string 9 w' w.heap.size (fun _ => True) v0_ r ∧ Below w.heap.size w w' := by
  have HB := am_ (Below.refl w.heap.size w)
  have H : (spec_WordsUpTo.l0 k a0 (([] : List ByteArray)) 0) = some r := h
  clear h
  obtain ⟨aJ, hy877⟩ : ∃ y_ : List ByteArray, y_ = (([] : List ByteArray)) := ⟨_, rfl⟩
  replace H : (spec_WordsUpTo.l0 k a0 aJ 0) = some r := by first | (rw [hy877]; with_reducible exact H) | (have H2_ := (Option.bind_some _ _).symm.trans H; rw [hy877]; with_reducible exact H2_) | (have H2_ := (Option.bind_some _ _).symm.trans H; with_reducible exact H2_) | with_reducible exact H | (rw [hy877]; exact H) | exact H
  have aC := am_ hy877
  clear hy877
  have H' := am_ H
  clear H
  go_enter Try.func40, Try.ntmps40
  go_wp2_with (first | ((with_reducible refine gate_dst (N := 5) rfl ?_); refine Kd.R_lit Kd.string _ 9 ?hg (N := 5) ?hd (xs := ([] : List ByteArray)) (inner := []) (ok := fun _ => True) (okp := fun _ => True) ?hr ?hp (fun _ hk => hk) trivial (Below.refl _ _) (Nat.le_refl _) (by simp) ?_; (case hd => rfl); (case hg => rfl); (case hr => first | (go_simp; done) | (go_simp; rfl)); (case hp => exact (Reps.none _ _)); intro bc w2 ho3 hb hg_ hnew_; clear hg_ hnew_; (first | rw [← aC.out] at ho3 | (simp only [Int.reduceToNat] at ho3; rw [← aC.out] at ho3)); replace aW := am_ (Kd.R_lower ho3 (below_size (b0_ HB.out))); replace HB := am_ (below_step (b0_ HB.out) hb); clear hb ho3))
  go_loopg [3, 4] k (fun kq v3 v4 w' => ∃ (an : List ByteArray) (aa : Int), v4 = .int .i64 aa ∧ Aside0 (spec_WordsUpTo.l0 kq a0 an aa = some r) ∧ Aside0 (kq ≤ k) ∧ Aside0 (Kd.R Kd.string 9 w' w.heap.size (fun _ => True) v3 an) ∧ Aside0 (Below w.heap.size w w'))
  case atStart => exact ⟨(aJ), (0), (by first | rfl | (simp; done) | (simp [*]; done)), H', ⟨Nat.le_refl _⟩, ⟨by refine rr_ ?_; exact aW.out⟩, ⟨by exact zp51_0_ HB.out⟩⟩
  case round =>
    clear H'
    try clear p2
    obtain ⟨an, aa, rfl, HA, HK1, aj, HB⟩ := hrel
    cases gk with
    | zero => exact absurd HA.out (by simp [spec_WordsUpTo.l0])
    | succ k1 =>
      have H := HA.out
      clear HA
      simp only [spec_WordsUpTo.l0] at H
      by_cases c4 : aa ≤ a0
      · rw [if_pos c4] at H
        have c4b0 : decide (aa ≤ a0) = true := decide_eq_true c4
        clear c4
        by_cases c5 : aa ≤ 5
        · rw [if_pos c5] at H
          have c5b0 : decide (aa ≤ 5) = true := decide_eq_true c5
          clear c5
          replace H := Option.bind_eq_some_iff.mp H
          obtain ⟨ai, A60, H⟩ := H
          have A6 := am_ A60
          clear A60
          by_cases c7 : an.length + ai.length < 8796093022208
          · rw [if_pos c7] at H
            have LMc7 := am_ c7
            clear c7
            obtain ⟨aK, hy883⟩ : ∃ y_ : List ByteArray, y_ = (an ++ ai) := ⟨_, rfl⟩
            replace H : (spec_WordsUpTo.l0 k1 a0 aK (wrap64 (aa + 1))) = some r := by first | (rw [hy883]; with_reducible exact H) | (have H2_ := (Option.bind_some _ _).symm.trans H; rw [hy883]; with_reducible exact H2_) | (have H2_ := (Option.bind_some _ _).symm.trans H; with_reducible exact H2_) | with_reducible exact H | (rw [hy883]; exact H) | exact H
            have aX := am_ hy883
            clear hy883
            have H' := am_ H
            clear H
            go_wp2_with (first | ((with_reducible refine gate_callee (f := 106) rfl ?_); refine gL_ (some 17) Try.func106 #[.int .i64 aa] ?_; (with_reducible refine (spec_WordsOfLength.calls k1 aa ai _ A6.out).mono ?_); rintro e w8 ⟨bd, rfl, ho0, hb⟩; refine ⟨_, rfl, ?_⟩; have n0_ := am_ (Kd.R_elder' (rr_ aj.out) (Kd.R_base ho0) hb); have n1_ := am_ (Kd.R_lower (Kd.R_new' ho0 (Kd.R_lt (rr_ aj.out))) (below_size (b0_ HB.out))); have n2_ := am_ (below_step (b0_ HB.out) hb); clear aj; clear HB; have aj := n0_; have am := n1_; have HB := n2_; clear n0_ n1_ n2_; (try clear hb); (try clear hb2); (try clear hk); (try clear hi); (try clear ho0); obtain ⟨aw, ax, ay⟩ := Kd.R_slice am.out; subst ay) | ((with_reducible refine gate_builtin (b := .append) (xs := #[.tmp 15, .tmp 17]) rfl ?_); at_builtin; refine Kd.R_append_rows Kd.string (w0 := w) w.heap.size rfl (.tmp 15) (.tmp 17) 52 9 (.string ⟨#[]⟩) 16 rfl Try.underlying52 info9 rfl (by decide) (by omega) u3 an ai _ _ _ (fun k_ => some k_ ≠ (.slice aw ai.length ax : Value).ownBlock) (fun _ => False) rfl rfl ?aO ?aR (fun _ _ h => h) (fun _ h => h.elim) ?aF ?aB ?aS ?aL ?_; (case aR => exact rc_ ((Kd.R_reads' am.out).2.2)); (case aB => exact (b0_ HB.out)); (case aF => exact (fun k_ hk => Kd.fresh' (Kd.R_lt (rr_ am.out)) k_ hk)); (case aO => exact (rr_ (Kd.R_mono aj.out (fun _ hk => hk.2)))); (case aS => exact (below_size (b0_ HB.out))); (case aL => have := LMc7.out; omega); intro be w9 ho hb hg hat; rw [← aX.out] at ho; have n0_ := am_ (Kd.R_after (ok := (fun _ => True)) (rr_ am.out) hg hat); have n1_ := am_ (hb); have n2_ := am_ (ho); clear am; clear HB; clear aj; have am := n0_; have HB := n1_; have aY := n2_; clear n0_ n1_ n2_; clear ho hb hg hat))
            go_roundg k1
            case measure => have := HK1.out; omega
            case rel => exact ⟨(aK), (wrap64 (aa + 1)), (by first | rfl | (simp; done) | (simp [*]; done)), H', ⟨by have := HK1.out; omega⟩, ⟨by refine rr_ ?_; exact Kd.R_mono aY.out (fun _ hk => trivial)⟩, ⟨by exact zp51_0_ HB.out⟩⟩
          · rw [if_neg c7] at H
            exact absurd H (by simp)
        · rw [if_neg c5] at H
          have c5b0 : decide (aa ≤ 5) = false := decide_eq_false c5
          clear c5
          obtain rfl := Option.some.inj H
          simp only [Option.some.injEq, Prod.mk.injEq] at H
          obtain ⟨rfl⟩ := H
          go_wp2
          go_ret
          exact ⟨_, by first | rfl | (simp [errW_none, errW_some] <;> rfl) | (simp [*, errW_none, errW_some] <;> rfl), by refine rr_ ?_; exact aj.out, by exact zp51_0_ HB.out⟩
      · rw [if_neg c4] at H
        have c4b0 : decide (aa ≤ a0) = false := decide_eq_false c4
        clear c4
        obtain rfl := Option.some.inj H
        simp only [Option.some.injEq, Prod.mk.injEq] at H
        obtain ⟨rfl⟩ := H
        go_wp2
        go_ret
        exact ⟨_, by first | rfl | (simp [errW_none, errW_some] <;> rfl) | (simp [*, errW_none, errW_some] <;> rfl), by refine rr_ ?_; exact aj.out, by exact zp51_0_ HB.out⟩
def spec_l1Pick.f (s0_0 : List Int) (s0_1 : Int) (s0_2 : Int) (l1 : List ByteArray) : Option (ByteArray × Int × Int) := (spec_l1Below.f s0_0 s0_1 s0_2 (l1.length : Int)).bind fun bt886 => (if 0 ≤ bt886.1 then (if bt886.1 < (l1.length : Int) then (some (rdOf ByteArray.empty l1 bt886.1, bt886.2.1, bt886.2.2)) else (none)) else (none))
set_option maxHeartbeats 8000000 in
set_option maxRecDepth 100000 in
theorem spec_l1Pick.calls (g : Nat) (s0_0 : List Int) (s0_1 : Int) (s0_2 : Int) (A1 : Option Addr) (c1 : Nat) (l1 : List ByteArray) (r1 : ByteArray) (r2 : Int) (r3 : Int) (w0 w : World) (hI : IsS125 w0 w g s0_0 s0_1 s0_2) (hB : Below w0.heap.size w0 w) (hr1 : Kd.C Kd.string w A1 l1.length l1) (hc1 : l1.length ≤ c1) (hf1 : ∀ ad, A1 = some ad → 0 < l1.length → ad.block ≠ g) (h : spec_l1Pick.f s0_0 s0_1 s0_2 l1 = some (r1, r2, r3)) :
    Calls Try.prog 130 #[.pointer (some ⟨g, 0, none⟩), .slice A1 l1.length c1] w fun e w' => e = .returned (.string r1) ∧ IsS125 w0 w' g s0_0 r2 r3 ∧ Below w0.heap.size w0 w' ∧ KeepBut w w' g none := by
  have HR1 := am_ hr1
  have HC1 := am_ hc1
  clear hr1 hc1
  have HI0 := am_ hI
  have HK := am_ (KeepBut.refl w g none)
  have HL := am_ hB.size
  clear hI
  have HW0 := am_ hB.size
  have HB := am_ hB
  clear hB
  have H : ((spec_l1Below.f s0_0 s0_1 s0_2 (l1.length : Int)).bind fun bt886 => (if 0 ≤ bt886.1 then (if bt886.1 < (l1.length : Int) then (some (rdOf ByteArray.empty l1 bt886.1, bt886.2.1, bt886.2.2)) else (none)) else (none))) = some (r1, r2, r3) := h
  clear h
  replace H := Option.bind_eq_some_iff.mp H
  obtain ⟨⟨ak, ba, bb⟩, A30, H⟩ := H
  have A3 := am_ A30
  clear A30
  by_cases c4 : 0 ≤ ak
  · rw [if_pos c4] at H
    have c4b0 : decide (0 ≤ ak) = true := decide_eq_true c4
    clear c4
    by_cases c5 : ak < (l1.length : Int)
    · rw [if_pos c5] at H
      have c5b0 : decide (ak < (l1.length : Int)) = true := decide_eq_true c5
      clear c5
      simp only [Option.some.injEq, Prod.mk.injEq] at H
      obtain ⟨rfl, rfl, rfl⟩ := H
      go_enter Try.func130, Try.ntmps130
      go_wp2_with (first | ((with_reducible refine gate_callee (f := 107) rfl ?_); refine gL_ (some 9) Try.func107 #[.pointer (some ⟨g, 0, none⟩), .int .i64 (l1.length : Int)] ?_; (with_reducible refine (spec_l1Below.calls g s0_0 s0_1 s0_2 (l1.length : Int) ak ba bb w0 _ ?side1 ?side2 A3.out).mono ?_); (case side1 => exact zp51_1_ HI0.out); (case side2 => exact zp51_2_ HB.out (IsS125.ge HI0.out)); rintro e w6 ⟨rfl, hi, hb, hk⟩; refine ⟨_, rfl, ?_⟩; have n0_ := am_ (KeepBut.trans (k0_ HK.out) hk (.inl rfl)); have n1_ := am_ (hb); have n2_ := am_ (hi); clear HK; clear HB; clear HI0; have HK := n0_; have HB := n1_; have HI0 := n2_; clear n0_ n1_ n2_; (try clear hb); (try clear hb2); (try clear hk); (try clear hi); have p889 : 0 ≤ (ak : Int) := of_decide_eq_true ah_; have q889 : ak < (l1.length : Int) := of_decide_eq_true ah_; obtain ⟨aZ, e889, ar⟩ := Kd.at_string HR1.out ak p889 q889; cases e889; replace ar := keep_cell HK.out ar (by first | (rw [add_block]; exact hf1 _ rfl (by omega)) | exact hf1 _ rfl (by omega) | exact hf1 aZ rfl (by omega)); replace p889 := eq_true p889; replace q889 := eq_true q889))
      go_ret
      exact ⟨by first | rfl | (simp [errW_none, errW_some] <;> rfl) | (simp [*, errW_none, errW_some] <;> rfl), by exact zp51_1_ HI0.out, by exact zp51_2_ HB.out (IsS125.ge HI0.out), by exact zp51_3_ HK.out⟩
    · rw [if_neg c5] at H
      exact absurd H (by simp)
  · rw [if_neg c4] at H
    exact absurd H (by simp)
def spec_l2Word.l0 : Nat → ByteArray → Int → Int → List Int → Int → Int → Option (ByteArray × Int × Int)
  | 0, _, _, _, _, _, _ => none
  | k + 1, x5, x6, x7, aD, aE, aG => if x7 < x6 then ((spec_l1Pick.f aD aE aG (([(⟨#[97]⟩ : ByteArray), (⟨#[98]⟩ : ByteArray), (⟨#[97]⟩ : ByteArray), (⟨#[98]⟩ : ByteArray), (⟨#[99]⟩ : ByteArray)] : List ByteArray))).bind fun bt896 => (if x5.size + bt896.1.size ≤ 9223372036854775807 then (spec_l2Word.l0 k (x5 ++ bt896.1) x6 (wrap64 (x7 + 1)) aD bt896.2.1 bt896.2.2) else (none))) else (some (x5, aE, aG))
def spec_l2Word.f (k : Nat) (s0_0 : List Int) (s0_1 : Int) (s0_2 : Int) (a1 : Int) : Option (ByteArray × Int × Int) := (spec_l1Below.f s0_0 s0_1 s0_2 (wrap64 (a1 + 1))).bind fun bt890 => (spec_l2Word.l0 k (⟨#[]⟩ : ByteArray) bt890.1 0 s0_0 bt890.2.1 bt890.2.2)
theorem spec_l2Word.mono_l : ∀ k, (∀ y0 y1 y2 y3 y4 y5, LeO (spec_l2Word.l0 k y0 y1 y2 y3 y4 y5) (spec_l2Word.l0 (k + 1) y0 y1 y2 y3 y4 y5))
  | 0 => fun _ _ _ _ _ _ r h => by simp [spec_l2Word.l0] at h
  | k + 1 => by
    have ih0 := spec_l2Word.mono_l k
    · intro y0 y1 y2 y3 y4 y5
      unfold spec_l2Word.l0
      repeat' first
      | (with_reducible exact ih0 _ _ _ _ _ _)
      | (with_reducible exact LeO.refl _)
      | (with_reducible exact LeO.none _)
      | (with_reducible refine LeO.ite ?_ ?_)
      | (with_reducible refine LeO.bind ?_ (fun _ => ?_))
      | exact ih0 _ _ _ _ _ _
      | exact LeO.none _
      | refine LeO.ite ?_ ?_
      | refine LeO.bind ?_ (fun _ => ?_)
theorem spec_l2Word.mono : ∀ a0 a1 a2 a3 k, LeO (spec_l2Word.f k a0 a1 a2 a3) (spec_l2Word.f (k + 1) a0 a1 a2 a3) := by
  intro a0 a1 a2 a3 k
  have ih0 := spec_l2Word.mono_l k
  unfold spec_l2Word.f
  repeat' first
      | (with_reducible exact ih0 _ _ _ _ _ _)
      | (with_reducible exact LeO.refl _)
      | (with_reducible exact LeO.none _)
      | (with_reducible refine LeO.ite ?_ ?_)
      | (with_reducible refine LeO.bind ?_ (fun _ => ?_))
      | exact ih0 _ _ _ _ _ _
      | exact LeO.none _
      | refine LeO.ite ?_ ?_
      | refine LeO.bind ?_ (fun _ => ?_)
set_option maxHeartbeats 8000000 in
set_option maxRecDepth 100000 in
theorem spec_l2Word.calls (k : Nat) (g : Nat) (s0_0 : List Int) (s0_1 : Int) (s0_2 : Int) (a1 : Int) (r1 : ByteArray) (r2 : Int) (r3 : Int) (w0 w : World) (hI : IsS125 w0 w g s0_0 s0_1 s0_2) (hB : Below w0.heap.size w0 w) (h : spec_l2Word.f k s0_0 s0_1 s0_2 a1 = some (r1, r2, r3)) :
    Calls Try.prog 131 #[.pointer (some ⟨g, 0, none⟩), .int .i64 a1] w fun e w' => e = .returned (.string r1) ∧ IsS125 w0 w' g s0_0 r2 r3 ∧ Below w0.heap.size w0 w' ∧ KeepBut w w' g none := by
  have HI0 := am_ hI
  have HK := am_ (KeepBut.refl w g none)
  have HL := am_ hB.size
  clear hI
  have HW0 := am_ hB.size
  have HB := am_ hB
  clear hB
  have H : ((spec_l1Below.f s0_0 s0_1 s0_2 (wrap64 (a1 + 1))).bind fun bt890 => (spec_l2Word.l0 k (⟨#[]⟩ : ByteArray) bt890.1 0 s0_0 bt890.2.1 bt890.2.2)) = some (r1, r2, r3) := h
  clear h
  replace H := Option.bind_eq_some_iff.mp H
  obtain ⟨⟨ao, aM, aN⟩, A30, H⟩ := H
  have A3 := am_ A30
  clear A30
  have H' := am_ H
  clear H
  go_enter Try.func131, Try.ntmps131
  go_wp2_with (first | ((with_reducible refine gate_callee (f := 107) rfl ?_); refine gL_ (some 11) Try.func107 #[.pointer (some ⟨g, 0, none⟩), .int .i64 (wrap64 (a1 + 1))] ?_; (with_reducible refine (spec_l1Below.calls g s0_0 s0_1 s0_2 (wrap64 (a1 + 1)) ao aM aN w0 _ ?side1 ?side2 A3.out).mono ?_); (case side1 => exact zp51_1_ HI0.out); (case side2 => exact zp51_2_ HB.out (IsS125.ge HI0.out)); rintro e w4 ⟨rfl, hi, hb, hk⟩; refine ⟨_, rfl, ?_⟩; have n0_ := am_ (KeepBut.trans (k0_ HK.out) hk (.inl rfl)); have n1_ := am_ (hb); have n2_ := am_ (hi); clear HK; clear HB; clear HI0; have HK := n0_; have HB := n1_; have HI0 := n2_; clear n0_ n1_ n2_; (try clear hb); (try clear hb2); (try clear hk); (try clear hi)))
  go_loopg [5, 7] k (fun kq v5 v7 w' => ∃ (af : ByteArray) (al : Int) (ab : Int) (ae : Int), v5 = .string af ∧ v7 = .int .i64 al ∧ Aside0 (spec_l2Word.l0 kq af ao al s0_0 ab ae = some (r1, r2, r3)) ∧ Aside0 (kq ≤ k) ∧ Aside0 (IsS125 w0 w' g s0_0 ab ae) ∧ Aside0 (KeepBut w w' g none) ∧ Aside0 (Below w0.heap.size w0 w'))
  case atStart => exact ⟨((⟨#[]⟩ : ByteArray)), (0), (aM), (aN), (by first | rfl | (simp; done) | (simp [*]; done)), (by first | rfl | (simp; done) | (simp [*]; done)), H', ⟨Nat.le_refl _⟩, ⟨by exact zp51_1_ HI0.out⟩, ⟨by exact zp51_3_ HK.out⟩, ⟨by exact zp51_2_ HB.out (IsS125.ge HI0.out)⟩⟩
  case round =>
    clear H'
    try clear c1
    try clear p2
    obtain ⟨af, al, ab, ae, rfl, rfl, HA, HK1, HI0, HK, HB⟩ := hrel
    cases gk with
    | zero => exact absurd HA.out (by simp [spec_l2Word.l0])
    | succ k1 =>
      have H := HA.out
      clear HA
      simp only [spec_l2Word.l0] at H
      by_cases c5 : al < ao
      · rw [if_pos c5] at H
        have c5b0 : decide (al < ao) = true := decide_eq_true c5
        clear c5
        obtain ⟨az, hy893⟩ : ∃ y_ : List ByteArray, y_ = (([(⟨#[97]⟩ : ByteArray), (⟨#[98]⟩ : ByteArray), (⟨#[97]⟩ : ByteArray), (⟨#[98]⟩ : ByteArray), (⟨#[99]⟩ : ByteArray)] : List ByteArray)) := ⟨_, rfl⟩
        replace H : ((spec_l1Pick.f s0_0 ab ae az).bind fun bt896 => (if af.size + bt896.1.size ≤ 9223372036854775807 then (spec_l2Word.l0 k1 (af ++ bt896.1) ao (wrap64 (al + 1)) s0_0 bt896.2.1 bt896.2.2) else (none))) = some (r1, r2, r3) := by first | (rw [hy893]; with_reducible exact H) | (have H2_ := (Option.bind_some _ _).symm.trans H; rw [hy893]; with_reducible exact H2_) | (have H2_ := (Option.bind_some _ _).symm.trans H; with_reducible exact H2_) | with_reducible exact H | (rw [hy893]; exact H) | exact H
        have aH := am_ hy893
        clear hy893
        replace H := Option.bind_eq_some_iff.mp H
        obtain ⟨⟨aq, aP, aQ⟩, A60, H⟩ := H
        have A6 := am_ A60
        clear A60
        by_cases c7 : af.size + aq.size ≤ 9223372036854775807
        · rw [if_pos c7] at H
          have c7b0 := eq_true c7
          have c7b1 : decide (af.size + aq.size ≤ 9223372036854775807) = true := decide_eq_true c7
          try have c7b2 : (9223372036854775807 < af.size + aq.size) = False := eq_false (Nat.not_lt.2 c7)
          have H' := am_ H
          clear H
          go_wp2_with (first | ((with_reducible refine gate_dst (N := 19) rfl ?_); refine Kd.R_lit Kd.string _ 9 ?hg (N := 19) ?hd (xs := ([(⟨#[97]⟩ : ByteArray), (⟨#[98]⟩ : ByteArray), (⟨#[97]⟩ : ByteArray), (⟨#[98]⟩ : ByteArray), (⟨#[99]⟩ : ByteArray)] : List ByteArray)) (inner := [.string (⟨#[97]⟩ : ByteArray), .string (⟨#[98]⟩ : ByteArray), .string (⟨#[97]⟩ : ByteArray), .string (⟨#[98]⟩ : ByteArray), .string (⟨#[99]⟩ : ByteArray)]) (ok := fun _ => True) (okp := fun _ => True) ?hr ?hp (fun _ hk => hk) trivial (Below.refl _ _) (Nat.le_refl _) (by simp) ?_; (case hd => rfl); (case hg => rfl); (case hr => first | (go_simp; done) | (go_simp; rfl)); (case hp => exact (Reps.one (show Kd.M Kd.string _ _ _ (⟨#[97]⟩ : ByteArray) [.string (⟨#[97]⟩ : ByteArray)] from rfl) (Reps.one (show Kd.M Kd.string _ _ _ (⟨#[98]⟩ : ByteArray) [.string (⟨#[98]⟩ : ByteArray)] from rfl) (Reps.one (show Kd.M Kd.string _ _ _ (⟨#[97]⟩ : ByteArray) [.string (⟨#[97]⟩ : ByteArray)] from rfl) (Reps.one (show Kd.M Kd.string _ _ _ (⟨#[98]⟩ : ByteArray) [.string (⟨#[98]⟩ : ByteArray)] from rfl) (Reps.one (show Kd.M Kd.string _ _ _ (⟨#[99]⟩ : ByteArray) [.string (⟨#[99]⟩ : ByteArray)] from rfl) (Reps.none _ _))))))); intro bf w8 ho9 hb hg_ hnew_; clear hg_ hnew_; (first | rw [← aH.out] at ho9 | (simp only [Int.reduceToNat] at ho9; rw [← aH.out] at ho9)); have n0_ := am_ (Kd.R_lower ho9 (keep_size (w := w) (g := g) (row := none) (k0_ HK.out))); have n1_ := am_ (IsS125.below (zp51_1_ HI0.out) hb); have n2_ := am_ (KeepBut.trans (k0_ HK.out) (KeepBut.of_below hb g none) (.inl rfl)); have n3_ := am_ (below_step (b1_ HB.out (IsS125.ge HI0.out)) hb); clear HI0; clear HK; clear HB; have ag := n0_; have HI0 := n1_; have HK := n2_; have HB := n3_; clear n0_ n1_ n2_ n3_; clear hb ho9; obtain ⟨aw, ax, ay⟩ := Kd.R_slice ag.out; subst ay) | ((with_reducible refine gate_callee (f := 130) rfl ?_); refine gL_ (some 20) Try.func130 #[.pointer (some ⟨g, 0, none⟩), .slice aw az.length ax] ?_; (with_reducible refine (spec_l1Pick.calls g s0_0 ab ae _ _ az aq aP aQ w0 _ ?side1 ?side2 ?side3 ?side4 ?side5 A6.out).mono ?_); (case side1 => exact zp51_1_ HI0.out); (case side2 => exact zp51_2_ HB.out (IsS125.ge HI0.out)); (case side3 => exact rc_ ((Kd.R_reads' ag.out).2.2)); (case side4 => exact (Kd.R_reads' ag.out).2.1); (case side5 => exact far_slice (IsS125.own_ne HI0.out ag.out (by decide))); rintro e w11 ⟨rfl, hi, hb, hk⟩; refine ⟨_, rfl, ?_⟩; have n0_ := am_ (Kd.R_mono (Kd.R_keep (IsS125.apart (show IsS125 w0 _ g s0_0 ab ae from by exact zp51_1_ HI0.out) (rr_ ag.out) (by decide)) hk (fun _ h => h.2)) (fun _ h => h.1)); have n1_ := am_ (KeepBut.trans (k0_ HK.out) hk (.inl rfl)); have n2_ := am_ (hb); have n3_ := am_ (hi); clear ag; clear HK; clear HB; clear HI0; have ag := n0_; have HK := n1_; have HB := n2_; have HI0 := n3_; clear n0_ n1_ n2_ n3_; (try clear hb); (try clear hb2); (try clear hk); (try clear hi)))
          go_roundg k1
          case measure => have := HK1.out; omega
          case rel => exact ⟨(af ++ aq), (wrap64 (al + 1)), (aP), (aQ), (by first | rfl | (simp; done) | (simp [*]; done)), (by first | rfl | (simp; done) | (simp [*]; done)), H', ⟨by have := HK1.out; omega⟩, ⟨by exact zp51_1_ HI0.out⟩, ⟨by exact zp51_3_ HK.out⟩, ⟨by exact zp51_2_ HB.out (IsS125.ge HI0.out)⟩⟩
        · rw [if_neg c7] at H
          exact absurd H (by simp)
      · rw [if_neg c5] at H
        have c5b0 : decide (al < ao) = false := decide_eq_false c5
        clear c5
        simp only [Option.some.injEq, Prod.mk.injEq] at H
        obtain ⟨rfl, rfl, rfl⟩ := H
        go_wp2
        go_ret
        exact ⟨by first | rfl | (simp [errW_none, errW_some] <;> rfl) | (simp [*, errW_none, errW_some] <;> rfl), by exact zp51_1_ HI0.out, by exact zp51_2_ HB.out (IsS125.ge HI0.out), by exact zp51_3_ HK.out⟩
def spec_l2Any.f (k : Nat) (s0_0 : List Int) (s0_1 : Int) (s0_2 : Int) : Option (ByteArray × Int × Int) := (spec_l2Word.f k s0_0 s0_1 s0_2 6).bind fun bt899 => ((spec_l1Pick.f s0_0 bt899.2.1 bt899.2.2 (([(⟨#[]⟩ : ByteArray), (⟨#[97]⟩ : ByteArray), (⟨#[97, 98, 99]⟩ : ByteArray), (⟨#[99, 99]⟩ : ByteArray), (⟨#[97, 98, 100]⟩ : ByteArray), (⟨#[65]⟩ : ByteArray), (⟨#[99, 99, 99, 99, 99, 99, 99, 99, 99, 99, 99, 99, 99, 99, 99, 99, 99, 99, 99, 99, 99, 99, 99, 99, 99, 99, 99, 99, 99, 99]⟩ : ByteArray), (⟨#[97, 97, 97, 97, 97, 97, 97, 97, 97, 97, 97, 97, 97, 97, 97, 97, 97, 97, 97, 97, 97, 97, 97, 97, 97, 97, 97, 97, 97, 97, 97]⟩ : ByteArray), (⟨#[97, 99, 99]⟩ : ByteArray), bt899.1] : List ByteArray))).bind fun bt905 => (some (bt905.1, bt905.2.1, bt905.2.2)))
theorem spec_l2Any.mono : ∀ a0 a1 a2 k, LeO (spec_l2Any.f k a0 a1 a2) (spec_l2Any.f (k + 1) a0 a1 a2) := by
  intro a0 a1 a2 k
  unfold spec_l2Any.f
  repeat' first
      | (with_reducible exact spec_l2Word.mono _ _ _ _ _)
      | (with_reducible exact LeO.refl _)
      | (with_reducible exact LeO.none _)
      | (with_reducible refine LeO.ite ?_ ?_)
      | (with_reducible refine LeO.bind ?_ (fun _ => ?_))
      | exact spec_l2Word.mono _ _ _ _ _
      | exact LeO.none _
      | refine LeO.ite ?_ ?_
      | refine LeO.bind ?_ (fun _ => ?_)
set_option maxHeartbeats 8000000 in
set_option maxRecDepth 100000 in
theorem spec_l2Any.calls (k : Nat) (g : Nat) (s0_0 : List Int) (s0_1 : Int) (s0_2 : Int) (r1 : ByteArray) (r2 : Int) (r3 : Int) (w0 w : World) (hI : IsS125 w0 w g s0_0 s0_1 s0_2) (hB : Below w0.heap.size w0 w) (h : spec_l2Any.f k s0_0 s0_1 s0_2 = some (r1, r2, r3)) :
    Calls Try.prog 108 #[.pointer (some ⟨g, 0, none⟩)] w fun e w' => e = .returned (.string r1) ∧ IsS125 w0 w' g s0_0 r2 r3 ∧ Below w0.heap.size w0 w' ∧ KeepBut w w' g none := by
  have HI0 := am_ hI
  have HK := am_ (KeepBut.refl w g none)
  have HL := am_ hB.size
  clear hI
  have HW0 := am_ hB.size
  have HB := am_ hB
  clear hB
  have H : ((spec_l2Word.f k s0_0 s0_1 s0_2 6).bind fun bt899 => ((spec_l1Pick.f s0_0 bt899.2.1 bt899.2.2 (([(⟨#[]⟩ : ByteArray), (⟨#[97]⟩ : ByteArray), (⟨#[97, 98, 99]⟩ : ByteArray), (⟨#[99, 99]⟩ : ByteArray), (⟨#[97, 98, 100]⟩ : ByteArray), (⟨#[65]⟩ : ByteArray), (⟨#[99, 99, 99, 99, 99, 99, 99, 99, 99, 99, 99, 99, 99, 99, 99, 99, 99, 99, 99, 99, 99, 99, 99, 99, 99, 99, 99, 99, 99, 99]⟩ : ByteArray), (⟨#[97, 97, 97, 97, 97, 97, 97, 97, 97, 97, 97, 97, 97, 97, 97, 97, 97, 97, 97, 97, 97, 97, 97, 97, 97, 97, 97, 97, 97, 97, 97]⟩ : ByteArray), (⟨#[97, 99, 99]⟩ : ByteArray), bt899.1] : List ByteArray))).bind fun bt905 => (some (bt905.1, bt905.2.1, bt905.2.2)))) = some (r1, r2, r3) := h
  clear h
  replace H := Option.bind_eq_some_iff.mp H
  obtain ⟨⟨ap, au, av⟩, A20, H⟩ := H
  have A2 := am_ A20
  clear A20
  obtain ⟨aA, hy902⟩ : ∃ y_ : List ByteArray, y_ = (([(⟨#[]⟩ : ByteArray), (⟨#[97]⟩ : ByteArray), (⟨#[97, 98, 99]⟩ : ByteArray), (⟨#[99, 99]⟩ : ByteArray), (⟨#[97, 98, 100]⟩ : ByteArray), (⟨#[65]⟩ : ByteArray), (⟨#[99, 99, 99, 99, 99, 99, 99, 99, 99, 99, 99, 99, 99, 99, 99, 99, 99, 99, 99, 99, 99, 99, 99, 99, 99, 99, 99, 99, 99, 99]⟩ : ByteArray), (⟨#[97, 97, 97, 97, 97, 97, 97, 97, 97, 97, 97, 97, 97, 97, 97, 97, 97, 97, 97, 97, 97, 97, 97, 97, 97, 97, 97, 97, 97, 97, 97]⟩ : ByteArray), (⟨#[97, 99, 99]⟩ : ByteArray), ap] : List ByteArray)) := ⟨_, rfl⟩
  replace H : ((spec_l1Pick.f s0_0 au av aA).bind fun bt905 => (some (bt905.1, bt905.2.1, bt905.2.2))) = some (r1, r2, r3) := by first | (rw [hy902]; with_reducible exact H) | (have H2_ := (Option.bind_some _ _).symm.trans H; rw [hy902]; with_reducible exact H2_) | (have H2_ := (Option.bind_some _ _).symm.trans H; with_reducible exact H2_) | with_reducible exact H | (rw [hy902]; exact H) | exact H
  have aI := am_ hy902
  clear hy902
  replace H := Option.bind_eq_some_iff.mp H
  obtain ⟨⟨aT, aU, aV⟩, A30, H⟩ := H
  replace H : (some (aT, aU, aV)) = some (r1, r2, r3) := H
  have A3 := am_ A30
  clear A30
  simp only [Option.some.injEq, Prod.mk.injEq] at H
  obtain ⟨rfl, rfl, rfl⟩ := H
  go_enter Try.func108, Try.ntmps108
  go_wp2_with (first | ((with_reducible refine gate_callee (f := 131) rfl ?_); refine gL_ (some 5) Try.func131 #[.pointer (some ⟨g, 0, none⟩), .int .i64 6] ?_; (with_reducible refine (spec_l2Word.calls k g s0_0 s0_1 s0_2 6 ap au av w0 _ ?side1 ?side2 A2.out).mono ?_); (case side1 => exact zp51_1_ HI0.out); (case side2 => exact zp51_2_ HB.out (IsS125.ge HI0.out)); rintro e w4 ⟨rfl, hi, hb, hk⟩; refine ⟨_, rfl, ?_⟩; have n0_ := am_ (KeepBut.trans (k0_ HK.out) hk (.inl rfl)); have n1_ := am_ (hb); have n2_ := am_ (hi); clear HK; clear HB; clear HI0; have HK := n0_; have HB := n1_; have HI0 := n2_; clear n0_ n1_ n2_; (try clear hb); (try clear hb2); (try clear hk); (try clear hi)) | ((with_reducible refine gate_dst (N := 6) rfl ?_); refine Kd.R_lit Kd.string _ 9 ?hg (N := 6) ?hd (xs := ([(⟨#[]⟩ : ByteArray), (⟨#[97]⟩ : ByteArray), (⟨#[97, 98, 99]⟩ : ByteArray), (⟨#[99, 99]⟩ : ByteArray), (⟨#[97, 98, 100]⟩ : ByteArray), (⟨#[65]⟩ : ByteArray), (⟨#[99, 99, 99, 99, 99, 99, 99, 99, 99, 99, 99, 99, 99, 99, 99, 99, 99, 99, 99, 99, 99, 99, 99, 99, 99, 99, 99, 99, 99, 99]⟩ : ByteArray), (⟨#[97, 97, 97, 97, 97, 97, 97, 97, 97, 97, 97, 97, 97, 97, 97, 97, 97, 97, 97, 97, 97, 97, 97, 97, 97, 97, 97, 97, 97, 97, 97]⟩ : ByteArray), (⟨#[97, 99, 99]⟩ : ByteArray), ap] : List ByteArray)) (inner := [.string (⟨#[]⟩ : ByteArray), .string (⟨#[97]⟩ : ByteArray), .string (⟨#[97, 98, 99]⟩ : ByteArray), .string (⟨#[99, 99]⟩ : ByteArray), .string (⟨#[97, 98, 100]⟩ : ByteArray), .string (⟨#[65]⟩ : ByteArray), .string (⟨#[99, 99, 99, 99, 99, 99, 99, 99, 99, 99, 99, 99, 99, 99, 99, 99, 99, 99, 99, 99, 99, 99, 99, 99, 99, 99, 99, 99, 99, 99]⟩ : ByteArray), .string (⟨#[97, 97, 97, 97, 97, 97, 97, 97, 97, 97, 97, 97, 97, 97, 97, 97, 97, 97, 97, 97, 97, 97, 97, 97, 97, 97, 97, 97, 97, 97, 97]⟩ : ByteArray), .string (⟨#[97, 99, 99]⟩ : ByteArray), .string ap]) (ok := fun _ => True) (okp := fun _ => True) ?hr ?hp (fun _ hk => hk) trivial (Below.refl _ _) (Nat.le_refl _) (by simp) ?_; (case hd => rfl); (case hg => rfl); (case hr => first | (go_simp; done) | (go_simp; rfl)); (case hp => exact (Reps.one (show Kd.M Kd.string _ _ _ (⟨#[]⟩ : ByteArray) [.string (⟨#[]⟩ : ByteArray)] from rfl) (Reps.one (show Kd.M Kd.string _ _ _ (⟨#[97]⟩ : ByteArray) [.string (⟨#[97]⟩ : ByteArray)] from rfl) (Reps.one (show Kd.M Kd.string _ _ _ (⟨#[97, 98, 99]⟩ : ByteArray) [.string (⟨#[97, 98, 99]⟩ : ByteArray)] from rfl) (Reps.one (show Kd.M Kd.string _ _ _ (⟨#[99, 99]⟩ : ByteArray) [.string (⟨#[99, 99]⟩ : ByteArray)] from rfl) (Reps.one (show Kd.M Kd.string _ _ _ (⟨#[97, 98, 100]⟩ : ByteArray) [.string (⟨#[97, 98, 100]⟩ : ByteArray)] from rfl) (Reps.one (show Kd.M Kd.string _ _ _ (⟨#[65]⟩ : ByteArray) [.string (⟨#[65]⟩ : ByteArray)] from rfl) (Reps.one (show Kd.M Kd.string _ _ _ (⟨#[99, 99, 99, 99, 99, 99, 99, 99, 99, 99, 99, 99, 99, 99, 99, 99, 99, 99, 99, 99, 99, 99, 99, 99, 99, 99, 99, 99, 99, 99]⟩ : ByteArray) [.string (⟨#[99, 99, 99, 99, 99, 99, 99, 99, 99, 99, 99, 99, 99, 99, 99, 99, 99, 99, 99, 99, 99, 99, 99, 99, 99, 99, 99, 99, 99, 99]⟩ : ByteArray)] from rfl) (Reps.one (show Kd.M Kd.string _ _ _ (⟨#[97, 97, 97, 97, 97, 97, 97, 97, 97, 97, 97, 97, 97, 97, 97, 97, 97, 97, 97, 97, 97, 97, 97, 97, 97, 97, 97, 97, 97, 97, 97]⟩ : ByteArray) [.string (⟨#[97, 97, 97, 97, 97, 97, 97, 97, 97, 97, 97, 97, 97, 97, 97, 97, 97, 97, 97, 97, 97, 97, 97, 97, 97, 97, 97, 97, 97, 97, 97]⟩ : ByteArray)] from rfl) (Reps.one (show Kd.M Kd.string _ _ _ (⟨#[97, 99, 99]⟩ : ByteArray) [.string (⟨#[97, 99, 99]⟩ : ByteArray)] from rfl) (Reps.one (show Kd.M Kd.string _ _ _ ap [.string ap] from rfl) (Reps.none _ _)))))))))))); intro bg w5 ho6 hb hg_ hnew_; clear hg_ hnew_; (first | rw [← aI.out] at ho6 | (simp only [Int.reduceToNat] at ho6; rw [← aI.out] at ho6)); have n0_ := am_ (Kd.R_lower ho6 (keep_size (w := w) (g := g) (row := none) (k0_ HK.out))); have n1_ := am_ (IsS125.below (zp51_1_ HI0.out) hb); have n2_ := am_ (KeepBut.trans (k0_ HK.out) (KeepBut.of_below hb g none) (.inl rfl)); have n3_ := am_ (below_step (b1_ HB.out (IsS125.ge HI0.out)) hb); clear HI0; clear HK; clear HB; have ah := n0_; have HI0 := n1_; have HK := n2_; have HB := n3_; clear n0_ n1_ n2_ n3_; clear hb ho6; obtain ⟨Ao7, co7, eo7⟩ := Kd.R_slice ah.out; subst eo7) | ((with_reducible refine gate_callee (f := 130) rfl ?_); refine gL_ (some 7) Try.func130 #[.pointer (some ⟨g, 0, none⟩), .slice Ao7 aA.length co7] ?_; (with_reducible refine (spec_l1Pick.calls g s0_0 au av _ _ aA aT aU aV w0 _ ?side1 ?side2 ?side3 ?side4 ?side5 A3.out).mono ?_); (case side1 => exact zp51_1_ HI0.out); (case side2 => exact zp51_2_ HB.out (IsS125.ge HI0.out)); (case side3 => exact rc_ ((Kd.R_reads' ah.out).2.2)); (case side4 => exact (Kd.R_reads' ah.out).2.1); (case side5 => exact far_slice (IsS125.own_ne HI0.out ah.out (by decide))); rintro e w8 ⟨rfl, hi, hb, hk⟩; refine ⟨_, rfl, ?_⟩; have n0_ := am_ (Kd.R_mono (Kd.R_keep (IsS125.apart (show IsS125 w0 _ g s0_0 au av from by exact zp51_1_ HI0.out) (rr_ ah.out) (by decide)) hk (fun _ h => h.2)) (fun _ h => h.1)); have n1_ := am_ (KeepBut.trans (k0_ HK.out) hk (.inl rfl)); have n2_ := am_ (hb); have n3_ := am_ (hi); clear ah; clear HK; clear HB; clear HI0; have ah := n0_; have HK := n1_; have HB := n2_; have HI0 := n3_; clear n0_ n1_ n2_ n3_; (try clear hb); (try clear hb2); (try clear hk); (try clear hi)))
  go_ret
  exact ⟨by first | rfl | (simp [errW_none, errW_some] <;> rfl) | (simp [*, errW_none, errW_some] <;> rfl), by exact zp51_1_ HI0.out, by exact zp51_2_ HB.out (IsS125.ge HI0.out), by exact zp51_3_ HK.out⟩
end Go.Proofs.Ytogamkblkoobkaa.P
end
section
namespace Go.Proofs.Ytogamkblkoobkaa.Pl
open Go.RowKit Go.Proofs.Ytogamkblkoobkaa.P Go.Proofs.YtogamkblkoobkaaW.PrintWords Go.Proofs.YtogamkblkoobkaaW.PrintLast Go.Proofs.YtogamkblkoobkaaW.PrintMore
set_option linter.unusedVariables false
set_option linter.unusedSimpArgs false
theorem new_l0 (b : List Int) (hb : b.length ≤ 140737488351232) : ∀ (d i : Nat) (h : Int), i + d = b.length → ∃ r, Ev (fun k => spec_l1New.l0 k b h i) (b, 0, r) := by
  intro d
  induction d with
  | zero =>
    intro i h e
    refine ⟨h, next ?_⟩
    simp only [spec_l1New.l0, if_neg (show ¬ (i : Int) < (b.length : Int) by omega)]
    exact Ev.now _
  | succ d ih =>
    intro i h e
    by_cases hi : (i : Int) < 4000
    · obtain ⟨r, hr⟩ := ih (i + 1) (Go.bits .and .i64 (wrap64 ((wrap64 ((wrap64 (h * 131)) + (wrap64 (rd b i)))) + 7)) 1073741823) (by omega)
      refine ⟨r, next ?_⟩
      simp only [spec_l1New.l0, if_pos (show (i : Int) < (b.length : Int) by omega), if_pos hi, if_pos (show (0 : Int) ≤ i by omega), up1 (show i < 9223372036854775807 by omega)]
      exact hr
    · refine ⟨h, next ?_⟩
      simp only [spec_l1New.l0, if_pos (show (i : Int) < (b.length : Int) by omega), if_neg hi]
      exact Ev.now _
theorem new (b : List Int) (hb : b.length ≤ 140737488351232) : ∃ r, Ev (fun k => spec_l1New.f k b) (b, 0, r) := by
  simp only [spec_l1New.f]
  exact new_l0 b hb b.length 0 _ (by omega)
theorem and255 (x : Int) : 0 ≤ Go.bits .and .i64 x 255 ∧ Go.bits .and .i64 x 255 ≤ 255 := by
  have h : (BitVec.ofInt 64 x &&& BitVec.ofInt 64 255).toNat ≤ 255 := by
    rw [BitVec.toNat_and]
    exact Nat.and_le_right
  have e : Go.bits .and .i64 x 255 = ((BitVec.ofInt 64 x &&& BitVec.ofInt 64 255).toNat : Int) := by
    show IntKind.i64.wrap ((BitVec.ofInt 64 x &&& BitVec.ofInt 64 255).toNat : Int) = _
    rw [IntKind.wrap_i64]
    omega
  omega
def Cur (b : List Int) (i : Int) : Prop := 0 ≤ i ∧ i ≤ b.length
theorem byte (b : List Int) (hb : b.length ≤ 140737488351232) (i h : Int) (hi : Cur b i) : ∃ x i' h', spec_l1Byte.f b i h = some (x, i', h') ∧ 0 ≤ x ∧ x ≤ 255 ∧ Cur b i' := by
  unfold Cur at hi ⊢
  by_cases hl : i < (b.length : Int)
  · unfold spec_l1Byte.f
    rw [if_pos hl, if_pos hi.1, w64 (show -9223372036854775808 ≤ i + 1 by omega) (by omega)]
    exact ⟨_, _, _, rfl, (and255 _).1, (and255 _).2, by omega, by omega⟩
  · unfold spec_l1Byte.f
    rw [if_neg hl]
    exact ⟨_, _, _, rfl, (and255 _).1, (and255 _).2, by omega, by omega⟩
theorem below (b : List Int) (hb : b.length ≤ 140737488351232) (i h : Int) (hi : Cur b i) (n : Int) (hn : 0 < n) (hn2 : n ≤ 256) : ∃ x i' h', spec_l1Below.f b i h n = some (x, i', h') ∧ 0 ≤ x ∧ x < n ∧ Cur b i' := by
  obtain ⟨x, i', h', e, hx, hx2, hc⟩ := byte b hb i h hi
  refine ⟨x % n, i', h', ?_, by exact Int.emod_nonneg _ (by omega), Int.emod_lt_of_pos _ hn, hc⟩
  simp only [spec_l1Below.f, if_neg (show ¬ n ≤ 0 by omega), if_pos hn2, e, Option.bind_some, if_neg (show ¬ n = 0 by omega), Int.tmod_eq_emod_of_nonneg hx]
theorem pick (b : List Int) (hb : b.length ≤ 140737488351232) (i h : Int) (hi : Cur b i) (l : List ByteArray) (hn : 0 < l.length) (hn2 : l.length ≤ 256) : ∃ x i' h', spec_l1Pick.f b i h l = some (x, i', h') ∧ x ∈ l ∧ Cur b i' := by
  obtain ⟨x, i', h', e, hx, hx2, hc⟩ := below b hb i h hi l.length (by omega) (by omega)
  obtain ⟨m, rfl⟩ : ∃ m : Nat, x = m := ⟨x.toNat, by omega⟩
  refine ⟨l[m]'(by omega), i', h', ?_, List.getElem_mem _, hc⟩
  simp only [spec_l1Pick.f, e, Option.bind_some, if_pos hx, if_pos hx2, rdOf_get _ l m (by omega)]
theorem pickInt (b : List Int) (hb : b.length ≤ 140737488351232) (i h : Int) (hi : Cur b i) (l : List Int) (hn : 0 < l.length) (hn2 : l.length ≤ 256) : ∃ x i' h', spec_l1PickInt.f b i h l = some (x, i', h') ∧ x ∈ l ∧ Cur b i' := by
  obtain ⟨x, i', h', e, hx, hx2, hc⟩ := below b hb i h hi l.length (by omega) (by omega)
  obtain ⟨m, rfl⟩ : ∃ m : Nat, x = m := ⟨x.toNat, by omega⟩
  refine ⟨l[m]'(by omega), i', h', ?_, List.getElem_mem _, hc⟩
  simp only [spec_l1PickInt.f, e, Option.bind_some, if_pos hx, if_pos hx2, rd_get l m (by omega)]
theorem cur0 (b : List Int) : Cur b 0 := ⟨by omega, by omega⟩
end Go.Proofs.Ytogamkblkoobkaa.Pl
end
section
namespace Go.Proofs.Ytogamkblkoobkaa.P
open Go.RowKit Go.Proofs.YtogamkblkoobkaaW.PrintWords Go.Proofs.YtogamkblkoobkaaW.PrintLast Go.Proofs.YtogamkblkoobkaaW.PrintMore
attribute [local go_sem] max2_int min2_int max_two min_two max_three min_three max_four min_four
set_option linter.unusedVariables false
set_option linter.unusedSimpArgs false
mutual
def spec_l5Draw.l0 : Nat → Int → Int → List Int → Int → Int → List Bool → List (List Int) → Option (List Bool × (List (List Int)) × Int × Int)
  | 0, _, _, _, _, _, _, _ => none
  | k + 1, x5, x7, aM, aQ, aR, aC, aD => if x7 < x5 then ((spec_l1Once.f aM aQ aR 2).bind fun bt551 => (if aC.length < 140737488355328 then (spec_l5Draw.l1 k x5 x7 (([] : List Int)) 0 aM bt551.2.1 bt551.2.2 (aC ++ [bt551.1]) aD) else (none))) else (some (aC, aD, aQ, aR))
def spec_l5Draw.l1 : Nat → Int → Int → List Int → Int → List Int → Int → Int → List Bool → List (List Int) → Option (List Bool × (List (List Int)) × Int × Int)
  | 0, _, _, _, _, _, _, _, _, _ => none
  | k + 1, x5, x7, x8, x9, aM, aQ, aR, aC, aD => if x9 < 3 then ((spec_l1Below.f aM aQ aR x5).bind fun bt560 => (if x8.length < 17592186044416 then (spec_l5Draw.l1 k x5 x7 (x8 ++ [bt560.1]) (wrap64 (x9 + 1)) aM bt560.2.1 bt560.2.2 aC aD) else (none))) else (if aD.length < 5864062014805 then (spec_l5Draw.l0 k x5 (wrap64 (x7 + 1)) aM aQ aR aC (aD ++ [x8])) else (none))
end
def spec_l5Draw.f (k : Nat) (s0_0 : List Int) (s0_1 : Int) (s0_2 : Int) (a1 : Int) : Option (List Bool × (List (List Int)) × Int × Int) := (spec_l1Below.f s0_0 s0_1 s0_2 a1).bind fun bt547 => (spec_l5Draw.l0 k (wrap64 (1 + bt547.1)) 0 s0_0 bt547.2.1 bt547.2.2 ([] : List Bool) ([] : List (List Int)))
theorem spec_l5Draw.mono_l : ∀ k, (∀ y0 y1 y2 y3 y4 y5 y6, LeO (spec_l5Draw.l0 k y0 y1 y2 y3 y4 y5 y6) (spec_l5Draw.l0 (k + 1) y0 y1 y2 y3 y4 y5 y6)) ∧ (∀ y0 y1 y2 y3 y4 y5 y6 y7 y8, LeO (spec_l5Draw.l1 k y0 y1 y2 y3 y4 y5 y6 y7 y8) (spec_l5Draw.l1 (k + 1) y0 y1 y2 y3 y4 y5 y6 y7 y8))
 | 0 => ⟨fun _ _ _ _ _ _ _ r h => by simp [spec_l5Draw.l0] at h, fun _ _ _ _ _ _ _ _ _ r h => by simp [spec_l5Draw.l1] at h⟩
 | k + 1 => by
  obtain ⟨ih0, ih1⟩ := spec_l5Draw.mono_l k
  refine ⟨?_, ?_⟩
  ·intro y0 y1 y2 y3 y4 y5 y6
   unfold spec_l5Draw.l0
   repeat' first
   | (with_reducible exact ih0 _ _ _ _ _ _ _)
   | (with_reducible exact ih1 _ _ _ _ _ _ _ _ _)
   | (with_reducible exact LeO.refl _)
   | (with_reducible exact LeO.none _)
   | (with_reducible refine LeO.ite ?_ ?_)
   | (with_reducible refine LeO.bind ?_ (fun _ => ?_))
   | exact ih0 _ _ _ _ _ _ _
   | exact ih1 _ _ _ _ _ _ _ _ _
   | exact LeO.none _
   | refine LeO.ite ?_ ?_
   | refine LeO.bind ?_ (fun _ => ?_)
  ·intro y0 y1 y2 y3 y4 y5 y6 y7 y8
   unfold spec_l5Draw.l1
   repeat' first
   | (with_reducible exact ih0 _ _ _ _ _ _ _)
   | (with_reducible exact ih1 _ _ _ _ _ _ _ _ _)
   | (with_reducible exact LeO.refl _)
   | (with_reducible exact LeO.none _)
   | (with_reducible refine LeO.ite ?_ ?_)
   | (with_reducible refine LeO.bind ?_ (fun _ => ?_))
   | exact ih0 _ _ _ _ _ _ _
   | exact ih1 _ _ _ _ _ _ _ _ _
   | exact LeO.none _
   | refine LeO.ite ?_ ?_
   | refine LeO.bind ?_ (fun _ => ?_)
theorem spec_l5Draw.mono : ∀ a0 a1 a2 a3 k, LeO (spec_l5Draw.f k a0 a1 a2 a3) (spec_l5Draw.f (k + 1) a0 a1 a2 a3) := by
 intro a0 a1 a2 a3 k
 obtain ⟨ih0, ih1⟩ := spec_l5Draw.mono_l k
 unfold spec_l5Draw.f
 repeat' first
   | (with_reducible exact ih0 _ _ _ _ _ _ _)
   | (with_reducible exact ih1 _ _ _ _ _ _ _ _ _)
   | (with_reducible exact LeO.refl _)
   | (with_reducible exact LeO.none _)
   | (with_reducible refine LeO.ite ?_ ?_)
   | (with_reducible refine LeO.bind ?_ (fun _ => ?_))
   | exact ih0 _ _ _ _ _ _ _
   | exact ih1 _ _ _ _ _ _ _ _ _
   | exact LeO.none _
   | refine LeO.ite ?_ ?_
   | refine LeO.bind ?_ (fun _ => ?_)
def spec_l5Draw.T6 : Bool × List (List Nat × List Nat) := (true, [([], []), ([0], [0]), ([], []), ([2], [2]), ([3], [3]), ([1, 4, 3], [1, 4]), ([0, 1, 2, 3, 4, 5], []), ([6, 5, 5, 0, 1, 2, 3, 4, 5], [5, 6])])
def spec_l5Draw.B6 : List Nat := [0, 1, 0, 4, 12, 31, 63, 127]
theorem spec_l5Draw.tab6 : rtab .any (opsOf Try.f86 6) = spec_l5Draw.T6 := by kernel_rfl
theorem spec_l5Draw.bits6 : waitsOk spec_l5Draw.T6.2 spec_l5Draw.B6 = true := by kernel_rfl
theorem zp35_0_ {p q g1 : Prop} (h : p) (h1 : g1) (c : p → g1 → q := by intro h_ h1_; repeat (first | (with_reducible first | exact h_ | apply IsS125.alloc | apply IsS125.drewN | apply IsS125.drew | apply IsS125.set_1 | apply IsS125.set_2 | refine IsS125.far ?_ h1_ _) | exact h_)) : q := c h h1
theorem zp35_1_ {p q g1 g2 : Prop} (h : p) (h1 : g1) (h2 : g2) (c : p → g1 → g2 → q := by intro h_ h1_ h2_; repeat (first | (with_reducible first | exact h_ | apply IsS125.alloc | apply IsS125.drewN | apply IsS125.drew | apply IsS125.set_1 | apply IsS125.set_2 | refine IsS125.far ?_ h1_ _ | refine IsS125.far ?_ h2_ _) | exact h_)) : q := c h h1 h2
theorem zp35_2_ {p q g1 g2 : Prop} (h : p) (h1 : g1) (h2 : g2) (c : p → g1 → g2 → q := by intro h_ h1_ h2_; repeat (first | (with_reducible first | exact h_ | apply KeepBut.set_ | apply keep_drewN | apply keep_drew | apply keep_alloc | refine keep_far ?_ h1_ _ | refine keep_far ?_ h2_ _) | exact h_)) : q := c h h1 h2
theorem zp35_3_ {p q g1 g2 g3 : Prop} (h : p) (h1 : g1) (h2 : g2) (h3 : g3) (c : p → g1 → g2 → g3 → q := by intro h_ h1_ h2_ h3_; repeat (first | (with_reducible first | exact h_ | apply below_alloc | apply pw_below_drewN | apply below_drew1 | refine below_set ?_ h1_ | refine below_set ?_ h2_ | refine below_set ?_ h3_) | exact h_)) : q := c h h1 h2 h3
set_option maxHeartbeats 8000000 in
set_option maxRecDepth 100000 in
theorem spec_l5Draw.calls (k : Nat) (g : Nat) (s0_0 : List Int) (s0_1 : Int) (s0_2 : Int) (a1 : Int) (r1 : List Bool) (r2 : List (List Int)) (r3 : Int) (r4 : Int) (w0 w : World) (hI : IsS125 w0 w g s0_0 s0_1 s0_2) (hB : Below w0.heap.size w0 w) (h : spec_l5Draw.f k s0_0 s0_1 s0_2 a1 = some (r1, r2, r3, r4)) :
  Calls Try.prog 86 #[.pointer (some ⟨g, 0, none⟩), .int .i64 a1] w fun e w' => ∃ v0_ v1_ : Value, e = .returned (.agg #[v0_, v1_]) ∧ Kd.R Kd.bool 4 w' w.heap.size (fun _ => True) v0_ r1 ∧ Kd.S (Kd.slice 3 (Kd.int .i64)) 67 w' w.heap.size (fun _ => True) v1_ r2 ∧ IsS125 w0 w' g s0_0 r3 r4 ∧ Below w0.heap.size w0 w' ∧ KeepBut w w' g none := by
 have hu27 := Try.underlying27
 have HI0 := am_ hI
 have HK := am_ (KeepBut.refl w g none)
 have HL := am_ hB.size
 clear hI
 have HW0 := am_ hB.size
 have HB := am_ hB
 clear hB
 have H : ((spec_l1Below.f s0_0 s0_1 s0_2 a1).bind fun bt547 => (spec_l5Draw.l0 k (wrap64 (1 + bt547.1)) 0 s0_0 bt547.2.1 bt547.2.2 ([] : List Bool) ([] : List (List Int)))) = some (r1, r2, r3, r4) := h
 clear h
 replace H := Option.bind_eq_some_iff.mp H
 obtain ⟨⟨aA, aX, aY⟩, A30, H⟩ := H
 have A3 := am_ A30
 clear A30
 have H' := am_ H
 clear H
 go_enter Try.func86, Try.ntmps86
 go_wp2_with (first | ((with_reducible refine gate_dst (N := 4) rfl ?_); refine box_event ?hg (N := 4) ?hd (cs := #[.slice none 0 0, .slice none 0 0]) (t := 27) ?hr ?_; (case hd => rfl); (case hg => rfl); (case hr => first | (go_simp; done) | (go_simp; rfl)); intro ak hg w4 hbox hb; have n0_ := am_ (IsS125.below (by repeat (first | (with_reducible first | exact HI0.out | apply IsS125.alloc | apply IsS125.drewN | apply IsS125.drew | apply IsS125.set_1 | apply IsS125.set_2) | exact HI0.out)) hb); have n1_ := am_ (KeepBut.trans (k0_ HK.out) (KeepBut.of_below hb g none) (.inl rfl)); have n2_ := am_ (below_step (b1_ HB.out (IsS125.ge HI0.out)) hb); have n3_ := am_ (hbox); have n4_ := am_ ((by rw [hg]; exact (keep_size (w := w) (g := g) (row := none) (k0_ HK.out)) : w.heap.size ≤ ak)); have n5_ := am_ ((Nat.le_trans HW0.out (by rw [hg]; exact (keep_size (w := w) (g := g) (row := none) (k0_ HK.out)) : w.heap.size ≤ ak) : w0.heap.size ≤ ak)); have n6_ := am_ ((by rw [hg]; exact Nat.ne_of_lt (IsS125.lt (show IsS125 w0 _ g s0_0 s0_1 s0_2 from by repeat (first | (with_reducible first | exact HI0.out | apply IsS125.alloc | apply IsS125.drewN | apply IsS125.drew | apply IsS125.set_1 | apply IsS125.set_2) | exact HI0.out))) : g ≠ ak)); have n7_ := am_ ((by rw [hg]; exact Nat.ne_of_gt (IsS125.lt (show IsS125 w0 _ g s0_0 s0_1 s0_2 from by repeat (first | (with_reducible first | exact HI0.out | apply IsS125.alloc | apply IsS125.drewN | apply IsS125.drew | apply IsS125.set_1 | apply IsS125.set_2) | exact HI0.out))) : ak ≠ g)); clear HI0; clear HK; clear HB; have HI0 := n0_; have HK := n1_; have HB := n2_; have ae := n3_; have al := n4_; have ar := n5_; have af := n6_; have aN := n7_; clear n0_ n1_ n2_ n3_ n4_ n5_ n6_ n7_; clear hb hbox hg) | ((with_reducible refine gate_callee (f := 107) rfl ?_); refine gL_ (some 12) Try.func107 #[.pointer (some ⟨g, 0, none⟩), .int .i64 a1] ?_; (with_reducible refine (spec_l1Below.calls g s0_0 s0_1 s0_2 a1 aA aX aY w0 _ ?side1 ?side2 A3.out).mono ?_); (case side1 => exact zp35_0_ HI0.out af.out); (case side2 => repeat (first | (with_reducible first | exact HB.out | apply below_alloc | apply pw_below_drewN | apply below_drew1 | refine below_set ?_ (IsS125.ge HI0.out) | refine below_set ?_ ar.out) | exact HB.out)); rintro e w5 ⟨rfl, hi, hb, hk⟩; refine ⟨_, rfl, ?_⟩; have n0_ := am_ (KeepBut.blk hk (g' := ak) (o := .cells #[.slice none 0 0, .slice none 0 0] 27 (0, 0)) (rb_ ae.out) aN.out (by simp)); have n1_ := am_ (KeepBut.trans (k1_ HK.out al.out) hk (.inl rfl)); have n2_ := am_ (hb); have n3_ := am_ (hi); clear ae; clear HK; clear HB; clear HI0; have ae := n0_; have HK := n1_; have HB := n2_; have HI0 := n3_; clear n0_ n1_ n2_ n3_; (try clear hb); (try clear hb2); (try clear hk); (try clear hi)) | ((with_reducible refine gate_dst (N := 6) rfl ?_); refine box_event ?hg (N := 6) ?hd (cs := #[.slice none 0 0, .slice none 0 0]) (t := 27) ?hr ?_; (case hd => rfl); (case hg => rfl); (case hr => first | (go_simp; done) | (go_simp; rfl)); intro aj hg w6 hbox hb; have n0_ := am_ (IsS125.below (zp35_0_ HI0.out af.out) hb); have n1_ := am_ (blk_below (rb_ ae.out) hb); have n2_ := am_ (KeepBut.trans (k1_ HK.out al.out) (KeepBut.of_below hb g none) (.inl rfl)); have n3_ := am_ (below_step (b2_ HB.out (IsS125.ge HI0.out) ar.out) hb); have n4_ := am_ (hbox); have n5_ := am_ ((by rw [hg]; exact (keep_size (w := w) (g := g) (row := none) (k1_ HK.out al.out)) : w.heap.size ≤ aj)); have n6_ := am_ ((Nat.le_trans HW0.out (by rw [hg]; exact (keep_size (w := w) (g := g) (row := none) (k1_ HK.out al.out)) : w.heap.size ≤ aj) : w0.heap.size ≤ aj)); have n7_ := am_ ((by rw [hg]; exact Nat.ne_of_lt (blk_lt (rb_ ae.out)) : ak ≠ aj)); have n8_ := am_ ((by rw [hg]; exact Nat.ne_of_gt (blk_lt (rb_ ae.out)) : aj ≠ ak)); have n9_ := am_ ((by rw [hg]; exact Nat.ne_of_lt (IsS125.lt (show IsS125 w0 _ g s0_0 aX aY from by exact zp35_0_ HI0.out af.out)) : g ≠ aj)); have n10_ := am_ ((by rw [hg]; exact Nat.ne_of_gt (IsS125.lt (show IsS125 w0 _ g s0_0 aX aY from by exact zp35_0_ HI0.out af.out)) : aj ≠ g)); clear HI0; clear ae; clear HK; clear HB; have HI0 := n0_; have ae := n1_; have HK := n2_; have HB := n3_; have aa := n4_; have ap := n5_; have aw := n6_; have ao := n7_; have aH := n8_; have ah := n9_; have aJ := n10_; clear n0_ n1_ n2_ n3_ n4_ n5_ n6_ n7_ n8_ n9_ n10_; clear hb hbox hg; have ch := aH.out; have ci := ao.out; have cj := aJ.out; have ck := ah.out; have bd := ck_ (v := (.slice none 0 0)) aa 0 rfl; have be := ck_ (v := (.slice none 0 0)) aa 1 rfl; have bf := blk_frozen aa.out 0; have bg := blk_frozen aa.out 1))
 go_loopg [7] k (fun kq v7 w' => ∃ (aB : Int) (aE : Int) (aG : Int) (am : List Bool) (ai : List (List Int)) (aq : Value) (ag : Value), v7 = .int .i64 aB ∧ Aside0 (spec_l5Draw.l0 kq (wrap64 (1 + aA)) aB s0_0 aE aG am ai = some (r1, r2, r3, r4)) ∧ Aside0 (kq ≤ k) ∧ Aside0 (Kd.R Kd.bool 4 w' w.heap.size (fun _ => True) aq am) ∧ Aside0 (Kd.S (Kd.slice 3 (Kd.int .i64)) 67 w' w.heap.size (fun _ => True) ag ai) ∧ Aside0 (w'.heap[ak]? = some (.cells #[(.slice none 0 0), (.slice none 0 0)] 27 (0, 0))) ∧ Aside0 (w'.heap[aj]? = some (.cells #[aq, ag] 27 (0, 0))) ∧ Aside0 (IsS125 w0 w' g s0_0 aE aG) ∧ Aside0 (KeepBut w w' g none) ∧ Aside0 (Below w0.heap.size w0 w'))
 case atStart => exact ⟨(0), (aX), (aY), (([] : List Bool)), (([] : List (List Int))), (.slice none 0 0), (.slice none 0 0), (by first | rfl | (simp; done) | (simp [*]; done)), H', ⟨Nat.le_refl _⟩, ⟨by first | exact Kd.R_nil _ _ _ _ _ | exact Kd.N_nil _ _ _ _ _ | exact Kd.V_nil _ _ _ _ _ | exact Kd.Q_nil _ _ _ _ _ | exact Kd.S_nil _ _ _ _ _⟩, ⟨by first | exact Kd.S_nil _ _ _ _ _ | exact Kd.N_nil _ _ _ _ _ | exact Kd.V_nil _ _ _ _ _ | exact Kd.Q_nil _ _ _ _ _ | exact Kd.R_nil _ _ _ _ _⟩, ⟨by refine rb_ ?_; refine blk_far ?_ ao.out _; refine rb_ ?_; refine blk_far ?_ ao.out _; refine rb_ ?_; exact ae.out⟩, ⟨by refine rb_ ?_; refine blk_put (cs := #[.slice none 0 0, .slice none 0 0]) ?_ 1 _ rfl; refine rb_ ?_; refine blk_put (cs := #[.slice none 0 0, .slice none 0 0]) ?_ 0 _ rfl; refine rb_ ?_; exact aa.out⟩, ⟨by exact zp35_1_ HI0.out af.out ah.out⟩, ⟨by exact zp35_2_ HK.out al.out ap.out⟩, ⟨by exact zp35_3_ HB.out (IsS125.ge HI0.out) ar.out aw.out⟩⟩
 case round =>
  clear H'
  try clear c1
  try clear p2
  try clear p6
  try clear c7
  try clear c8
  try clear bd
  try clear be
  try clear bf
  try clear bg
  obtain ⟨aB, aE, aG, am, ai, aq, ag, rfl, HA, HK1, ad, ab, ae, aa, HI0, HK, HB⟩ := hrel
  cases gk with
  | zero => exact absurd HA.out (by simp [spec_l5Draw.l0])
  | succ k1 =>
   have H := HA.out
   clear HA
   simp only [spec_l5Draw.l0] at H
   by_cases c10 : aB < (wrap64 (1 + aA))
   ·rw [if_pos c10] at H
    have c10b0 : decide (aB < (wrap64 (1 + aA))) = true := decide_eq_true c10
    clear c10
    replace H := Option.bind_eq_some_iff.mp H
    obtain ⟨⟨aZ, aU, aV⟩, bq, H⟩ := H
    have A11 := am_ bq
    clear bq
    by_cases c12 : am.length < 140737488355328
    ·rw [if_pos c12] at H
     have LMc12 := am_ c12
     clear c12
     obtain ⟨an, hy554⟩ : ∃ y_ : List Bool, y_ = (am ++ [aZ]) := ⟨_, rfl⟩
     replace H : (spec_l5Draw.l1 k1 (wrap64 (1 + aA)) aB (([] : List Int)) 0 s0_0 aU aV an ai) = some (r1, r2, r3, r4) := by first | (rw [hy554]; with_reducible exact H) | (have H2_ := (Option.bind_some _ _).symm.trans H; rw [hy554]; with_reducible exact H2_) | (have H2_ := (Option.bind_some _ _).symm.trans H; with_reducible exact H2_) | with_reducible exact H | (rw [hy554]; exact H) | exact H
     have bx := am_ hy554
     clear hy554
     obtain ⟨br, hy557⟩ : ∃ y_ : List Int, y_ = (([] : List Int)) := ⟨_, rfl⟩
     replace H : (spec_l5Draw.l1 k1 (wrap64 (1 + aA)) aB br 0 s0_0 aU aV an ai) = some (r1, r2, r3, r4) := by first | (rw [hy557]; with_reducible exact H) | (have H2_ := (Option.bind_some _ _).symm.trans H; rw [hy557]; with_reducible exact H2_) | (have H2_ := (Option.bind_some _ _).symm.trans H; with_reducible exact H2_) | with_reducible exact H | (rw [hy557]; exact H) | exact H
     have bo := am_ hy557
     clear hy557
     have H' := am_ H
     clear H
     try go_wp2
     replace ad := am_ (Kd.R_drew ad.out)
     replace ab := am_ (Kd.S_drew ab.out)
     replace ae := am_ (blk_drew ae.out)
     replace aa := am_ (blk_drew aa.out)
     replace HI0 := am_ (IsS125.drew HI0.out)
     replace HK := am_ (keep_drew HK.out)
     replace HB := am_ (below_drew1 HB.out)
     refine start_ (n := 8) (S := fun w' => w'.cell? ⟨aj, 0, none⟩ = some (aq) ∧ w'.cell? ⟨aj, 1, none⟩ = some (ag)) (ds := [7]) (bl 8 0) (by kernel_rfl) rfl rfl ⟨(blk_cell aa.out 0).trans rfl, (blk_cell aa.out 1).trans rfl⟩ (fun hHeld => ?_); refine with_tabW spec_l5Draw.tab6 spec_l5Draw.bits6 (fun HT_ HW_ => ?_)
     generalize wr.drew = w13 at ad ab ae aa HI0 HK HB hHeld ⊢
     refine pu_ 0 20 (bl 8 1) HT_ ?_
     refine pu_ 2 22 (bl 8 5) HT_ ?_
     refine tk_ 1 21 (bl 8 7) HT_ HW_ hHeld ?_
     refine on_ 3 (some 23) (bl 8 15) HT_ (fun K hK => ?_)
     refine gO_ Try.func87 #[.pointer (some ⟨g, 0, none⟩), .int .i64 2] ?_
     with_reducible refine (spec_l1Once.calls g s0_0 aE aG 2 aZ aU aV w0 _ ?side1 ?side2 A11.out).mono ?_
     (case side1 => exact zp35_1_ HI0.out af.out ah.out)
     (case side2 => exact zp35_3_ HB.out (IsS125.ge HI0.out) ar.out aw.out)
     rintro e w14 ⟨rfl, hi, hb, hk⟩
     refine ⟨_, rfl, ?_⟩
     replace ad := am_ (Kd.R_mono (Kd.R_keep (IsS125.apart (show IsS125 w0 _ g s0_0 aE aG from by exact zp35_1_ HI0.out af.out ah.out) (rr_ ad.out) (by decide)) hk (fun _ h => h.2)) (fun _ h => h.1))
     replace ab := am_ (Kd.S_mono (Kd.S_keep (IsS125.apartS (show IsS125 w0 _ g s0_0 aE aG from by exact zp35_1_ HI0.out af.out ah.out) (rs_ ab.out) (by decide)) hk (fun _ h => h.2)) (fun _ h => h.1))
     replace ae := am_ (KeepBut.blk hk (g' := ak) (o := .cells #[.slice none 0 0, .slice none 0 0] 27 (0, 0)) (rb_ ae.out) aN.out (by simp))
     replace aa := am_ (KeepBut.blk hk (g' := aj) (o := .cells #[aq, ag] 27 (0, 0)) (rb_ aa.out) aJ.out (by simp))
     replace HK := am_ (KeepBut.trans (k2_ HK.out al.out ap.out) hk (.inl rfl))
     replace HB := am_ (hb)
     replace HI0 := am_ (hi)
     (try clear hb)
     (try clear hb2)
     (try clear hk)
     (try clear hi)
     refine hK.out _ _ ⟨(blk_cell aa.out 0).trans rfl, (blk_cell aa.out 1).trans rfl⟩ (fun hHeld => ?_)
     clear hK K
     refine norm_ (a' := ?_) ?_ ?_
     rotate_left
     ·show Act.put _ (some 23) _ = _
      simp only [pn_, sz_, ss_, i64_w, i32_w]
      rfl
     refine on_ 4 (some 24) (bl 8 31) HT_ (fun K hK => ?_)
     refine value_ (w1 := ?_) (v := ?_) (by rfl) rfl ?_ ?_
     rotate_left 2
     ·go_simp
      constructor
      ·rfl
      ·rfl
     refine hK.out _ _ ⟨(blk_cell (blk_alloc aa.out _) 0).trans rfl, (blk_cell (blk_alloc aa.out _) 1).trans rfl⟩ (fun hHeld => ?_)
     clear hK K
     refine norm_ (a' := ?_) ?_ ?_
     rotate_left
     ·show Act.put _ (some 24) _ = _
      simp only [pn_, sz_, ss_, i64_w, i32_w]
      rfl
     refine on_ 5 (some 25) (bl 8 63) HT_ (fun K hK => ?_)
     refine Kd.R_append_step Kd.bool w.heap.size (by rfl) (.tmp 21) (.tmp 24) 22 4 (.bool false) 1 rfl Try.underlying22 info4 rfl (by decide) (by omega) aq am aZ [.bool aZ] (fun _ => True) (fun _ => False) rfl rfl ?aP (fun _ hk => hk.elim) ?aF ?aO (Below.refl _ _) ?aS ?aL ?_
     (case aP => exact rfl)
     (case aF => exact (fun _ _ => trivial))
     (case aO => exact (rr_ ad.out))
     (case aS => exact (keep_size (w := w) (g := g) (row := none) (k2_ HK.out al.out ap.out)))
     (case aL => have := LMc12.out; omega)
     intro cl w15 ho hb hg hat
     rw [← bx.out] at ho
     replace ab := am_ (Kd.S_over' (rs_ ab.out) (Kd.R_typed (rr_ ad.out)) (by decide) hg)
     replace ae := am_ (blk_grown (g := ak) (o := .cells #[.slice none 0 0, .slice none 0 0] 27 (0, 0)) (rb_ ae.out) hg (Kd.R_ne ad.out ae.out (by decide)))
     replace aa := am_ (blk_grown (g := aj) (o := .cells #[aq, ag] 27 (0, 0)) (rb_ aa.out) hg (Kd.R_ne ad.out aa.out (by decide)))
     replace HB := am_ (below_weaken (b3_ HB.out (IsS125.ge HI0.out) ar.out aw.out) HL.out hb)
     replace HI0 := am_ (IsS125.grown (zp35_1_ HI0.out af.out ah.out) hg (IsS125.own_ne HI0.out ad.out (by decide)))
     replace HK := am_ (KeepBut.trans (k2_ HK.out al.out ap.out) (KeepBut.of_grown hg g) (Kd.R_base2 ad.out))
     replace aT := am_ (ho)
     clear ad ho hb hg hat
     obtain ⟨ay, az, bs⟩ := Kd.R_slice aT.out
     (first | subst bs | (injection bs with f1_ f2_ f3_; have f4_ := f1_.symm; have f5_ := f3_.symm; clear f1_ f2_ f3_; subst f4_; subst f5_))
     refine hK.out _ _ ⟨(blk_cell aa.out 0).trans rfl, (blk_cell aa.out 1).trans rfl⟩ (fun hHeld => ?_)
     clear hK K
     refine norm_ (a' := ?_) ?_ ?_
     rotate_left
     ·show Act.put _ (some 25) _ = _
      simp only [pn_, sz_, ss_, i64_w, i32_w]
      rfl
     refine pu_ 6 26 (bl 8 127) HT_ ?_
     refine last_ (i := 7) (N := none) (bl 8 255) rfl rfl (one_of HT_.out (by kernel_rfl)) (by decide) (fun K hK => ?_)
     have hs17 : w15.cell? ⟨aj, 0, none⟩ = some (aq) := (blk_cell aa.out 0).trans rfl
     have hfs17 := blk_frozen aa.out 0
     have hns17_0 := ao.out
     have hms17_0 := aH.out
     refine skip_ (w1 := ?_) (by rfl) rfl ?_ ?_
     rotate_left
     ·go_simp
      rfl
     refine hK.out _ _ ?_
     clear hK K
     refine done_ (done_of HT_.out (by kernel_rfl)) ?_
     try go_wp2_with (first | ((with_reducible refine gate_dst (N := 27) rfl ?_); refine Kd.R_lit (Kd.int .i64) _ 3 ?hg (N := 27) ?hd (xs := ([] : List Int)) (inner := []) (ok := fun _ => True) (okp := fun _ => True) ?hr ?hp (fun _ hk => hk) trivial (Below.refl _ _) (Nat.le_refl _) (by simp) ?_; (case hd => rfl); (case hg => rfl); (case hr => first | (go_simp; done) | (go_simp; rfl)); (case hp => exact (Reps.none _ _)); intro cm w18 ho19 hb hg_ hnew_; clear hg_ hnew_; (first | rw [← bo.out] at ho19 | (simp only [Int.reduceToNat] at ho19; rw [← bo.out] at ho19)); have n0_ := am_ (Kd.S_elder' (rs_ (Kd.S_mono (Kd.S_far (p := ⟨aj, 0, none⟩) (Kd.S_types ab.out aa.out (by decide)) (fun _ hk => hk.2) (.slice ay an.length az)) (fun _ h_ => h_.1))) (Kd.R_base ho19) hb); have n1_ := am_ (Kd.R_below (rr_ (Kd.R_mono (Kd.R_far (p := ⟨aj, 0, none⟩) (Kd.R_types aT.out aa.out (by decide)) (fun _ hk => hk.2) (.slice ay an.length az)) (fun _ h_ => h_.1))) hb); have n2_ := am_ (Kd.R_lower ho19 (keep_size (w := w) (g := g) (row := none) (k2_ HK.out al.out ap.out))); have n3_ := am_ (blk_below (g := ak) (o := .cells #[.slice none 0 0, .slice none 0 0] 27 (0, 0)) (by refine rb_ ?_; refine blk_far ?_ ao.out _; refine rb_ ?_; exact ae.out) hb); have n4_ := am_ (blk_below (g := aj) (o := .cells #[.slice ay an.length az, ag] 27 (0, 0)) (by refine rb_ ?_; refine blk_put (cs := #[aq, ag]) ?_ 0 _ rfl; refine rb_ ?_; exact aa.out) hb); have n5_ := am_ (IsS125.below (show IsS125 w0 (w15.setCell ⟨aj, 0, none⟩ (.slice ay an.length az)) g s0_0 aU aV from by exact zp35_1_ HI0.out af.out ah.out) hb); have n6_ := am_ (KeepBut.trans (k2_ HK.out al.out ap.out) (KeepBut.of_below hb g none) (.inl rfl)); have n7_ := am_ (below_step (b3_ HB.out (IsS125.ge HI0.out) ar.out aw.out) hb); clear ab; clear aT; clear ae; clear aa; clear HI0; clear HK; clear HB; have ab := n0_; have aT := n1_; have bz := n2_; have ae := n3_; have aa := n4_; have HI0 := n5_; have HK := n6_; have HB := n7_; clear n0_ n1_ n2_ n3_ n4_ n5_ n6_ n7_; clear hb ho19))
     go_loopg [8, 9] k1 (fun kq v8 v9 w' => ∃ (aI : List Int) (aK : Int) (au : Int) (av : Int), v9 = .int .i64 aK ∧ Aside0 (spec_l5Draw.l1 kq (wrap64 (1 + aA)) aB aI aK s0_0 au av an ai = some (r1, r2, r3, r4)) ∧ Aside0 (kq ≤ k1) ∧ Aside0 (Kd.R (Kd.int .i64) 3 w' w.heap.size (fun _ => True) v8 aI) ∧ Aside0 (Kd.R Kd.bool 4 w' w.heap.size (fun _ => True) (.slice ay an.length az) an) ∧ Aside0 (Kd.S (Kd.slice 3 (Kd.int .i64)) 67 w' w.heap.size (fun k_ => some k_ ≠ (v8 : Value).ownBlock) ag ai) ∧ Aside0 (w'.heap[ak]? = some (.cells #[(.slice none 0 0), (.slice none 0 0)] 27 (0, 0))) ∧ Aside0 (w'.heap[aj]? = some (.cells #[(.slice ay an.length az), ag] 27 (0, 0))) ∧ Aside0 (IsS125 w0 w' g s0_0 au av) ∧ Aside0 (KeepBut w w' g none) ∧ Aside0 (Below w0.heap.size w0 w'))
     case atStart => exact ⟨(br), (0), (aU), (aV), (by first | rfl | (simp; done) | (simp [*]; done)), H', ⟨Nat.le_refl _⟩, ⟨by refine rr_ ?_; exact bz.out⟩, ⟨by refine rr_ ?_; exact aT.out⟩, ⟨by refine rs_ ?_; exact Kd.S_mono ab.out (fun _ hk => hk.2)⟩, ⟨by refine rb_ ?_; exact ae.out⟩, ⟨by refine rb_ ?_; exact aa.out⟩, ⟨by exact zp35_1_ HI0.out af.out ah.out⟩, ⟨by exact zp35_2_ HK.out al.out ap.out⟩, ⟨by exact zp35_3_ HB.out (IsS125.ge HI0.out) ar.out aw.out⟩⟩
     case round =>
      clear H'
      try clear c1
      try clear p2
      try clear p6
      try clear c7
      try clear c8
      try clear c10
      try clear c10b0
      try clear c12
      try clear bd
      try clear be
      try clear bf
      try clear bg
      try clear p2
      try clear p6
      obtain ⟨aI, aK, au, av, rfl, HA, HK2, ax, ad, ab, ae, aa, HI0, HK, HB⟩ := hrel
      cases gk with
      | zero => exact absurd HA.out (by simp [spec_l5Draw.l1])
      | succ k2 =>
       have H := HA.out
       clear HA
       simp only [spec_l5Draw.l1] at H
       by_cases c20 : aK < 3
       ·rw [if_pos c20] at H
        have c20b0 : decide (aK < 3) = true := decide_eq_true c20
        clear c20
        replace H := Option.bind_eq_some_iff.mp H
        obtain ⟨⟨ba, bh, bi⟩, bt, H⟩ := H
        have A21 := am_ bt
        clear bt
        by_cases c22 : aI.length < 17592186044416
        ·rw [if_pos c22] at H
         have LMc22 := am_ c22
         clear c22
         obtain ⟨bu, hy563⟩ : ∃ y_ : List Int, y_ = (aI ++ [ba]) := ⟨_, rfl⟩
         replace H : (spec_l5Draw.l1 k2 (wrap64 (1 + aA)) aB bu (wrap64 (aK + 1)) s0_0 bh bi an ai) = some (r1, r2, r3, r4) := by first | (rw [hy563]; with_reducible exact H) | (have H2_ := (Option.bind_some _ _).symm.trans H; rw [hy563]; with_reducible exact H2_) | (have H2_ := (Option.bind_some _ _).symm.trans H; with_reducible exact H2_) | with_reducible exact H | (rw [hy563]; exact H) | exact H
         have bA := am_ hy563
         clear hy563
         have H' := am_ H
         clear H
         go_wp2_with (first | ((with_reducible refine gate_callee (f := 107) rfl ?_); refine gL_ (some 35) Try.func107 #[.pointer (some ⟨g, 0, none⟩), .int .i64 (wrap64 (1 + aA))] ?_; (with_reducible refine (spec_l1Below.calls g s0_0 au av (wrap64 (1 + aA)) ba bh bi w0 _ ?side1 ?side2 A21.out).mono ?_); (case side1 => exact zp35_1_ HI0.out af.out ah.out); (case side2 => exact zp35_3_ HB.out (IsS125.ge HI0.out) ar.out aw.out); rintro e w23 ⟨rfl, hi, hb, hk⟩; refine ⟨_, rfl, ?_⟩; have n0_ := am_ (Kd.R_mono (Kd.R_keep (IsS125.apart (show IsS125 w0 _ g s0_0 au av from by exact zp35_1_ HI0.out af.out ah.out) (rr_ ax.out) (by decide)) hk (fun _ h => h.2)) (fun _ h => h.1)); have n1_ := am_ (Kd.R_mono (Kd.R_keep (IsS125.apart (show IsS125 w0 _ g s0_0 au av from by exact zp35_1_ HI0.out af.out ah.out) (rr_ ad.out) (by decide)) hk (fun _ h => h.2)) (fun _ h => h.1)); have n2_ := am_ (Kd.S_mono (Kd.S_keep (IsS125.apartS (show IsS125 w0 _ g s0_0 au av from by exact zp35_1_ HI0.out af.out ah.out) (rs_ ab.out) (by decide)) hk (fun _ h => h.2)) (fun _ h => h.1)); have n3_ := am_ (KeepBut.blk hk (g' := ak) (o := .cells #[.slice none 0 0, .slice none 0 0] 27 (0, 0)) (rb_ ae.out) aN.out (by simp)); have n4_ := am_ (KeepBut.blk hk (g' := aj) (o := .cells #[.slice ay an.length az, ag] 27 (0, 0)) (rb_ aa.out) aJ.out (by simp)); have n5_ := am_ (KeepBut.trans (k2_ HK.out al.out ap.out) hk (.inl rfl)); have n6_ := am_ (hb); have n7_ := am_ (hi); clear ax; clear ad; clear ab; clear ae; clear aa; clear HK; clear HB; clear HI0; have ax := n0_; have ad := n1_; have ab := n2_; have ae := n3_; have aa := n4_; have HK := n5_; have HB := n6_; have HI0 := n7_; clear n0_ n1_ n2_ n3_ n4_ n5_ n6_ n7_; (try clear hb); (try clear hb2); (try clear hk); (try clear hi)) | ((with_reducible refine gate_builtin (b := .append) (xs := #[.tmp 32, .tmp 36]) rfl ?_); at_builtin; refine Kd.R_append (Kd.int .i64) w.heap.size rfl (.tmp 32) (.tmp 36) 67 3 (.int .i64 0) 8 rfl Try.underlying67 info3 rfl (by decide) (by omega) u8 aI ba [.int .i64 ba] (fun _ => True) (fun _ => False) rfl rfl ?aP (fun _ hk => hk.elim) ?aF ?aO (Below.refl _ _) ?aS ?aL ?_; (case aP => exact rfl); (case aF => exact (fun _ _ => trivial)); (case aO => exact (rr_ ax.out)); (case aS => exact (keep_size (w := w) (g := g) (row := none) (k2_ HK.out al.out ap.out))); (case aL => have := LMc22.out; omega); intro cn w24 ho hb hg hat; rw [← bA.out] at ho; have n0_ := am_ (Kd.R_over' (rr_ ad.out) (Kd.R_typed (rr_ ax.out)) (by decide) hg); have n1_ := am_ (Kd.S_after (ok := (fun _ => True)) (by refine rs_ ?_; exact Kd.S_mono ab.out (fun _ hk => ⟨trivial, hk⟩)) hg hat); have n2_ := am_ (blk_grown (g := ak) (o := .cells #[.slice none 0 0, .slice none 0 0] 27 (0, 0)) (rb_ ae.out) hg (Kd.R_ne ax.out ae.out (by decide))); have n3_ := am_ (blk_grown (g := aj) (o := .cells #[.slice ay an.length az, ag] 27 (0, 0)) (rb_ aa.out) hg (Kd.R_ne ax.out aa.out (by decide))); have n4_ := am_ (IsS125.grown (zp35_1_ HI0.out af.out ah.out) hg (IsS125.own_ne HI0.out ax.out (by decide))); have n5_ := am_ (below_weaken (b3_ HB.out (IsS125.ge HI0.out) ar.out aw.out) HL.out hb); have n6_ := am_ (KeepBut.trans (k2_ HK.out al.out ap.out) (KeepBut.of_grown hg g) (Kd.R_base2 ax.out)); have n7_ := am_ (ho); clear ad; clear ab; clear ae; clear aa; clear HI0; clear HB; clear HK; clear ax; have ad := n0_; have ab := n1_; have ae := n2_; have aa := n3_; have HI0 := n4_; have HB := n5_; have HK := n6_; have bB := n7_; clear n0_ n1_ n2_ n3_ n4_ n5_ n6_ n7_; clear ho hb hg hat))
         go_roundg k2
         case measure => have := HK1.out; have := HK2.out; omega
         case rel => exact ⟨(bu), (wrap64 (aK + 1)), (bh), (bi), (by first | rfl | (simp; done) | (simp [*]; done)), H', ⟨by have := HK1.out; have := HK2.out; omega⟩, ⟨by refine rr_ ?_; exact bB.out⟩, ⟨by refine rr_ ?_; exact ad.out⟩, ⟨by refine rs_ ?_; exact Kd.S_mono ab.out (fun _ hk => hk.2)⟩, ⟨by refine rb_ ?_; exact ae.out⟩, ⟨by refine rb_ ?_; exact aa.out⟩, ⟨by exact zp35_1_ HI0.out af.out ah.out⟩, ⟨by exact zp35_2_ HK.out al.out ap.out⟩, ⟨by exact zp35_3_ HB.out (IsS125.ge HI0.out) ar.out aw.out⟩⟩
        ·rw [if_neg c22] at H
         exact absurd H (by simp)
       ·rw [if_neg c20] at H
        have c20b0 : decide (aK < 3) = false := decide_eq_false c20
        clear c20
        by_cases c25 : ai.length < 5864062014805
        ·rw [if_pos c25] at H
         have LMc25 := am_ c25
         clear c25
         obtain ⟨aW, hy566⟩ : ∃ y_ : List (List Int), y_ = (ai ++ [aI]) := ⟨_, rfl⟩
         replace H : (spec_l5Draw.l0 k2 (wrap64 (1 + aA)) (wrap64 (aB + 1)) s0_0 au av an aW) = some (r1, r2, r3, r4) := by first | (rw [hy566]; with_reducible exact H) | (have H2_ := (Option.bind_some _ _).symm.trans H; rw [hy566]; with_reducible exact H2_) | (have H2_ := (Option.bind_some _ _).symm.trans H; with_reducible exact H2_) | with_reducible exact H | (rw [hy566]; exact H) | exact H
         have bC := am_ hy566
         clear hy566
         have H' := am_ H
         clear H
         have bX := aH.out
         have bY := ao.out
         have bZ := aJ.out
         have ca := ah.out
         have bH := ck_ (v := (.slice ay an.length az)) aa 0 rfl
         have bI := ck_ (v := (ag)) aa 1 rfl
         have bJ := blk_frozen aa.out 0
         have bK := blk_frozen aa.out 1
         obtain ⟨bv, bw, bD⟩ := Kd.R_slice ax.out
         subst bD
         go_wp2_with (first | ((with_reducible refine gate_builtin (b := .append) (xs := #[.tmp 39, .tmp 41]) rfl ?_); at_builtin; refine Kd.S_append (Kd.slice 3 (Kd.int .i64)) w.heap.size rfl (.tmp 39) (.tmp 41) 23 67 (.slice none 0 0) 24 rfl Try.underlying23 info67 rfl (by decide) (by omega) ag ai aI [.slice bv aI.length bw] (fun _ => True) (fun k_ => some k_ = (.slice bv aI.length bw : Value).ownBlock) rfl rfl ?aP (fun k_ hk_ => ((Kd.R_mono (ok' := fun k_ => ((fun _ => True)) k_ ∧ some k_ ≠ (ag : Value).ownBlock) (Kd.R_apart' (ax.out) (Kd.S_typed ab.out) (by decide)) (fun k_ hk => ⟨trivial, hk.2⟩))).1 k_ hk_.symm) ?aF ?aO (Below.refl _ _) ?aS ?aL ?_; (case aP => exact Kd.M_row (Kd.R_mono (Kd.R_tight rfl (Kd.R_mono (ok' := fun k_ => ((fun _ => True)) k_ ∧ some k_ ≠ (ag : Value).ownBlock) (Kd.R_apart' (ax.out) (Kd.S_typed ab.out) (by decide)) (fun k_ hk => ⟨trivial, hk.2⟩))) (fun _ h_ => h_))); (case aF => exact (fun _ _ => trivial)); (case aO => exact (by refine rs_ ?_; exact Kd.S_mono ab.out (fun k_ hk => ⟨trivial, fun e_ => hk e_⟩))); (case aS => exact (keep_size (w := w) (g := g) (row := none) (k2_ HK.out al.out ap.out))); (case aL => have := LMc25.out; omega); intro co w29 ho hb hg hat; rw [← bC.out] at ho; have n0_ := am_ (Kd.R_over' (rr_ ad.out) (Kd.S_typed (rs_ ab.out)) (by decide) hg); have n1_ := am_ (blk_grown (g := ak) (o := .cells #[.slice none 0 0, .slice none 0 0] 27 (0, 0)) (rb_ ae.out) hg (Kd.S_ne ab.out ae.out (by decide))); have n2_ := am_ (blk_grown (g := aj) (o := .cells #[.slice ay an.length az, ag] 27 (0, 0)) (rb_ aa.out) hg (Kd.S_ne ab.out aa.out (by decide))); have n3_ := am_ (IsS125.grown (zp35_1_ HI0.out af.out ah.out) hg (IsS125.own_neS HI0.out ab.out (by decide))); have n4_ := am_ (below_weaken (b3_ HB.out (IsS125.ge HI0.out) ar.out aw.out) HL.out hb); have n5_ := am_ (KeepBut.trans (k2_ HK.out al.out ap.out) (KeepBut.of_grown hg g) (Kd.S_base2 ab.out)); have n6_ := am_ (ho); clear ad; clear ae; clear aa; clear HI0; clear HB; clear HK; clear ab; clear ax; have ad := n0_; have ae := n1_; have aa := n2_; have HI0 := n3_; have HB := n4_; have HK := n5_; have bp := n6_; clear n0_ n1_ n2_ n3_ n4_ n5_ n6_; clear ho hb hg hat; obtain ⟨bj, bk, bE⟩ := Kd.S_slice bp.out; subst bE; have bL := ck_ (v := (.slice ay an.length az)) aa 0 rfl; have bM := ck_ (v := (ag)) aa 1 rfl; have bN := blk_frozen aa.out 0; have bO := blk_frozen aa.out 1))
         go_roundg k2
         case measure => have := HK1.out; have := HK2.out; omega
         case rel => exact ⟨(wrap64 (aB + 1)), (au), (av), (an), (aW), (.slice ay an.length az), (.slice bj aW.length bk), (by first | rfl | (simp; done) | (simp [*]; done)), H', ⟨by have := HK1.out; have := HK2.out; omega⟩, ⟨by refine rr_ ?_; exact Kd.R_mono (Kd.R_far (p := ⟨aj, 1, none⟩) (Kd.R_types ad.out aa.out (by decide)) (fun _ hk => hk.2) (.slice bj aW.length bk)) (fun _ hk => trivial)⟩, ⟨by refine rs_ ?_; exact Kd.S_mono (Kd.S_far (p := ⟨aj, 1, none⟩) (Kd.S_types bp.out aa.out (by decide)) (fun _ hk => hk.2) (.slice bj aW.length bk)) (fun _ hk => trivial)⟩, ⟨by refine rb_ ?_; refine blk_far ?_ ao.out _; refine rb_ ?_; exact ae.out⟩, ⟨by refine rb_ ?_; refine blk_put (cs := #[.slice ay an.length az, ag]) ?_ 1 _ rfl; refine rb_ ?_; exact aa.out⟩, ⟨by exact zp35_1_ HI0.out af.out ah.out⟩, ⟨by exact zp35_2_ HK.out al.out ap.out⟩, ⟨by exact zp35_3_ HB.out (IsS125.ge HI0.out) ar.out aw.out⟩⟩
        ·rw [if_neg c25] at H
         exact absurd H (by simp)
    ·rw [if_neg c12] at H
     exact absurd H (by simp)
   ·rw [if_neg c10] at H
    have c10b0 : decide (aB < (wrap64 (1 + aA))) = false := decide_eq_false c10
    clear c10
    simp only [Option.some.injEq, Prod.mk.injEq] at H
    obtain ⟨rfl, rfl, rfl, rfl⟩ := H
    have cb := aH.out
    have cc := ao.out
    have cd := aJ.out
    have ce := ah.out
    have bP := ck_ (v := (aq)) aa 0 rfl
    have bQ := ck_ (v := (ag)) aa 1 rfl
    have bR := blk_frozen aa.out 0
    have bS := blk_frozen aa.out 1
    obtain ⟨bb, bc, bF⟩ := Kd.R_slice ad.out
    subst bF
    have cf := aN.out
    have cg := af.out
    have bT := ck_ (v := (.slice none 0 0)) ae 0 rfl
    have bU := ck_ (v := (.slice none 0 0)) ae 1 rfl
    have bV := blk_frozen ae.out 0
    have bW := blk_frozen ae.out 1
    obtain ⟨bm, bn, bG⟩ := Kd.S_slice ab.out
    subst bG
    go_wp2
    refine bodyPost_ret (results_cell_row rfl _ _ ak 27 #[.slice bb am.length bc, .slice bm ai.length bn] (0, 0) _ rfl (by refine rb_ ?_; refine blk_put (cs := #[.slice bb am.length bc, .slice none 0 0]) ?_ 1 _ rfl; refine rb_ ?_; refine blk_put (cs := #[.slice none 0 0, .slice none 0 0]) ?_ 0 _ rfl; refine rb_ ?_; exact ae.out) Try.underlying27 rfl (by kernel_rfl)) rfl ?_
    exact ⟨_, _, by first | rfl | (simp [errW_none, errW_some] <;> rfl) | (simp [*, errW_none, errW_some] <;> rfl), by refine rr_ ?_; exact Kd.R_mono (Kd.R_far (p := ⟨ak, 1, none⟩) (Kd.R_far (p := ⟨ak, 0, none⟩) (Kd.R_types ad.out ae.out (by decide)) (fun _ hk => hk.2) (.slice bb am.length bc)) (fun _ hk => hk.2) (.slice bm ai.length bn)) (fun _ hk => trivial), by refine rs_ ?_; exact Kd.S_mono (Kd.S_far (p := ⟨ak, 1, none⟩) (Kd.S_far (p := ⟨ak, 0, none⟩) (Kd.S_types ab.out ae.out (by decide)) (fun _ hk => hk.2) (.slice bb am.length bc)) (fun _ hk => hk.2) (.slice bm ai.length bn)) (fun _ hk => trivial), by exact zp35_1_ HI0.out af.out ah.out, by exact zp35_3_ HB.out (IsS125.ge HI0.out) ar.out aw.out, by exact zp35_2_ HK.out al.out ap.out⟩
end Go.Proofs.Ytogamkblkoobkaa.P
end
section
namespace Go.Proofs.Ytogamkblkoobkaa.P
open Go.RowKit Go.Proofs.YtogamkblkoobkaaW.PrintWords Go.Proofs.YtogamkblkoobkaaW.PrintLast Go.Proofs.YtogamkblkoobkaaW.PrintMore
attribute [local go_sem] max2_int min2_int max_two min_two max_three min_three max_four min_four
set_option linter.unusedVariables false
set_option linter.unusedSimpArgs false
def spec_l5Bent.f (k : Nat) (s0_0 : List Int) (s0_1 : Int) (s0_2 : Int) : Option (List Bool × (List (List Int)) × Int × Int) := (spec_l5Draw.f k s0_0 s0_1 s0_2 5).bind fun bt570 => ((spec_l1Below.f s0_0 bt570.2.2.1 bt570.2.2.2 12).bind fun bt579 => (if bt579.1 = 0 then (if 0 < (bt570.2.1.length : Int) then (if 0 < ((rd_L1 bt570.2.1 0).length : Int) then (some (bt570.1, (bt570.2.1.set (0 : Int).toNat ((rd_L1 bt570.2.1 0).set (0 : Int).toNat (bt570.1.length : Int))), bt579.2.1, bt579.2.2)) else (none)) else (none)) else (if bt579.1 = 1 then (if bt570.1.length < 140737488355328 then (some ((bt570.1 ++ [true]), bt570.2.1, bt579.2.1, bt579.2.2)) else (none)) else (if bt579.1 = 2 then (if 0 < (bt570.2.1.length : Int) then (if (rd_L1 bt570.2.1 0).length < 17592186044416 then (some (bt570.1, (bt570.2.1.set (0 : Int).toNat ((rd_L1 bt570.2.1 0) ++ [0])), bt579.2.1, bt579.2.2)) else (none)) else (none)) else (some (bt570.1, bt570.2.1, bt579.2.1, bt579.2.2))))))
theorem spec_l5Bent.mono : ∀ a0 a1 a2 k, LeO (spec_l5Bent.f k a0 a1 a2) (spec_l5Bent.f (k + 1) a0 a1 a2) := by
 intro a0 a1 a2 k
 unfold spec_l5Bent.f
 repeat' first
   | (with_reducible exact spec_l5Draw.mono _ _ _ _ _)
   | (with_reducible exact LeO.refl _)
   | (with_reducible exact LeO.none _)
   | (with_reducible refine LeO.ite ?_ ?_)
   | (with_reducible refine LeO.bind ?_ (fun _ => ?_))
   | exact spec_l5Draw.mono _ _ _ _ _
   | exact LeO.none _
   | refine LeO.ite ?_ ?_
   | refine LeO.bind ?_ (fun _ => ?_)
def spec_l5Bent.T4 : Bool × List (List Nat × List Nat) := (true, [([], []), ([0], [0]), ([1], [1]), ([2], [2]), ([], []), ([4], [4]), ([5], [5]), ([3, 0, 1, 2, 3, 4, 5, 6], [3]), ([7, 6, 0, 1, 2, 3, 4, 5, 6], [6, 7])])
def spec_l5Bent.B4 : List Nat := [0, 1, 3, 7, 0, 16, 48, 127, 255]
theorem spec_l5Bent.tab4 : rtab .any (opsOf Try.f88 4) = spec_l5Bent.T4 := by kernel_rfl
theorem spec_l5Bent.bits4 : waitsOk spec_l5Bent.T4.2 spec_l5Bent.B4 = true := by kernel_rfl
def spec_l5Bent.T8 : Bool × List (List Nat × List Nat) := (true, [([], []), ([0], [0]), ([], []), ([2], [2]), ([3], [3]), ([4], [4]), ([], []), ([5, 6], [5, 6]), ([1, 0, 1, 2, 3, 4, 5, 6, 7], [1]), ([8, 7, 7, 0, 1, 2, 3, 4, 5, 6, 7], [7, 8])])
def spec_l5Bent.B8 : List Nat := [0, 1, 0, 4, 12, 28, 0, 124, 255, 511]
theorem spec_l5Bent.tab8 : rtab .any (opsOf Try.f88 8) = spec_l5Bent.T8 := by kernel_rfl
theorem spec_l5Bent.bits8 : waitsOk spec_l5Bent.T8.2 spec_l5Bent.B8 = true := by kernel_rfl
theorem zp36_0_ {p q : Prop} (h : p) (c : p → q := by intro h_; repeat (first | (with_reducible first | exact h_ | apply IsS125.alloc | apply IsS125.drewN | apply IsS125.drew | apply IsS125.set_1 | apply IsS125.set_2) | exact h_)) : q := c h
theorem zp36_1_ {p q g1 : Prop} (h : p) (h1 : g1) (c : p → g1 → q := by intro h_ h1_; repeat (first | (with_reducible first | exact h_ | apply IsS125.alloc | apply IsS125.drewN | apply IsS125.drew | apply IsS125.set_1 | apply IsS125.set_2 | refine IsS125.far ?_ h1_ _) | exact h_)) : q := c h h1
theorem zp36_2_ {p q g1 g2 : Prop} (h : p) (h1 : g1) (h2 : g2) (c : p → g1 → g2 → q := by intro h_ h1_ h2_; repeat (first | (with_reducible first | exact h_ | apply below_alloc | apply pw_below_drewN | apply below_drew1 | refine below_set ?_ h1_ | refine below_set ?_ h2_) | exact h_)) : q := c h h1 h2
theorem zp36_3_ {p q g1 g2 : Prop} (h : p) (h1 : g1) (h2 : g2) (c : p → g1 → g2 → q := by intro h_ h1_ h2_; repeat (first | (with_reducible first | exact h_ | apply IsS125.alloc | apply IsS125.drewN | apply IsS125.drew | apply IsS125.set_1 | apply IsS125.set_2 | refine IsS125.far ?_ h1_ _ | refine IsS125.far ?_ h2_ _) | exact h_)) : q := c h h1 h2
theorem zp36_4_ {p q g1 g2 g3 : Prop} (h : p) (h1 : g1) (h2 : g2) (h3 : g3) (c : p → g1 → g2 → g3 → q := by intro h_ h1_ h2_ h3_; repeat (first | (with_reducible first | exact h_ | apply below_alloc | apply pw_below_drewN | apply below_drew1 | refine below_set ?_ h1_ | refine below_set ?_ h2_ | refine below_set ?_ h3_) | exact h_)) : q := c h h1 h2 h3
theorem zp36_5_ {p q g1 g2 : Prop} (h : p) (h1 : g1) (h2 : g2) (c : p → g1 → g2 → q := by intro h_ h1_ h2_; repeat (first | (with_reducible first | exact h_ | apply KeepBut.set_ | apply keep_drewN | apply keep_drew | apply keep_alloc | refine keep_far ?_ h1_ _ | refine keep_far ?_ h2_ _) | exact h_)) : q := c h h1 h2
set_option maxHeartbeats 8000000 in
set_option maxRecDepth 100000 in
theorem spec_l5Bent.calls (k : Nat) (g : Nat) (s0_0 : List Int) (s0_1 : Int) (s0_2 : Int) (r1 : List Bool) (r2 : List (List Int)) (r3 : Int) (r4 : Int) (w0 w : World) (hI : IsS125 w0 w g s0_0 s0_1 s0_2) (hB : Below w0.heap.size w0 w) (h : spec_l5Bent.f k s0_0 s0_1 s0_2 = some (r1, r2, r3, r4)) :
  Calls Try.prog 88 #[.pointer (some ⟨g, 0, none⟩)] w fun e w' => ∃ v0_ v1_ : Value, e = .returned (.agg #[v0_, v1_]) ∧ Kd.R Kd.bool 4 w' w.heap.size (fun _ => True) v0_ r1 ∧ Kd.S (Kd.slice 3 (Kd.int .i64)) 67 w' w.heap.size (fun _ => True) v1_ r2 ∧ IsS125 w0 w' g s0_0 r3 r4 ∧ Below w0.heap.size w0 w' ∧ KeepBut w w' g none := by
 have hu27 := Try.underlying27
 have HI0 := am_ hI
 have HK := am_ (KeepBut.refl w g none)
 have HL := am_ hB.size
 clear hI
 have HW0 := am_ hB.size
 have HB := am_ hB
 clear hB
 have H : ((spec_l5Draw.f k s0_0 s0_1 s0_2 5).bind fun bt570 => ((spec_l1Below.f s0_0 bt570.2.2.1 bt570.2.2.2 12).bind fun bt579 => (if bt579.1 = 0 then (if 0 < (bt570.2.1.length : Int) then (if 0 < ((rd_L1 bt570.2.1 0).length : Int) then (some (bt570.1, (bt570.2.1.set (0 : Int).toNat ((rd_L1 bt570.2.1 0).set (0 : Int).toNat (bt570.1.length : Int))), bt579.2.1, bt579.2.2)) else (none)) else (none)) else (if bt579.1 = 1 then (if bt570.1.length < 140737488355328 then (some ((bt570.1 ++ [true]), bt570.2.1, bt579.2.1, bt579.2.2)) else (none)) else (if bt579.1 = 2 then (if 0 < (bt570.2.1.length : Int) then (if (rd_L1 bt570.2.1 0).length < 17592186044416 then (some (bt570.1, (bt570.2.1.set (0 : Int).toNat ((rd_L1 bt570.2.1 0) ++ [0])), bt579.2.1, bt579.2.2)) else (none)) else (none)) else (some (bt570.1, bt570.2.1, bt579.2.1, bt579.2.2))))))) = some (r1, r2, r3, r4) := h
 clear h
 replace H := Option.bind_eq_some_iff.mp H
 obtain ⟨⟨aj, ad, ap, aq⟩, A20, H⟩ := H
 have A2 := am_ A20
 clear A20
 replace H := Option.bind_eq_some_iff.mp H
 obtain ⟨⟨aw, aI, aJ⟩, A30, H⟩ := H
 have A3 := am_ A30
 clear A30
 by_cases c4 : aw = 0
 ·rw [if_pos c4] at H
  have c4b0 : (aw == 0) = true := beq_iff_eq.mpr c4
  have c4b1 : (aw != 0) = false := bne_eq_false_iff_eq.mpr c4
  clear c4
  by_cases c5 : 0 < (ad.length : Int)
  ·rw [if_pos c5] at H
   have c5b0 : decide (0 < (ad.length : Int)) = true := decide_eq_true c5
   have c5b1 : decide (0 < ad.length) = true := decide_eq_true (by omega)
   clear c5
   by_cases c6 : 0 < ((rd_L1 ad 0).length : Int)
   ·rw [if_pos c6] at H
    have c6b0 : decide (0 < ((rd_L1 ad 0).length : Int)) = true := decide_eq_true c6
    have c6b1 : decide (0 < (rd_L1 ad 0).length) = true := decide_eq_true (by omega)
    clear c6
    obtain ⟨bg, hy583⟩ : ∃ y_ : List Int, y_ = ((rd_L1 ad 0).set (0 : Int).toNat (aj.length : Int)) := ⟨_, rfl⟩
    replace H : (some (aj, (ad.set (0 : Int).toNat bg), aI, aJ)) = some (r1, r2, r3, r4) := by first | (rw [hy583]; with_reducible exact H) | (have H2_ := (Option.bind_some _ _).symm.trans H; rw [hy583]; with_reducible exact H2_) | (have H2_ := (Option.bind_some _ _).symm.trans H; with_reducible exact H2_) | with_reducible exact H | (rw [hy583]; exact H) | exact H
    have bw := am_ hy583
    clear hy583
    obtain ⟨bq, hy585⟩ : ∃ y_ : List (List Int), y_ = (ad.set (0 : Int).toNat bg) := ⟨_, rfl⟩
    replace H : (some (aj, bq, aI, aJ)) = some (r1, r2, r3, r4) := by first | (rw [hy585]; with_reducible exact H) | (have H2_ := (Option.bind_some _ _).symm.trans H; rw [hy585]; with_reducible exact H2_) | (have H2_ := (Option.bind_some _ _).symm.trans H; with_reducible exact H2_) | with_reducible exact H | (rw [hy585]; exact H) | exact H
    have bx := am_ hy585
    clear hy585
    simp only [Option.some.injEq, Prod.mk.injEq] at H
    obtain ⟨rfl, rfl, rfl, rfl⟩ := H
    go_enter Try.func88, Try.ntmps88
    try go_wp2_with (first | ((with_reducible refine gate_dst (N := 2) rfl ?_); refine box_event ?hg (N := 2) ?hd (cs := #[.slice none 0 0, .slice none 0 0]) (t := 27) ?hr ?_; (case hd => rfl); (case hg => rfl); (case hr => first | (go_simp; done) | (go_simp; rfl)); intro ae hg w8 hbox hb; have n0_ := am_ (IsS125.below (zp36_0_ HI0.out) hb); have n1_ := am_ (KeepBut.trans (k0_ HK.out) (KeepBut.of_below hb g none) (.inl rfl)); have n2_ := am_ (below_step (b1_ HB.out (IsS125.ge HI0.out)) hb); have n3_ := am_ (hbox); have n4_ := am_ ((by rw [hg]; exact (keep_size (w := w) (g := g) (row := none) (k0_ HK.out)) : w.heap.size ≤ ae)); have n5_ := am_ ((Nat.le_trans HW0.out (by rw [hg]; exact (keep_size (w := w) (g := g) (row := none) (k0_ HK.out)) : w.heap.size ≤ ae) : w0.heap.size ≤ ae)); have n6_ := am_ ((by rw [hg]; exact Nat.ne_of_lt (IsS125.lt (show IsS125 w0 _ g s0_0 s0_1 s0_2 from by exact zp36_0_ HI0.out)) : g ≠ ae)); have n7_ := am_ ((by rw [hg]; exact Nat.ne_of_gt (IsS125.lt (show IsS125 w0 _ g s0_0 s0_1 s0_2 from by exact zp36_0_ HI0.out)) : ae ≠ g)); clear HI0; clear HK; clear HB; have HI0 := n0_; have HK := n1_; have HB := n2_; have aa := n3_; have ak := n4_; have an := n5_; have ah := n6_; have ao := n7_; clear n0_ n1_ n2_ n3_ n4_ n5_ n6_ n7_; clear hb hbox hg) | ((with_reducible refine gate_callee (f := 86) rfl ?_); refine gL_ (some 5) Try.func86 #[.pointer (some ⟨g, 0, none⟩), .int .i64 5] ?_; (with_reducible refine (spec_l5Draw.calls k g s0_0 s0_1 s0_2 5 aj ad ap aq w0 _ ?side1 ?side2 A2.out).mono ?_); (case side1 => exact zp36_1_ HI0.out ah.out); (case side2 => exact zp36_2_ HB.out (IsS125.ge HI0.out) an.out); rintro e w9 ⟨bh, bi, rfl, ho0, ho1, hi, hb, hk⟩; refine ⟨_, rfl, ?_⟩; have n0_ := am_ (KeepBut.blk hk (g' := ae) (o := .cells #[.slice none 0 0, .slice none 0 0] 27 (0, 0)) (rb_ aa.out) ao.out (by simp)); have n1_ := am_ (Kd.R_lower ho0 (keep_size (w := w) (g := g) (row := none) (k1_ HK.out ak.out))); have n2_ := am_ (Kd.S_lower ho1 (keep_size (w := w) (g := g) (row := none) (k1_ HK.out ak.out))); have n3_ := am_ (KeepBut.trans (k1_ HK.out ak.out) hk (.inl rfl)); have n4_ := am_ (hb); have n5_ := am_ (hi); clear aa; clear HK; clear HB; clear HI0; have aa := n0_; have ai := n1_; have af := n2_; have HK := n3_; have HB := n4_; have HI0 := n5_; clear n0_ n1_ n2_ n3_ n4_ n5_; (try clear hb); (try clear hb2); (try clear hk); (try clear hi); (try clear ho0); (try clear ho1)) | ((with_reducible refine gate_dst (N := 3) rfl ?_); refine box_event ?hg (N := 3) ?hd (cs := #[.slice none 0 0, .slice none 0 0]) (t := 27) ?hr ?_; (case hd => rfl); (case hg => rfl); (case hr => first | (go_simp; done) | (go_simp; rfl)); intro ag hg w10 hbox hb; have n0_ := am_ (Kd.R_below (rr_ ai.out) hb); have n1_ := am_ (Kd.S_below (rs_ af.out) hb); have n2_ := am_ (IsS125.below (zp36_1_ HI0.out ah.out) hb); have n3_ := am_ (blk_below (rb_ aa.out) hb); have n4_ := am_ (KeepBut.trans (k1_ HK.out ak.out) (KeepBut.of_below hb g none) (.inl rfl)); have n5_ := am_ (below_step (b2_ HB.out (IsS125.ge HI0.out) an.out) hb); have n6_ := am_ (hbox); have n7_ := am_ ((by rw [hg]; exact (keep_size (w := w) (g := g) (row := none) (k1_ HK.out ak.out)) : w.heap.size ≤ ag)); have n8_ := am_ ((Nat.le_trans HW0.out (by rw [hg]; exact (keep_size (w := w) (g := g) (row := none) (k1_ HK.out ak.out)) : w.heap.size ≤ ag) : w0.heap.size ≤ ag)); have n9_ := am_ ((by rw [hg]; exact Nat.ne_of_lt (blk_lt (rb_ aa.out)) : ae ≠ ag)); have n10_ := am_ ((by rw [hg]; exact Nat.ne_of_gt (blk_lt (rb_ aa.out)) : ag ≠ ae)); have n11_ := am_ ((by rw [hg]; exact Nat.ne_of_lt (IsS125.lt (show IsS125 w0 _ g s0_0 ap aq from by exact zp36_1_ HI0.out ah.out)) : g ≠ ag)); have n12_ := am_ ((by rw [hg]; exact Nat.ne_of_gt (IsS125.lt (show IsS125 w0 _ g s0_0 ap aq from by exact zp36_1_ HI0.out ah.out)) : ag ≠ g)); clear ai; clear af; clear HI0; clear aa; clear HK; clear HB; have ai := n0_; have af := n1_; have HI0 := n2_; have aa := n3_; have HK := n4_; have HB := n5_; have ab := n6_; have au := n7_; have ax := n8_; have am := n9_; have ay := n10_; have al := n11_; have av := n12_; clear n0_ n1_ n2_ n3_ n4_ n5_ n6_ n7_ n8_ n9_ n10_ n11_ n12_; clear hb hbox hg; obtain ⟨aD, aE, bC⟩ := Kd.R_slice ai.out; subst bC; have cO := ay.out; have cP := am.out; have cQ := av.out; have cR := al.out; have bL := ck_ (v := (.slice none 0 0)) ab 0 rfl; have bM := ck_ (v := (.slice none 0 0)) ab 1 rfl; have bN := blk_frozen ab.out 0; have bO := blk_frozen ab.out 1; obtain ⟨bj, aN, bD⟩ := Kd.S_slice af.out; subst bD) | ((with_reducible refine gate_callee (f := 107) rfl ?_); refine gL_ (some 7) Try.func107 #[.pointer (some ⟨g, 0, none⟩), .int .i64 12] ?_; (with_reducible refine (spec_l1Below.calls g s0_0 ap aq 12 aw aI aJ w0 _ ?side1 ?side2 A3.out).mono ?_); (case side1 => exact zp36_3_ HI0.out ah.out al.out); (case side2 => exact zp36_4_ HB.out (IsS125.ge HI0.out) an.out ax.out); rintro e w16 ⟨rfl, hi, hb, hk⟩; refine ⟨_, rfl, ?_⟩; have n0_ := am_ (KeepBut.blk hk (g' := ae) (o := .cells #[.slice none 0 0, .slice none 0 0] 27 (0, 0)) (by refine rb_ ?_; refine blk_far ?_ am.out _; refine rb_ ?_; refine blk_far ?_ am.out _; refine rb_ ?_; exact aa.out) ao.out (by simp)); have n1_ := am_ (Kd.R_mono (Kd.R_keep (IsS125.apart (show IsS125 w0 _ g s0_0 ap aq from by exact zp36_3_ HI0.out ah.out al.out) (rr_ (Kd.R_mono (Kd.R_far (p := ⟨ag, 1, none⟩) (Kd.R_far (p := ⟨ag, 0, none⟩) (Kd.R_types ai.out ab.out (by decide)) (fun _ hk => hk.2) (.slice aD aj.length aE)) (fun _ hk => hk.2) (.slice bj ad.length aN)) (fun _ h_ => h_.1))) (by decide)) hk (fun _ h => h.2)) (fun _ h => h.1)); have n2_ := am_ (Kd.S_mono (Kd.S_keep (IsS125.apartS (show IsS125 w0 _ g s0_0 ap aq from by exact zp36_3_ HI0.out ah.out al.out) (rs_ (Kd.S_mono (Kd.S_far (p := ⟨ag, 1, none⟩) (Kd.S_far (p := ⟨ag, 0, none⟩) (Kd.S_types af.out ab.out (by decide)) (fun _ hk => hk.2) (.slice aD aj.length aE)) (fun _ hk => hk.2) (.slice bj ad.length aN)) (fun _ h_ => h_.1))) (by decide)) hk (fun _ h => h.2)) (fun _ h => h.1)); have n3_ := am_ (KeepBut.blk hk (g' := ag) (o := .cells #[.slice aD aj.length aE, .slice bj ad.length aN] 27 (0, 0)) (by refine rb_ ?_; refine blk_put (cs := #[.slice aD aj.length aE, .slice none 0 0]) ?_ 1 _ rfl; refine rb_ ?_; refine blk_put (cs := #[.slice none 0 0, .slice none 0 0]) ?_ 0 _ rfl; refine rb_ ?_; exact ab.out) av.out (by simp)); have n4_ := am_ (KeepBut.trans (k2_ HK.out ak.out au.out) hk (.inl rfl)); have n5_ := am_ (hb); have n6_ := am_ (hi); clear aa; clear ai; clear af; clear ab; clear HK; clear HB; clear HI0; have aa := n0_; have ai := n1_; have af := n2_; have ab := n3_; have HK := n4_; have HB := n5_; have HI0 := n6_; clear n0_ n1_ n2_ n3_ n4_ n5_ n6_; (try clear hb); (try clear hb2); (try clear hk); (try clear hi)))
    replace ai := am_ (Kd.R_drew ai.out)
    replace af := am_ (Kd.S_drew af.out)
    replace aa := am_ (blk_drew aa.out)
    replace ab := am_ (blk_drew ab.out)
    replace HI0 := am_ (IsS125.drew HI0.out)
    replace HK := am_ (keep_drew HK.out)
    replace HB := am_ (below_drew1 HB.out)
    have p582 : 0 ≤ (0 : Int) := (by omega)
    have q582 : 0 < (ad.length : Int) := of_decide_eq_true ah_
    obtain ⟨aM, A582_0, c582_0, e582, aG, hl582_0, hi582_0⟩ := at_L1 (Kd.S_reads' af.out).2.2 0 p582 q582
    cases e582
    obtain ⟨ce582, hce582, hMe582, hcc582⟩ := Kd.S_get af.out [] 0 p582 (by first | exact q582 | exact of_decide_eq_true ah_ | (have e_ := (Kd.S_reads' af.out).1; omega))
    obtain ⟨ve582_0, rfl, ge582_0⟩ := hMe582
    have hv582_0 := hcc582 0 _ rfl
    rw [Nat.add_zero, show ((Kd.slice 3 (Kd.int .i64))).sz = 1 from rfl, Nat.mul_one] at hv582_0
    replace hv582_0 := Option.some.inj (hv582_0.symm.trans aG)
    rw [hv582_0] at ge582_0
    have aH := am_ (show Kd.R (Kd.int .i64) 3 _ _ _ _ (rd_L1 ad 0) from ge582_0)
    clear hv582_0 ge582_0
    have HX582_0 := am_ aG
    clear hcc582 hce582
    have qi582 : (0 < ad.length) = True := eq_true (by omega)
    (try rw [show ((0 : Int)).toNat = 0 from rfl] at aG)
    (try rw [Addr.add_zero'] at aG)
    have bo := am_ hi582_0
    have bP := am_ hl582_0
    clear hi582_0 hl582_0
    replace p582 := eq_true p582
    replace q582 := eq_true q582
    have p7 : 0 ≤ (0 : Int) := (by omega)
    have q7 : (0 : Int) < (((rd_L1 ad 0).length : Int) : Int) := of_decide_eq_true ah_
    have qi7 : (0 < (rd_L1 ad 0).length) = True := eq_true (by omega)
    obtain ⟨go7, co7, eo7, gb7, gl7, cl7, HG7⟩ := Kd.R_form aH.out (by omega)
    (first | cases eo7 | (injection eo7 with ea_ en_ ec_; (first | subst ea_ | (injection ea_ with ea_; subst ea_)); subst ec_; clear en_))
    have GB7 := am_ gb7
    have GG7 := am_ HG7
    clear gb7 gl7 HG7
    obtain ⟨bf, hf7_0⟩ := Kd.R_celln 0 aH.out (0 : Int) p7 q7
    (try rw [show ((0 : Int)).toNat = 0 from rfl] at bf)
    (try simp only [Nat.reduceMul, Nat.zero_mul, Nat.zero_add, Nat.reduceAdd] at bf)
    (try rw [show ((0 : Int)).toNat = 0 from rfl] at hf7_0)
    (try simp only [Nat.reduceMul, Nat.zero_mul, Nat.zero_add, Nat.reduceAdd] at hf7_0)
    replace p7 := eq_true p7
    replace q7 := eq_true q7
    have hq18 : (0 : Int) < (ad.length : Int) := (by have h_ : (0 : Int) < ((ad.length : Int) : Int) := of_decide_eq_true ah_; first | exact h_ | (have e_ := (Kd.S_reads' af.out).1; omega) | simpa only [List.length_set, List.length_set] using h_)
    obtain ⟨oki18, ce18, hcl18, hM18, hcc18, hok18, hbk18⟩ := Kd.S_borrow af.out [] (0 : Int) (by omega) hq18
    obtain ⟨ve18_0, rfl, ge18_0⟩ := hM18
    have hv18 := hcc18 0 _ rfl
    rw [Nat.add_zero, show ((Kd.slice 3 (Kd.int .i64))).sz = 1 from rfl, Nat.mul_one] at hv18
    replace hv18 := Option.some.inj (hv18.symm.trans HX582_0.out)
    subst hv18
    clear hcc18 hcl18
    replace ge18_0 := (show Kd.R (Kd.int .i64) 3 _ _ _ _ (rd_L1 ad 0) from ge18_0)
    have HP18 := Kd.R_putg ge18_0 (0 : Int) (aj.length : Int)
    have HN0_go7 := am_ (show g ≠ go7 from by have h_ := IsS125.own_ne HI0.out aH.out (by decide); intro e_; exact h_ (by rw [e_]; rfl))
    rw [← bw.out] at HP18
    have HS18 := hbk18 HP18.2 (fun k_ e_ => by injection e_ with e_; subst e_; exact ge18_0.1 _ rfl) (x' := bg) (Kd.M_row HP18.1)
    rw [← bx.out] at HS18
    have HQ18 := am_ HS18
    clear HP18 HS18 hbk18 hok18
    refine start_ (n := 9) (S := fun w' => w'.cell? ⟨ag, 0, none⟩ = some (.slice aD aj.length aE) ∧ w'.cell? ⟨ag, 1, none⟩ = some (.slice (some aM) ad.length aN) ∧ w'.cell? aM = some (.slice (some ⟨go7, 0, none⟩) (rd_L1 ad 0).length c582_0)) (ds := [8]) (bl 9 0) (by kernel_rfl) rfl rfl ⟨(blk_cell ab.out 0).trans rfl, (blk_cell ab.out 1).trans rfl, aG⟩ (fun hHeld => ?_); refine with_tabW spec_l5Bent.tab4 spec_l5Bent.bits4 (fun HT_ HW_ => ?_)
    generalize w16.drew = w17 at ai af aa ab HI0 HK HB GG7 aH HQ18 bo HX582_0 hf7_0 aG bf hHeld ⊢
    refine pu_ 0 10 (bl 9 1) HT_ ?_
    refine pu_ 4 14 (bl 9 17) HT_ ?_
    refine tk_ 1 11 (bl 9 19) HT_ HW_ hHeld ?_
    refine pu_ 2 12 (bl 9 23) HT_ ?_
    refine tk_ 3 13 (bl 9 31) HT_ HW_ hHeld ?_
    refine tk_ 5 15 (bl 9 63) HT_ HW_ hHeld ?_
    refine pu_ 6 16 (bl 9 127) HT_ ?_
    refine pu_ 7 17 (bl 9 255) HT_ ?_
    refine last_ (i := 8) (N := none) (bl 9 511) rfl rfl (one_of HT_.out (by kernel_rfl)) (by decide) (fun K hK => ?_)
    refine skip_ (w1 := ?_) (by rfl) rfl ?_ ?_
    rotate_left
    ·go_simp
     rfl
    refine hK.out _ _ ?_
    clear hK K
    refine done_ (done_of HT_.out (by kernel_rfl)) ?_
    have n0_ : Aside0 (Kd.R Kd.bool 4 (w17.setCell ⟨go7, 0, none⟩ (.int .i64 (aj.length : Int))) w.heap.size (fun _ => True) (.slice aD aj.length aE) aj) := ⟨by refine rr_ ?_; exact Kd.R_mono (Kd.R_far (p := ⟨go7, 0, none⟩) (Kd.R_types ai.out GG7.out (by decide)) (fun _ hk => hk.2) (.int .i64 (aj.length : Int))) (fun _ hk => trivial)⟩
    have n1_ : Aside0 (Kd.S (Kd.slice 3 (Kd.int .i64)) 67 (w17.setCell ⟨go7, 0, none⟩ (.int .i64 (aj.length : Int))) w.heap.size (fun _ => True) (.slice (some aM) ad.length aN) bq) := ⟨by refine rs_ ?_; exact HQ18.out⟩
    have n2_ : Aside0 ((w17.setCell ⟨go7, 0, none⟩ (.int .i64 (aj.length : Int))).heap[ae]? = some (.cells #[.slice none 0 0, .slice none 0 0] 27 (0, 0))) := ⟨by refine rb_ ?_; refine blk_far ?_ (by have h_ := Kd.R_ne aH.out aa.out (by decide); intro e_; exact h_ (by rw [e_]; rfl)) _; refine rb_ ?_; exact aa.out⟩
    have n3_ : Aside0 ((w17.setCell ⟨go7, 0, none⟩ (.int .i64 (aj.length : Int))).heap[ag]? = some (.cells #[.slice aD aj.length aE, .slice (some aM) ad.length aN] 27 (0, 0))) := ⟨by refine rb_ ?_; refine blk_far ?_ (by have h_ := Kd.R_ne aH.out ab.out (by decide); intro e_; exact h_ (by rw [e_]; rfl)) _; refine rb_ ?_; exact ab.out⟩
    have n4_ : Aside0 (IsS125 w0 (w17.setCell ⟨go7, 0, none⟩ (.int .i64 (aj.length : Int))) g s0_0 aI aJ) := ⟨by repeat (first | (with_reducible first | exact HI0.out | apply IsS125.alloc | apply IsS125.drewN | apply IsS125.drew | apply IsS125.set_1 | apply IsS125.set_2 | refine IsS125.far ?_ HN0_go7.out _ | refine IsS125.far ?_ ah.out _ | refine IsS125.far ?_ al.out _) | exact HI0.out)⟩
    have n5_ : Aside0 (KeepBut w (w17.setCell ⟨go7, 0, none⟩ (.int .i64 (aj.length : Int))) g none) := ⟨by repeat (first | (with_reducible first | exact HK.out | apply KeepBut.set_ | apply keep_drewN | apply keep_drew | apply keep_alloc | refine keep_far ?_ GB7.out _ | refine keep_far ?_ ak.out _ | refine keep_far ?_ au.out _) | exact HK.out)⟩
    have n6_ : Aside0 (Below w0.heap.size w0 (w17.setCell ⟨go7, 0, none⟩ (.int .i64 (aj.length : Int)))) := ⟨by repeat (first | (with_reducible first | exact HB.out | apply below_alloc | apply pw_below_drewN | apply below_drew1 | refine below_set ?_ (Nat.le_trans HL.out GB7.out) | refine below_set ?_ (IsS125.ge HI0.out) | refine below_set ?_ an.out | refine below_set ?_ ax.out) | exact HB.out)⟩
    (try clear ai)
    (try clear af)
    (try clear aa)
    (try clear ab)
    (try clear HI0)
    (try clear HK)
    (try clear HB)
    generalize (w17.setCell ⟨go7, 0, none⟩ (.int .i64 (aj.length : Int))) = w20 at n0_ n1_ n2_ n3_ n4_ n5_ n6_ ⊢
    have ai := n0_; have af := n1_; have aa := n2_; have ab := n3_; have HI0 := n4_; have HK := n5_; have HB := n6_
    clear n0_ n1_ n2_ n3_ n4_ n5_ n6_
    have bQ := ck_ (v := (.slice aD aj.length aE)) ab 0 rfl
    have bR := ck_ (v := (.slice (some aM) ad.length aN)) ab 1 rfl
    have bS := blk_frozen ab.out 0
    have bT := blk_frozen ab.out 1
    have cS := ao.out
    have cT := ah.out
    have bU := ck_ (v := (.slice none 0 0)) aa 0 rfl
    have bV := ck_ (v := (.slice none 0 0)) aa 1 rfl
    have bW := blk_frozen aa.out 0
    have bX := blk_frozen aa.out 1
    try go_wp2
    refine bodyPost_ret (results_cell_row rfl _ _ ae 27 #[.slice aD aj.length aE, .slice (some aM) ad.length aN] (0, 0) _ rfl (by refine rb_ ?_; refine blk_put (cs := #[.slice aD aj.length aE, .slice none 0 0]) ?_ 1 _ rfl; refine rb_ ?_; refine blk_put (cs := #[.slice none 0 0, .slice none 0 0]) ?_ 0 _ rfl; refine rb_ ?_; exact aa.out) Try.underlying27 rfl (by kernel_rfl)) rfl ?_
    exact ⟨_, _, by first | rfl | (simp [errW_none, errW_some] <;> rfl) | (simp [*, errW_none, errW_some] <;> rfl), by refine rr_ ?_; exact Kd.R_mono (Kd.R_far (p := ⟨ae, 1, none⟩) (Kd.R_far (p := ⟨ae, 0, none⟩) (Kd.R_types ai.out aa.out (by decide)) (fun _ hk => hk.2) (.slice aD aj.length aE)) (fun _ hk => hk.2) (.slice (some aM) ad.length aN)) (fun _ hk => trivial), by refine rs_ ?_; exact Kd.S_mono (Kd.S_far (p := ⟨ae, 1, none⟩) (Kd.S_far (p := ⟨ae, 0, none⟩) (Kd.S_types af.out aa.out (by decide)) (fun _ hk => hk.2) (.slice aD aj.length aE)) (fun _ hk => hk.2) (.slice (some aM) ad.length aN)) (fun _ hk => trivial), by exact zp36_3_ HI0.out ah.out al.out, by exact zp36_4_ HB.out (IsS125.ge HI0.out) an.out ax.out, by exact zp36_5_ HK.out ak.out au.out⟩
   ·rw [if_neg c6] at H
    exact absurd H (by simp)
  ·rw [if_neg c5] at H
   exact absurd H (by simp)
 ·rw [if_neg c4] at H
  have c4b0 : (aw == 0) = false := beq_eq_false_iff_ne.mpr c4
  have c4b1 : (aw != 0) = true := bne_iff_ne.mpr c4
  by_cases c24 : aw = 1
  ·rw [if_pos c24] at H
   have c24b0 : (aw == 1) = true := beq_iff_eq.mpr c24
   have c24b1 : (aw != 1) = false := bne_eq_false_iff_eq.mpr c24
   clear c24
   by_cases c25 : aj.length < 140737488355328
   ·rw [if_pos c25] at H
    have LMc25 := am_ c25
    clear c25
    obtain ⟨aZ, hy586⟩ : ∃ y_ : List Bool, y_ = (aj ++ [true]) := ⟨_, rfl⟩
    replace H : (some (aZ, ad, aI, aJ)) = some (r1, r2, r3, r4) := by first | (rw [hy586]; with_reducible exact H) | (have H2_ := (Option.bind_some _ _).symm.trans H; rw [hy586]; with_reducible exact H2_) | (have H2_ := (Option.bind_some _ _).symm.trans H; with_reducible exact H2_) | with_reducible exact H | (rw [hy586]; exact H) | exact H
    have bz := am_ hy586
    clear hy586
    simp only [Option.some.injEq, Prod.mk.injEq] at H
    obtain ⟨rfl, rfl, rfl, rfl⟩ := H
    go_enter Try.func88, Try.ntmps88
    go_wp2_with (first | ((with_reducible refine gate_dst (N := 2) rfl ?_); refine box_event ?hg (N := 2) ?hd (cs := #[.slice none 0 0, .slice none 0 0]) (t := 27) ?hr ?_; (case hd => rfl); (case hg => rfl); (case hr => first | (go_simp; done) | (go_simp; rfl)); intro ae hg w26 hbox hb; have n0_ := am_ (IsS125.below (zp36_0_ HI0.out) hb); have n1_ := am_ (KeepBut.trans (k0_ HK.out) (KeepBut.of_below hb g none) (.inl rfl)); have n2_ := am_ (below_step (b1_ HB.out (IsS125.ge HI0.out)) hb); have n3_ := am_ (hbox); have n4_ := am_ ((by rw [hg]; exact (keep_size (w := w) (g := g) (row := none) (k0_ HK.out)) : w.heap.size ≤ ae)); have n5_ := am_ ((Nat.le_trans HW0.out (by rw [hg]; exact (keep_size (w := w) (g := g) (row := none) (k0_ HK.out)) : w.heap.size ≤ ae) : w0.heap.size ≤ ae)); have n6_ := am_ ((by rw [hg]; exact Nat.ne_of_lt (IsS125.lt (show IsS125 w0 _ g s0_0 s0_1 s0_2 from by exact zp36_0_ HI0.out)) : g ≠ ae)); have n7_ := am_ ((by rw [hg]; exact Nat.ne_of_gt (IsS125.lt (show IsS125 w0 _ g s0_0 s0_1 s0_2 from by exact zp36_0_ HI0.out)) : ae ≠ g)); clear HI0; clear HK; clear HB; have HI0 := n0_; have HK := n1_; have HB := n2_; have aa := n3_; have ak := n4_; have an := n5_; have ah := n6_; have ao := n7_; clear n0_ n1_ n2_ n3_ n4_ n5_ n6_ n7_; clear hb hbox hg) | ((with_reducible refine gate_callee (f := 86) rfl ?_); refine gL_ (some 5) Try.func86 #[.pointer (some ⟨g, 0, none⟩), .int .i64 5] ?_; (with_reducible refine (spec_l5Draw.calls k g s0_0 s0_1 s0_2 5 aj ad ap aq w0 _ ?side1 ?side2 A2.out).mono ?_); (case side1 => exact zp36_1_ HI0.out ah.out); (case side2 => exact zp36_2_ HB.out (IsS125.ge HI0.out) an.out); rintro e w27 ⟨bh, bi, rfl, ho0, ho1, hi, hb, hk⟩; refine ⟨_, rfl, ?_⟩; have n0_ := am_ (KeepBut.blk hk (g' := ae) (o := .cells #[.slice none 0 0, .slice none 0 0] 27 (0, 0)) (rb_ aa.out) ao.out (by simp)); have n1_ := am_ (Kd.R_lower ho0 (keep_size (w := w) (g := g) (row := none) (k1_ HK.out ak.out))); have n2_ := am_ (Kd.S_lower ho1 (keep_size (w := w) (g := g) (row := none) (k1_ HK.out ak.out))); have n3_ := am_ (KeepBut.trans (k1_ HK.out ak.out) hk (.inl rfl)); have n4_ := am_ (hb); have n5_ := am_ (hi); clear aa; clear HK; clear HB; clear HI0; have aa := n0_; have ai := n1_; have af := n2_; have HK := n3_; have HB := n4_; have HI0 := n5_; clear n0_ n1_ n2_ n3_ n4_ n5_; (try clear hb); (try clear hb2); (try clear hk); (try clear hi); (try clear ho0); (try clear ho1)) | ((with_reducible refine gate_dst (N := 3) rfl ?_); refine box_event ?hg (N := 3) ?hd (cs := #[.slice none 0 0, .slice none 0 0]) (t := 27) ?hr ?_; (case hd => rfl); (case hg => rfl); (case hr => first | (go_simp; done) | (go_simp; rfl)); intro ag hg w28 hbox hb; have n0_ := am_ (Kd.R_below (rr_ ai.out) hb); have n1_ := am_ (Kd.S_below (rs_ af.out) hb); have n2_ := am_ (IsS125.below (zp36_1_ HI0.out ah.out) hb); have n3_ := am_ (blk_below (rb_ aa.out) hb); have n4_ := am_ (KeepBut.trans (k1_ HK.out ak.out) (KeepBut.of_below hb g none) (.inl rfl)); have n5_ := am_ (below_step (b2_ HB.out (IsS125.ge HI0.out) an.out) hb); have n6_ := am_ (hbox); have n7_ := am_ ((by rw [hg]; exact (keep_size (w := w) (g := g) (row := none) (k1_ HK.out ak.out)) : w.heap.size ≤ ag)); have n8_ := am_ ((Nat.le_trans HW0.out (by rw [hg]; exact (keep_size (w := w) (g := g) (row := none) (k1_ HK.out ak.out)) : w.heap.size ≤ ag) : w0.heap.size ≤ ag)); have n9_ := am_ ((by rw [hg]; exact Nat.ne_of_lt (blk_lt (rb_ aa.out)) : ae ≠ ag)); have n10_ := am_ ((by rw [hg]; exact Nat.ne_of_gt (blk_lt (rb_ aa.out)) : ag ≠ ae)); have n11_ := am_ ((by rw [hg]; exact Nat.ne_of_lt (IsS125.lt (show IsS125 w0 _ g s0_0 ap aq from by exact zp36_1_ HI0.out ah.out)) : g ≠ ag)); have n12_ := am_ ((by rw [hg]; exact Nat.ne_of_gt (IsS125.lt (show IsS125 w0 _ g s0_0 ap aq from by exact zp36_1_ HI0.out ah.out)) : ag ≠ g)); clear ai; clear af; clear HI0; clear aa; clear HK; clear HB; have ai := n0_; have af := n1_; have HI0 := n2_; have aa := n3_; have HK := n4_; have HB := n5_; have ab := n6_; have au := n7_; have ax := n8_; have am := n9_; have ay := n10_; have al := n11_; have av := n12_; clear n0_ n1_ n2_ n3_ n4_ n5_ n6_ n7_ n8_ n9_ n10_ n11_ n12_; clear hb hbox hg; obtain ⟨aX, aY, bE⟩ := Kd.R_slice ai.out; subst bE; have cU := ay.out; have cV := am.out; have cW := av.out; have cX := al.out; have bY := ck_ (v := (.slice none 0 0)) ab 0 rfl; have bZ := ck_ (v := (.slice none 0 0)) ab 1 rfl; have ca := blk_frozen ab.out 0; have cb := blk_frozen ab.out 1; obtain ⟨aT, aU, bF⟩ := Kd.S_slice af.out; subst bF) | ((with_reducible refine gate_callee (f := 107) rfl ?_); refine gL_ (some 7) Try.func107 #[.pointer (some ⟨g, 0, none⟩), .int .i64 12] ?_; (with_reducible refine (spec_l1Below.calls g s0_0 ap aq 12 aw aI aJ w0 _ ?side1 ?side2 A3.out).mono ?_); (case side1 => exact zp36_3_ HI0.out ah.out al.out); (case side2 => exact zp36_4_ HB.out (IsS125.ge HI0.out) an.out ax.out); rintro e w34 ⟨rfl, hi, hb, hk⟩; refine ⟨_, rfl, ?_⟩; have n0_ := am_ (KeepBut.blk hk (g' := ae) (o := .cells #[.slice none 0 0, .slice none 0 0] 27 (0, 0)) (by refine rb_ ?_; refine blk_far ?_ am.out _; refine rb_ ?_; refine blk_far ?_ am.out _; refine rb_ ?_; exact aa.out) ao.out (by simp)); have n1_ := am_ (Kd.R_mono (Kd.R_keep (IsS125.apart (show IsS125 w0 _ g s0_0 ap aq from by exact zp36_3_ HI0.out ah.out al.out) (rr_ (Kd.R_mono (Kd.R_far (p := ⟨ag, 1, none⟩) (Kd.R_far (p := ⟨ag, 0, none⟩) (Kd.R_types ai.out ab.out (by decide)) (fun _ hk => hk.2) (.slice aX aj.length aY)) (fun _ hk => hk.2) (.slice aT ad.length aU)) (fun _ h_ => h_.1))) (by decide)) hk (fun _ h => h.2)) (fun _ h => h.1)); have n2_ := am_ (Kd.S_mono (Kd.S_keep (IsS125.apartS (show IsS125 w0 _ g s0_0 ap aq from by exact zp36_3_ HI0.out ah.out al.out) (rs_ (Kd.S_mono (Kd.S_far (p := ⟨ag, 1, none⟩) (Kd.S_far (p := ⟨ag, 0, none⟩) (Kd.S_types af.out ab.out (by decide)) (fun _ hk => hk.2) (.slice aX aj.length aY)) (fun _ hk => hk.2) (.slice aT ad.length aU)) (fun _ h_ => h_.1))) (by decide)) hk (fun _ h => h.2)) (fun _ h => h.1)); have n3_ := am_ (KeepBut.blk hk (g' := ag) (o := .cells #[.slice aX aj.length aY, .slice aT ad.length aU] 27 (0, 0)) (by refine rb_ ?_; refine blk_put (cs := #[.slice aX aj.length aY, .slice none 0 0]) ?_ 1 _ rfl; refine rb_ ?_; refine blk_put (cs := #[.slice none 0 0, .slice none 0 0]) ?_ 0 _ rfl; refine rb_ ?_; exact ab.out) av.out (by simp)); have n4_ := am_ (KeepBut.trans (k2_ HK.out ak.out au.out) hk (.inl rfl)); have n5_ := am_ (hb); have n6_ := am_ (hi); clear aa; clear ai; clear af; clear ab; clear HK; clear HB; clear HI0; have aa := n0_; have ai := n1_; have af := n2_; have ab := n3_; have HK := n4_; have HB := n5_; have HI0 := n6_; clear n0_ n1_ n2_ n3_ n4_ n5_ n6_; (try clear hb); (try clear hb2); (try clear hk); (try clear hi); have cc := ck_ (v := (.slice aX aj.length aY)) ab 0 rfl; have cd := ck_ (v := (.slice aT ad.length aU)) ab 1 rfl; have ce := blk_frozen ab.out 0; have cf := blk_frozen ab.out 1) | ((with_reducible refine gate_builtin (b := .append) (xs := #[.tmp 21, .tmp 22]) rfl ?_); at_builtin; refine Kd.R_append Kd.bool w.heap.size rfl (.tmp 21) (.tmp 22) 22 4 (.bool false) 1 rfl Try.underlying22 info4 rfl (by decide) (by omega) (.slice aX aj.length aY) aj true [.bool true] (fun _ => True) (fun _ => False) rfl rfl ?aP (fun _ hk => hk.elim) ?aF ?aO (Below.refl _ _) ?aS ?aL ?_; (case aP => exact rfl); (case aF => exact (fun _ _ => trivial)); (case aO => exact (rr_ ai.out)); (case aS => exact (keep_size (w := w) (g := g) (row := none) (k2_ HK.out ak.out au.out))); (case aL => have := LMc25.out; omega); intro dn w36 ho hb hg hat; rw [← bz.out] at ho; have n0_ := am_ (IsS125.grown (zp36_3_ HI0.out ah.out al.out) hg (IsS125.own_ne HI0.out ai.out (by decide))); have n1_ := am_ (blk_grown (g := ae) (o := .cells #[.slice none 0 0, .slice none 0 0] 27 (0, 0)) (rb_ aa.out) hg (Kd.R_ne ai.out aa.out (by decide))); have n2_ := am_ (Kd.S_over' (rs_ af.out) (Kd.R_typed (rr_ ai.out)) (by decide) hg); have n3_ := am_ (blk_grown (g := ag) (o := .cells #[.slice aX aj.length aY, .slice aT ad.length aU] 27 (0, 0)) (rb_ ab.out) hg (Kd.R_ne ai.out ab.out (by decide))); have n4_ := am_ (below_weaken (b3_ HB.out (IsS125.ge HI0.out) an.out ax.out) HL.out hb); have n5_ := am_ (KeepBut.trans (k2_ HK.out ak.out au.out) (KeepBut.of_grown hg g) (Kd.R_base2 ai.out)); have n6_ := am_ (ho); clear HI0; clear aa; clear af; clear ab; clear HB; clear HK; clear ai; have HI0 := n0_; have aa := n1_; have af := n2_; have ab := n3_; have HB := n4_; have HK := n5_; have bm := n6_; clear n0_ n1_ n2_ n3_ n4_ n5_ n6_; clear ho hb hg hat; obtain ⟨bd, be, bG⟩ := Kd.R_slice bm.out; subst bG; have cg := ck_ (v := (.slice aX aj.length aY)) ab 0 rfl; have ch := ck_ (v := (.slice aT ad.length aU)) ab 1 rfl; have ci := blk_frozen ab.out 0; have cj := blk_frozen ab.out 1; have cY := ao.out; have cZ := ah.out; have ck := ck_ (v := (.slice none 0 0)) aa 0 rfl; have cl := ck_ (v := (.slice none 0 0)) aa 1 rfl; have cm := blk_frozen aa.out 0; have cn := blk_frozen aa.out 1))
    refine bodyPost_ret (results_cell_row rfl _ _ ae 27 #[.slice bd aZ.length be, .slice aT ad.length aU] (0, 0) _ rfl (by refine rb_ ?_; refine blk_put (cs := #[.slice bd aZ.length be, .slice none 0 0]) ?_ 1 _ rfl; refine rb_ ?_; refine blk_put (cs := #[.slice none 0 0, .slice none 0 0]) ?_ 0 _ rfl; refine rb_ ?_; refine blk_far ?_ am.out _; refine rb_ ?_; exact aa.out) Try.underlying27 rfl (by kernel_rfl)) rfl ?_
    exact ⟨_, _, by first | rfl | (simp [errW_none, errW_some] <;> rfl) | (simp [*, errW_none, errW_some] <;> rfl), by refine rr_ ?_; exact Kd.R_mono (Kd.R_far (p := ⟨ae, 1, none⟩) (Kd.R_far (p := ⟨ae, 0, none⟩) (Kd.R_far (p := ⟨ag, 0, none⟩) (Kd.R_types (Kd.R_types bm.out ab.out (by decide)) aa.out (by decide)) (fun _ hk => hk.1.2) (.slice bd aZ.length be)) (fun _ hk => hk.2) (.slice bd aZ.length be)) (fun _ hk => hk.2) (.slice aT ad.length aU)) (fun _ hk => trivial), by refine rs_ ?_; exact Kd.S_mono (Kd.S_far (p := ⟨ae, 1, none⟩) (Kd.S_far (p := ⟨ae, 0, none⟩) (Kd.S_far (p := ⟨ag, 0, none⟩) (Kd.S_types (Kd.S_types af.out ab.out (by decide)) aa.out (by decide)) (fun _ hk => hk.1.2) (.slice bd aZ.length be)) (fun _ hk => hk.2) (.slice bd aZ.length be)) (fun _ hk => hk.2) (.slice aT ad.length aU)) (fun _ hk => trivial), by exact zp36_3_ HI0.out ah.out al.out, by exact zp36_4_ HB.out (IsS125.ge HI0.out) an.out ax.out, by exact zp36_5_ HK.out ak.out au.out⟩
   ·rw [if_neg c25] at H
    exact absurd H (by simp)
  ·rw [if_neg c24] at H
   have c24b0 : (aw == 1) = false := beq_eq_false_iff_ne.mpr c24
   have c24b1 : (aw != 1) = true := bne_iff_ne.mpr c24
   by_cases c41 : aw = 2
   ·rw [if_pos c41] at H
    have c41b0 : (aw == 2) = true := beq_iff_eq.mpr c41
    have c41b1 : (aw != 2) = false := bne_eq_false_iff_eq.mpr c41
    clear c41
    by_cases c42 : 0 < (ad.length : Int)
    ·rw [if_pos c42] at H
     have c42b0 : decide (0 < (ad.length : Int)) = true := decide_eq_true c42
     have c42b1 : decide (0 < ad.length) = true := decide_eq_true (by omega)
     clear c42
     by_cases c43 : (rd_L1 ad 0).length < 17592186044416
     ·rw [if_pos c43] at H
      have LMc43 := am_ c43
      clear c43
      obtain ⟨az, hy590⟩ : ∃ y_ : List Int, y_ = ((rd_L1 ad 0) ++ [0]) := ⟨_, rfl⟩
      replace H : (some (aj, (ad.set (0 : Int).toNat az), aI, aJ)) = some (r1, r2, r3, r4) := by first | (rw [hy590]; with_reducible exact H) | (have H2_ := (Option.bind_some _ _).symm.trans H; rw [hy590]; with_reducible exact H2_) | (have H2_ := (Option.bind_some _ _).symm.trans H; with_reducible exact H2_) | with_reducible exact H | (rw [hy590]; exact H) | exact H
      have bA := am_ hy590
      clear hy590
      obtain ⟨br, hy593⟩ : ∃ y_ : List (List Int), y_ = (ad.set (0 : Int).toNat az) := ⟨_, rfl⟩
      replace H : (some (aj, br, aI, aJ)) = some (r1, r2, r3, r4) := by first | (rw [hy593]; with_reducible exact H) | (have H2_ := (Option.bind_some _ _).symm.trans H; rw [hy593]; with_reducible exact H2_) | (have H2_ := (Option.bind_some _ _).symm.trans H; with_reducible exact H2_) | with_reducible exact H | (rw [hy593]; exact H) | exact H
      have bB := am_ hy593
      clear hy593
      simp only [Option.some.injEq, Prod.mk.injEq] at H
      obtain ⟨rfl, rfl, rfl, rfl⟩ := H
      go_enter Try.func88, Try.ntmps88
      try go_wp2_with (first | ((with_reducible refine gate_dst (N := 2) rfl ?_); refine box_event ?hg (N := 2) ?hd (cs := #[.slice none 0 0, .slice none 0 0]) (t := 27) ?hr ?_; (case hd => rfl); (case hg => rfl); (case hr => first | (go_simp; done) | (go_simp; rfl)); intro ae hg w45 hbox hb; have n0_ := am_ (IsS125.below (zp36_0_ HI0.out) hb); have n1_ := am_ (KeepBut.trans (k0_ HK.out) (KeepBut.of_below hb g none) (.inl rfl)); have n2_ := am_ (below_step (b1_ HB.out (IsS125.ge HI0.out)) hb); have n3_ := am_ (hbox); have n4_ := am_ ((by rw [hg]; exact (keep_size (w := w) (g := g) (row := none) (k0_ HK.out)) : w.heap.size ≤ ae)); have n5_ := am_ ((Nat.le_trans HW0.out (by rw [hg]; exact (keep_size (w := w) (g := g) (row := none) (k0_ HK.out)) : w.heap.size ≤ ae) : w0.heap.size ≤ ae)); have n6_ := am_ ((by rw [hg]; exact Nat.ne_of_lt (IsS125.lt (show IsS125 w0 _ g s0_0 s0_1 s0_2 from by exact zp36_0_ HI0.out)) : g ≠ ae)); have n7_ := am_ ((by rw [hg]; exact Nat.ne_of_gt (IsS125.lt (show IsS125 w0 _ g s0_0 s0_1 s0_2 from by exact zp36_0_ HI0.out)) : ae ≠ g)); clear HI0; clear HK; clear HB; have HI0 := n0_; have HK := n1_; have HB := n2_; have aa := n3_; have ak := n4_; have an := n5_; have ah := n6_; have ao := n7_; clear n0_ n1_ n2_ n3_ n4_ n5_ n6_ n7_; clear hb hbox hg) | ((with_reducible refine gate_callee (f := 86) rfl ?_); refine gL_ (some 5) Try.func86 #[.pointer (some ⟨g, 0, none⟩), .int .i64 5] ?_; (with_reducible refine (spec_l5Draw.calls k g s0_0 s0_1 s0_2 5 aj ad ap aq w0 _ ?side1 ?side2 A2.out).mono ?_); (case side1 => exact zp36_1_ HI0.out ah.out); (case side2 => exact zp36_2_ HB.out (IsS125.ge HI0.out) an.out); rintro e w46 ⟨bh, bi, rfl, ho0, ho1, hi, hb, hk⟩; refine ⟨_, rfl, ?_⟩; have n0_ := am_ (KeepBut.blk hk (g' := ae) (o := .cells #[.slice none 0 0, .slice none 0 0] 27 (0, 0)) (rb_ aa.out) ao.out (by simp)); have n1_ := am_ (Kd.R_lower ho0 (keep_size (w := w) (g := g) (row := none) (k1_ HK.out ak.out))); have n2_ := am_ (Kd.S_lower ho1 (keep_size (w := w) (g := g) (row := none) (k1_ HK.out ak.out))); have n3_ := am_ (KeepBut.trans (k1_ HK.out ak.out) hk (.inl rfl)); have n4_ := am_ (hb); have n5_ := am_ (hi); clear aa; clear HK; clear HB; clear HI0; have aa := n0_; have ai := n1_; have af := n2_; have HK := n3_; have HB := n4_; have HI0 := n5_; clear n0_ n1_ n2_ n3_ n4_ n5_; (try clear hb); (try clear hb2); (try clear hk); (try clear hi); (try clear ho0); (try clear ho1)) | ((with_reducible refine gate_dst (N := 3) rfl ?_); refine box_event ?hg (N := 3) ?hd (cs := #[.slice none 0 0, .slice none 0 0]) (t := 27) ?hr ?_; (case hd => rfl); (case hg => rfl); (case hr => first | (go_simp; done) | (go_simp; rfl)); intro ag hg w47 hbox hb; have n0_ := am_ (Kd.R_below (rr_ ai.out) hb); have n1_ := am_ (Kd.S_below (rs_ af.out) hb); have n2_ := am_ (IsS125.below (zp36_1_ HI0.out ah.out) hb); have n3_ := am_ (blk_below (rb_ aa.out) hb); have n4_ := am_ (KeepBut.trans (k1_ HK.out ak.out) (KeepBut.of_below hb g none) (.inl rfl)); have n5_ := am_ (below_step (b2_ HB.out (IsS125.ge HI0.out) an.out) hb); have n6_ := am_ (hbox); have n7_ := am_ ((by rw [hg]; exact (keep_size (w := w) (g := g) (row := none) (k1_ HK.out ak.out)) : w.heap.size ≤ ag)); have n8_ := am_ ((Nat.le_trans HW0.out (by rw [hg]; exact (keep_size (w := w) (g := g) (row := none) (k1_ HK.out ak.out)) : w.heap.size ≤ ag) : w0.heap.size ≤ ag)); have n9_ := am_ ((by rw [hg]; exact Nat.ne_of_lt (blk_lt (rb_ aa.out)) : ae ≠ ag)); have n10_ := am_ ((by rw [hg]; exact Nat.ne_of_gt (blk_lt (rb_ aa.out)) : ag ≠ ae)); have n11_ := am_ ((by rw [hg]; exact Nat.ne_of_lt (IsS125.lt (show IsS125 w0 _ g s0_0 ap aq from by exact zp36_1_ HI0.out ah.out)) : g ≠ ag)); have n12_ := am_ ((by rw [hg]; exact Nat.ne_of_gt (IsS125.lt (show IsS125 w0 _ g s0_0 ap aq from by exact zp36_1_ HI0.out ah.out)) : ag ≠ g)); clear ai; clear af; clear HI0; clear aa; clear HK; clear HB; have ai := n0_; have af := n1_; have HI0 := n2_; have aa := n3_; have HK := n4_; have HB := n5_; have ab := n6_; have au := n7_; have ax := n8_; have am := n9_; have ay := n10_; have al := n11_; have av := n12_; clear n0_ n1_ n2_ n3_ n4_ n5_ n6_ n7_ n8_ n9_ n10_ n11_ n12_; clear hb hbox hg; obtain ⟨aA, aB, bH⟩ := Kd.R_slice ai.out; subst bH; have da := ay.out; have db := am.out; have dc := av.out; have dd := al.out; have co := ck_ (v := (.slice none 0 0)) ab 0 rfl; have cp := ck_ (v := (.slice none 0 0)) ab 1 rfl; have cq := blk_frozen ab.out 0; have cr := blk_frozen ab.out 1; obtain ⟨bk, aK, bI⟩ := Kd.S_slice af.out; subst bI) | ((with_reducible refine gate_callee (f := 107) rfl ?_); refine gL_ (some 7) Try.func107 #[.pointer (some ⟨g, 0, none⟩), .int .i64 12] ?_; (with_reducible refine (spec_l1Below.calls g s0_0 ap aq 12 aw aI aJ w0 _ ?side1 ?side2 A3.out).mono ?_); (case side1 => exact zp36_3_ HI0.out ah.out al.out); (case side2 => exact zp36_4_ HB.out (IsS125.ge HI0.out) an.out ax.out); rintro e w53 ⟨rfl, hi, hb, hk⟩; refine ⟨_, rfl, ?_⟩; have n0_ := am_ (KeepBut.blk hk (g' := ae) (o := .cells #[.slice none 0 0, .slice none 0 0] 27 (0, 0)) (by refine rb_ ?_; refine blk_far ?_ am.out _; refine rb_ ?_; refine blk_far ?_ am.out _; refine rb_ ?_; exact aa.out) ao.out (by simp)); have n1_ := am_ (Kd.R_mono (Kd.R_keep (IsS125.apart (show IsS125 w0 _ g s0_0 ap aq from by exact zp36_3_ HI0.out ah.out al.out) (rr_ (Kd.R_mono (Kd.R_far (p := ⟨ag, 1, none⟩) (Kd.R_far (p := ⟨ag, 0, none⟩) (Kd.R_types ai.out ab.out (by decide)) (fun _ hk => hk.2) (.slice aA aj.length aB)) (fun _ hk => hk.2) (.slice bk ad.length aK)) (fun _ h_ => h_.1))) (by decide)) hk (fun _ h => h.2)) (fun _ h => h.1)); have n2_ := am_ (Kd.S_mono (Kd.S_keep (IsS125.apartS (show IsS125 w0 _ g s0_0 ap aq from by exact zp36_3_ HI0.out ah.out al.out) (rs_ (Kd.S_mono (Kd.S_far (p := ⟨ag, 1, none⟩) (Kd.S_far (p := ⟨ag, 0, none⟩) (Kd.S_types af.out ab.out (by decide)) (fun _ hk => hk.2) (.slice aA aj.length aB)) (fun _ hk => hk.2) (.slice bk ad.length aK)) (fun _ h_ => h_.1))) (by decide)) hk (fun _ h => h.2)) (fun _ h => h.1)); have n3_ := am_ (KeepBut.blk hk (g' := ag) (o := .cells #[.slice aA aj.length aB, .slice bk ad.length aK] 27 (0, 0)) (by refine rb_ ?_; refine blk_put (cs := #[.slice aA aj.length aB, .slice none 0 0]) ?_ 1 _ rfl; refine rb_ ?_; refine blk_put (cs := #[.slice none 0 0, .slice none 0 0]) ?_ 0 _ rfl; refine rb_ ?_; exact ab.out) av.out (by simp)); have n4_ := am_ (KeepBut.trans (k2_ HK.out ak.out au.out) hk (.inl rfl)); have n5_ := am_ (hb); have n6_ := am_ (hi); clear aa; clear ai; clear af; clear ab; clear HK; clear HB; clear HI0; have aa := n0_; have ai := n1_; have af := n2_; have ab := n3_; have HK := n4_; have HB := n5_; have HI0 := n6_; clear n0_ n1_ n2_ n3_ n4_ n5_ n6_; (try clear hb); (try clear hb2); (try clear hk); (try clear hi)))
      replace ai := am_ (Kd.R_drew ai.out)
      replace af := am_ (Kd.S_drew af.out)
      replace aa := am_ (blk_drew aa.out)
      replace ab := am_ (blk_drew ab.out)
      replace HI0 := am_ (IsS125.drew HI0.out)
      replace HK := am_ (keep_drew HK.out)
      replace HB := am_ (below_drew1 HB.out)
      have p589 : 0 ≤ (0 : Int) := (by omega)
      have q589 : 0 < (ad.length : Int) := of_decide_eq_true ah_
      obtain ⟨de, A589_0, c589_0, e589, aC, hl589_0, hi589_0⟩ := at_L1 (Kd.S_reads' af.out).2.2 0 p589 q589
      cases e589
      obtain ⟨ce589, hce589, hMe589, hcc589⟩ := Kd.S_get af.out [] 0 p589 (by first | exact q589 | exact of_decide_eq_true ah_ | (have e_ := (Kd.S_reads' af.out).1; omega))
      obtain ⟨ve589_0, rfl, ge589_0⟩ := hMe589
      have hv589_0 := hcc589 0 _ rfl
      rw [Nat.add_zero, show ((Kd.slice 3 (Kd.int .i64))).sz = 1 from rfl, Nat.mul_one] at hv589_0
      replace hv589_0 := Option.some.inj (hv589_0.symm.trans aC)
      rw [hv589_0] at ge589_0
      have ar := am_ (show Kd.R (Kd.int .i64) 3 _ _ _ _ (rd_L1 ad 0) from ge589_0)
      clear hv589_0 ge589_0
      have HX589_0 := am_ aC
      clear hcc589 hce589
      have qi589 : (0 < ad.length) = True := eq_true (by omega)
      (try rw [show ((0 : Int)).toNat = 0 from rfl] at aC)
      (try rw [Addr.add_zero'] at aC)
      have bp := am_ hi589_0
      have ct := am_ hl589_0
      clear hi589_0 hl589_0
      replace p589 := eq_true p589
      replace q589 := eq_true q589
      obtain ⟨go55, dp, bs, bt, gl55, cl55, HG55⟩ := Kd.S_form af.out (by have h_ : (0 : Int) < ((ad.length : Int) : Int) := of_decide_eq_true ah_; have h2_ : 0 ≤ (0 : Int) := (by omega); omega)
      (first | cases bs | (injection bs with ea_ en_ ec_; (first | subst ea_ | (injection ea_ with ea_; subst ea_)); subst ec_; clear en_))
      have GB55 := am_ bt
      have GG55 := am_ HG55
      clear bt gl55 HG55
      (first | simp only [add_plain] at aC | skip)
      obtain ⟨oki55, ce55, hcl55, hM55, hcc55, _, _, hH55⟩ := Kd.S_elem af.out [] (0 : Int) (by omega) (by have h_ : (0 : Int) < ((ad.length : Int) : Int) := of_decide_eq_true ah_; first | exact h_ | (have e_ := (Kd.S_reads' af.out).1; omega) | simpa using h_)
      obtain ⟨ve55_0, rfl, ge55_0⟩ := hM55
      have hv55 := hcc55 0 _ rfl
      have hX55 := HX589_0.out
      (try simp only [add_plain] at hX55)
      (try simp only [Nat.add_zero] at hv55)
      (try rw [show ((Kd.slice 3 (Kd.int .i64))).sz = 1 from rfl, Nat.mul_one] at hv55)
      replace hv55 := Option.some.inj (hv55.symm.trans hX55)
      subst hv55
      clear hX55 hcc55 hcl55
      have UU55 := am_ (show Kd.R (Kd.int .i64) 3 _ w.heap.size oki55 (.slice A589_0 (rd_L1 ad 0).length c589_0) (rd_L1 ad 0) from ge55_0)
      have HH55 := am_ hH55
      have HN55 := am_ (Kd.S_reads' af.out).1
      clear hH55 ge55_0
      refine start_ (n := 10) (S := fun w' => w'.cell? ⟨ag, 0, none⟩ = some (.slice aA aj.length aB) ∧ w'.cell? ⟨ag, 1, none⟩ = some (.slice (some ⟨go55, 0, none⟩) ad.length aK) ∧ w'.cell? ⟨go55, 0, none⟩ = some (.slice A589_0 (rd_L1 ad 0).length c589_0)) (ds := [9]) (bl 10 0) (by kernel_rfl) rfl rfl ⟨(blk_cell ab.out 0).trans rfl, (blk_cell ab.out 1).trans rfl, aC⟩ (fun hHeld => ?_); refine with_tabW spec_l5Bent.tab8 spec_l5Bent.bits8 (fun HT_ HW_ => ?_)
      generalize w53.drew = w54 at ai af aa ab HI0 HK HB GG55 HH55 ar bp HX589_0 UU55 aC hHeld ⊢
      refine pu_ 0 27 (bl 10 1) HT_ ?_
      refine pu_ 2 29 (bl 10 5) HT_ ?_
      refine tk_ 1 28 (bl 10 7) HT_ HW_ hHeld ?_
      refine tk_ 3 30 (bl 10 15) HT_ HW_ hHeld ?_
      refine pu_ 4 31 (bl 10 31) HT_ ?_
      refine tk_ 5 32 (bl 10 63) HT_ HW_ hHeld ?_
      refine on_ 6 (some 33) (bl 10 127) HT_ (fun K hK => ?_)
      refine value_ (w1 := ?_) (v := ?_) (by rfl) rfl ?_ ?_
      rotate_left 2
      ·go_simp
       constructor
       ·rfl
       ·rfl
      refine hK.out _ _ ⟨(blk_cell (blk_alloc ab.out _) 0).trans rfl, (blk_cell (blk_alloc ab.out _) 1).trans rfl, (World.cell?_alloc_lt _ _ _ (World.block_lt_of_cell? _ _ (hHeld.2.2))).trans (hHeld.2.2)⟩ (fun hHeld => ?_)
      clear hK K
      refine norm_ (a' := ?_) ?_ ?_
      rotate_left
      ·show Act.put _ (some 33) _ = _
       simp only [pn_, sz_, ss_, i64_w, i32_w]
       rfl
      refine on_ 7 (some 34) (bl 10 255) HT_ (fun K hK => ?_)
      refine Kd.R_append_step (Kd.int .i64) w.heap.size (by rfl) (.tmp 32) (.tmp 33) 67 3 (.int .i64 0) 8 rfl Try.underlying67 info3 rfl (by decide) (by omega) (.slice A589_0 (rd_L1 ad 0).length c589_0) (rd_L1 ad 0) 0 [.int .i64 0] (fun k_ => oki55 k_ ∨ ((fun _ => True)) k_ ∧ w54.heap.size ≤ k_) (fun _ => False) rfl rfl ?aP (fun _ hk => hk.elim) ?aF ?aO (Below.refl _ _) ?aS ?aL ?_
      (case aP => exact rfl)
      (case aF => exact (fun k_ hk => .inr ⟨trivial, hk⟩))
      (case aO => exact (by refine rr_ ?_; exact Kd.R_mono UU55.out (fun _ hk => .inl hk)))
      (case aS => exact (keep_size (w := w) (g := g) (row := none) (k2_ HK.out ak.out au.out)))
      (case aL => have := LMc43.out; omega)
      intro dq w56 ho hb hg hat
      (first | have bu := cell_grown hg (hHeld.2.2) (by first | (rw [add_block]; exact (fun e_ => ((ar.out.1 _ e_.symm).2) rfl)) | (show some (Addr.add _ _).block ≠ _; rw [add_block]; exact (fun e_ => ((ar.out.1 _ e_.symm).2) rfl)) | exact (fun e_ => ((ar.out.1 _ e_.symm).2) rfl)) | have bu := cell_grown hg (cell_unalloc (hHeld.2.2) (by first | (rw [add_block]; exact Kd.S_lt af.out _ rfl) | (show (Addr.add _ _).block < _; rw [add_block]; exact Kd.S_lt af.out _ rfl) | exact Kd.S_lt af.out _ rfl)) (by first | (rw [add_block]; exact (fun e_ => ((ar.out.1 _ e_.symm).2) rfl)) | (show some (Addr.add _ _).block ≠ _; rw [add_block]; exact (fun e_ => ((ar.out.1 _ e_.symm).2) rfl)) | exact (fun e_ => ((ar.out.1 _ e_.symm).2) rfl)))
      rw [← bA.out] at ho
      replace aa := am_ (blk_grown (g := ae) (o := .cells #[.slice none 0 0, .slice none 0 0] 27 (0, 0)) (rb_ aa.out) hg (Kd.R_ne ar.out aa.out (by decide)))
      replace ai := am_ (Kd.R_over' (v := (.slice A589_0 (rd_L1 ad 0).length c589_0)) (rr_ ai.out) (Kd.R_typed ar.out) (by decide) hg)
      replace ab := am_ (blk_grown (g := ag) (o := .cells #[.slice aA aj.length aB, .slice (some ⟨go55, 0, none⟩) ad.length aK] 27 (0, 0)) (rb_ ab.out) hg (Kd.R_ne ar.out ab.out (by decide)))
      replace HB := am_ (below_weaken (b3_ HB.out (IsS125.ge HI0.out) an.out ax.out) HL.out hb)
      replace HI0 := am_ (IsS125.grown (zp36_3_ HI0.out ah.out al.out) hg (IsS125.own_ne HI0.out ar.out (by decide)))
      replace HK := am_ (KeepBut.trans (k2_ HK.out ak.out au.out) (KeepBut.of_grown hg g) (Kd.R_base2 ar.out))
      replace HH55 := am_ (Kd.H_grown (Kd.H_widen (by repeat (first | exact HH55.out | refine Kd.H_alloc ?_ _ | refine Kd.H_drewN ?_ _ | refine Kd.H_drew ?_))) hg (fun k_ e_ => .inl (UU55.out.1 k_ e_)))
      replace bn := am_ (ho)
      clear af UU55 ar ho hb hg hat
      have p44 : 0 ≤ (0 : Int) := (by omega)
      have q44 : (0 : Int) < ((ad.length : Int) : Int) := of_decide_eq_true ah_
      replace p44 := eq_true p44
      replace q44 := eq_true q44
      obtain ⟨aQ, aR, bv⟩ := Kd.R_slice bn.out
      (first | subst bv | (injection bv with f1_ f2_ f3_; have f4_ := f1_.symm; have f5_ := f3_.symm; clear f1_ f2_ f3_; subst f4_; subst f5_))
      obtain ⟨_, _, hraw57, _, _, hcc57, _⟩ := Kd.H_raw HH55.out (by omega) (by have h_ : (0 : Int) < ((ad.length : Int) : Int) := of_decide_eq_true ah_; first | exact h_ | (have e_ := (HN55.out); omega) | simpa using h_)
      obtain ⟨_, hfr57⟩ := Kd.H_at HH55.out (by omega) (by have h_ : (0 : Int) < ((ad.length : Int) : Int) := of_decide_eq_true ah_; first | exact h_ | (have e_ := (HN55.out); omega) | simpa using h_)
      have bc := hcc57 0 _ rfl
      have hf57_0 := hfr57 0
      (try simp only [Nat.add_zero] at bc hf57_0)
      (try rw [show ((Kd.slice 3 (Kd.int .i64))).sz = 1 from rfl, Nat.mul_one] at bc)
      (try rw [show ((Kd.slice 3 (Kd.int .i64))).sz = 1 from rfl, Nat.mul_one] at hf57_0)
      (try rw [show ((0 : Int)).toNat = 0 from rfl] at bc)
      (try simp only [Nat.reduceMul, Nat.zero_mul, Nat.zero_add, Nat.reduceAdd] at bc)
      (try rw [show ((0 : Int)).toNat = 0 from rfl] at hf57_0)
      (try simp only [Nat.reduceMul, Nat.zero_mul, Nat.zero_add, Nat.reduceAdd] at hf57_0)
      have HP57 := Kd.S_seg0 HH55.out (by omega) (by have h_ : (0 : Int) < ((ad.length : Int) : Int) := of_decide_eq_true ah_; first | exact h_ | (have e_ := (HN55.out); omega) | simpa using h_) (seg := [.slice aQ az.length aR]) (j := 0) (show 1 ≤ 1 from by decide) (x' := az) (Kd.M_row bn.out) (fun _ hk => hk)
      (try simp only [show ((Kd.slice 3 (Kd.int .i64))).sz = 1 from rfl, Nat.mul_one, Nat.add_zero] at HP57)
      clear hcc57 hfr57
      have HN0_go55 := am_ (show g ≠ go55 from by have h_ := IsS125.own_ne HI0.out hraw57 (by decide); intro e_; exact h_ (by rw [e_]; rfl))
      have HNB569_go55 := am_ (show ae ≠ go55 from by have h_ := Kd.R_ne hraw57 aa.out (by decide); intro e_; exact h_ (by rw [e_]; rfl))
      have HNB578_go55 := am_ (show ag ≠ go55 from by have h_ := Kd.R_ne hraw57 ab.out (by decide); intro e_; exact h_ (by rw [e_]; rfl))
      have HS57 := HP57.1
      rw [← bB.out] at HS57
      have HQ57 := am_ HS57
      obtain ⟨_, hgg57⟩ := Kd.R_typed hraw57 go55 rfl
      have GG57_ := am_ hgg57
      clear HP57 HS57 hgg57
      refine hK.out _ _ ⟨(blk_cell ab.out 0).trans rfl, (blk_cell ab.out 1).trans rfl, bu⟩ (fun hHeld => ?_)
      clear hK K
      refine norm_ (a' := ?_) ?_ ?_
      rotate_left
      ·show Act.put _ (some 34) _ = _
       simp only [pn_, sz_, ss_, i64_w, i32_w]
       rfl
      refine pu_ 8 35 (bl 10 511) HT_ ?_
      refine last_ (i := 9) (N := none) (bl 10 1023) rfl rfl (one_of HT_.out (by kernel_rfl)) (by decide) (fun K hK => ?_)
      refine skip_ (w1 := ?_) (by rfl) rfl ?_ ?_
      rotate_left
      ·go_simp
       rfl
      refine hK.out _ _ ?_
      clear hK K
      refine done_ (done_of HT_.out (by kernel_rfl)) ?_
      have n0_ : Aside0 (Kd.R Kd.bool 4 (w56.setCell ⟨go55, 0, none⟩ (.slice aQ az.length aR)) w.heap.size (fun _ => True) (.slice aA aj.length aB) aj) := ⟨by refine rr_ ?_; exact Kd.R_mono (Kd.R_far (p := ⟨go55, 0, none⟩) (Kd.R_types ai.out GG57_.out (by decide)) (fun _ hk => hk.2) (.slice aQ az.length aR)) (fun _ hk => trivial)⟩
      have n1_ : Aside0 (Kd.S (Kd.slice 3 (Kd.int .i64)) 67 (w56.setCell ⟨go55, 0, none⟩ (.slice aQ az.length aR)) w.heap.size (fun _ => True) (.slice (some ⟨go55, 0, none⟩) ad.length aK) br) := ⟨by refine rs_ ?_; exact HQ57.out⟩
      have n2_ : Aside0 ((w56.setCell ⟨go55, 0, none⟩ (.slice aQ az.length aR)).heap[ae]? = some (.cells #[.slice none 0 0, .slice none 0 0] 27 (0, 0))) := ⟨by refine rb_ ?_; refine blk_far ?_ HNB569_go55.out _; refine rb_ ?_; exact aa.out⟩
      have n3_ : Aside0 ((w56.setCell ⟨go55, 0, none⟩ (.slice aQ az.length aR)).heap[ag]? = some (.cells #[.slice aA aj.length aB, .slice (some ⟨go55, 0, none⟩) ad.length aK] 27 (0, 0))) := ⟨by refine rb_ ?_; refine blk_far ?_ HNB578_go55.out _; refine rb_ ?_; exact ab.out⟩
      have n4_ : Aside0 (IsS125 w0 (w56.setCell ⟨go55, 0, none⟩ (.slice aQ az.length aR)) g s0_0 aI aJ) := ⟨by repeat (first | (with_reducible first | exact HI0.out | apply IsS125.alloc | apply IsS125.drewN | apply IsS125.drew | apply IsS125.set_1 | apply IsS125.set_2 | refine IsS125.far ?_ HN0_go55.out _ | refine IsS125.far ?_ ah.out _ | refine IsS125.far ?_ al.out _) | exact HI0.out)⟩
      have n5_ : Aside0 (KeepBut w (w56.setCell ⟨go55, 0, none⟩ (.slice aQ az.length aR)) g none) := ⟨by repeat (first | (with_reducible first | exact HK.out | apply KeepBut.set_ | apply keep_drewN | apply keep_drew | apply keep_alloc | refine keep_far ?_ GB55.out _ | refine keep_far ?_ ak.out _ | refine keep_far ?_ au.out _) | exact HK.out)⟩
      have n6_ : Aside0 (Below w0.heap.size w0 (w56.setCell ⟨go55, 0, none⟩ (.slice aQ az.length aR))) := ⟨by repeat (first | (with_reducible first | exact HB.out | apply below_alloc | apply pw_below_drewN | apply below_drew1 | refine below_set ?_ (Nat.le_trans HL.out GB55.out) | refine below_set ?_ (IsS125.ge HI0.out) | refine below_set ?_ an.out | refine below_set ?_ ax.out) | exact HB.out)⟩
      (try clear ai)
      (try clear af)
      (try clear aa)
      (try clear ab)
      (try clear HI0)
      (try clear HK)
      (try clear HB)
      generalize (w56.setCell ⟨go55, 0, none⟩ (.slice aQ az.length aR)) = w60 at n0_ n1_ n2_ n3_ n4_ n5_ n6_ ⊢
      have ai := n0_; have af := n1_; have aa := n2_; have ab := n3_; have HI0 := n4_; have HK := n5_; have HB := n6_
      clear n0_ n1_ n2_ n3_ n4_ n5_ n6_
      have cu := ck_ (v := (.slice aA aj.length aB)) ab 0 rfl
      have cv := ck_ (v := (.slice (some ⟨go55, 0, none⟩) ad.length aK)) ab 1 rfl
      have cw := blk_frozen ab.out 0
      have cx := blk_frozen ab.out 1
      have df := ao.out
      have dg := ah.out
      have cy := ck_ (v := (.slice none 0 0)) aa 0 rfl
      have cz := ck_ (v := (.slice none 0 0)) aa 1 rfl
      have cA := blk_frozen aa.out 0
      have cB := blk_frozen aa.out 1
      try go_wp2
      refine bodyPost_ret (results_cell_row rfl _ _ ae 27 #[.slice aA aj.length aB, .slice (some ⟨go55, 0, none⟩) ad.length aK] (0, 0) _ rfl (by refine rb_ ?_; refine blk_put (cs := #[.slice aA aj.length aB, .slice none 0 0]) ?_ 1 _ rfl; refine rb_ ?_; refine blk_put (cs := #[.slice none 0 0, .slice none 0 0]) ?_ 0 _ rfl; refine rb_ ?_; exact aa.out) Try.underlying27 rfl (by kernel_rfl)) rfl ?_
      exact ⟨_, _, by first | rfl | (simp [errW_none, errW_some] <;> rfl) | (simp [*, errW_none, errW_some] <;> rfl), by refine rr_ ?_; exact Kd.R_mono (Kd.R_far (p := ⟨ae, 1, none⟩) (Kd.R_far (p := ⟨ae, 0, none⟩) (Kd.R_types ai.out aa.out (by decide)) (fun _ hk => hk.2) (.slice aA aj.length aB)) (fun _ hk => hk.2) (.slice (some ⟨go55, 0, none⟩) ad.length aK)) (fun _ hk => trivial), by refine rs_ ?_; exact Kd.S_mono (Kd.S_far (p := ⟨ae, 1, none⟩) (Kd.S_far (p := ⟨ae, 0, none⟩) (Kd.S_types af.out aa.out (by decide)) (fun _ hk => hk.2) (.slice aA aj.length aB)) (fun _ hk => hk.2) (.slice (some ⟨go55, 0, none⟩) ad.length aK)) (fun _ hk => trivial), by exact zp36_3_ HI0.out ah.out al.out, by exact zp36_4_ HB.out (IsS125.ge HI0.out) an.out ax.out, by exact zp36_5_ HK.out ak.out au.out⟩
     ·rw [if_neg c43] at H
      exact absurd H (by simp)
    ·rw [if_neg c42] at H
     exact absurd H (by simp)
   ·rw [if_neg c41] at H
    have c41b0 : (aw == 2) = false := beq_eq_false_iff_ne.mpr c41
    have c41b1 : (aw != 2) = true := bne_iff_ne.mpr c41
    simp only [Option.some.injEq, Prod.mk.injEq] at H
    obtain ⟨rfl, rfl, rfl, rfl⟩ := H
    go_enter Try.func88, Try.ntmps88
    go_wp2_with (first | ((with_reducible refine gate_dst (N := 2) rfl ?_); refine box_event ?hg (N := 2) ?hd (cs := #[.slice none 0 0, .slice none 0 0]) (t := 27) ?hr ?_; (case hd => rfl); (case hg => rfl); (case hr => first | (go_simp; done) | (go_simp; rfl)); intro ae hg w64 hbox hb; have n0_ := am_ (IsS125.below (zp36_0_ HI0.out) hb); have n1_ := am_ (KeepBut.trans (k0_ HK.out) (KeepBut.of_below hb g none) (.inl rfl)); have n2_ := am_ (below_step (b1_ HB.out (IsS125.ge HI0.out)) hb); have n3_ := am_ (hbox); have n4_ := am_ ((by rw [hg]; exact (keep_size (w := w) (g := g) (row := none) (k0_ HK.out)) : w.heap.size ≤ ae)); have n5_ := am_ ((Nat.le_trans HW0.out (by rw [hg]; exact (keep_size (w := w) (g := g) (row := none) (k0_ HK.out)) : w.heap.size ≤ ae) : w0.heap.size ≤ ae)); have n6_ := am_ ((by rw [hg]; exact Nat.ne_of_lt (IsS125.lt (show IsS125 w0 _ g s0_0 s0_1 s0_2 from by exact zp36_0_ HI0.out)) : g ≠ ae)); have n7_ := am_ ((by rw [hg]; exact Nat.ne_of_gt (IsS125.lt (show IsS125 w0 _ g s0_0 s0_1 s0_2 from by exact zp36_0_ HI0.out)) : ae ≠ g)); clear HI0; clear HK; clear HB; have HI0 := n0_; have HK := n1_; have HB := n2_; have aa := n3_; have ak := n4_; have an := n5_; have ah := n6_; have ao := n7_; clear n0_ n1_ n2_ n3_ n4_ n5_ n6_ n7_; clear hb hbox hg) | ((with_reducible refine gate_callee (f := 86) rfl ?_); refine gL_ (some 5) Try.func86 #[.pointer (some ⟨g, 0, none⟩), .int .i64 5] ?_; (with_reducible refine (spec_l5Draw.calls k g s0_0 s0_1 s0_2 5 aj ad ap aq w0 _ ?side1 ?side2 A2.out).mono ?_); (case side1 => exact zp36_1_ HI0.out ah.out); (case side2 => exact zp36_2_ HB.out (IsS125.ge HI0.out) an.out); rintro e w65 ⟨bh, bi, rfl, ho0, ho1, hi, hb, hk⟩; refine ⟨_, rfl, ?_⟩; have n0_ := am_ (KeepBut.blk hk (g' := ae) (o := .cells #[.slice none 0 0, .slice none 0 0] 27 (0, 0)) (rb_ aa.out) ao.out (by simp)); have n1_ := am_ (Kd.R_lower ho0 (keep_size (w := w) (g := g) (row := none) (k1_ HK.out ak.out))); have n2_ := am_ (Kd.S_lower ho1 (keep_size (w := w) (g := g) (row := none) (k1_ HK.out ak.out))); have n3_ := am_ (KeepBut.trans (k1_ HK.out ak.out) hk (.inl rfl)); have n4_ := am_ (hb); have n5_ := am_ (hi); clear aa; clear HK; clear HB; clear HI0; have aa := n0_; have ai := n1_; have af := n2_; have HK := n3_; have HB := n4_; have HI0 := n5_; clear n0_ n1_ n2_ n3_ n4_ n5_; (try clear hb); (try clear hb2); (try clear hk); (try clear hi); (try clear ho0); (try clear ho1)) | ((with_reducible refine gate_dst (N := 3) rfl ?_); refine box_event ?hg (N := 3) ?hd (cs := #[.slice none 0 0, .slice none 0 0]) (t := 27) ?hr ?_; (case hd => rfl); (case hg => rfl); (case hr => first | (go_simp; done) | (go_simp; rfl)); intro ag hg w66 hbox hb; have n0_ := am_ (Kd.R_below (rr_ ai.out) hb); have n1_ := am_ (Kd.S_below (rs_ af.out) hb); have n2_ := am_ (IsS125.below (zp36_1_ HI0.out ah.out) hb); have n3_ := am_ (blk_below (rb_ aa.out) hb); have n4_ := am_ (KeepBut.trans (k1_ HK.out ak.out) (KeepBut.of_below hb g none) (.inl rfl)); have n5_ := am_ (below_step (b2_ HB.out (IsS125.ge HI0.out) an.out) hb); have n6_ := am_ (hbox); have n7_ := am_ ((by rw [hg]; exact (keep_size (w := w) (g := g) (row := none) (k1_ HK.out ak.out)) : w.heap.size ≤ ag)); have n8_ := am_ ((Nat.le_trans HW0.out (by rw [hg]; exact (keep_size (w := w) (g := g) (row := none) (k1_ HK.out ak.out)) : w.heap.size ≤ ag) : w0.heap.size ≤ ag)); have n9_ := am_ ((by rw [hg]; exact Nat.ne_of_lt (blk_lt (rb_ aa.out)) : ae ≠ ag)); have n10_ := am_ ((by rw [hg]; exact Nat.ne_of_gt (blk_lt (rb_ aa.out)) : ag ≠ ae)); have n11_ := am_ ((by rw [hg]; exact Nat.ne_of_lt (IsS125.lt (show IsS125 w0 _ g s0_0 ap aq from by exact zp36_1_ HI0.out ah.out)) : g ≠ ag)); have n12_ := am_ ((by rw [hg]; exact Nat.ne_of_gt (IsS125.lt (show IsS125 w0 _ g s0_0 ap aq from by exact zp36_1_ HI0.out ah.out)) : ag ≠ g)); clear ai; clear af; clear HI0; clear aa; clear HK; clear HB; have ai := n0_; have af := n1_; have HI0 := n2_; have aa := n3_; have HK := n4_; have HB := n5_; have ab := n6_; have au := n7_; have ax := n8_; have am := n9_; have ay := n10_; have al := n11_; have av := n12_; clear n0_ n1_ n2_ n3_ n4_ n5_ n6_ n7_ n8_ n9_ n10_ n11_ n12_; clear hb hbox hg; obtain ⟨aV, aW, bJ⟩ := Kd.R_slice ai.out; subst bJ; have dh := ay.out; have di := am.out; have dj := av.out; have dk := al.out; have cC := ck_ (v := (.slice none 0 0)) ab 0 rfl; have cD := ck_ (v := (.slice none 0 0)) ab 1 rfl; have cE := blk_frozen ab.out 0; have cF := blk_frozen ab.out 1; obtain ⟨ba, bb, bK⟩ := Kd.S_slice af.out; subst bK) | ((with_reducible refine gate_callee (f := 107) rfl ?_); refine gL_ (some 7) Try.func107 #[.pointer (some ⟨g, 0, none⟩), .int .i64 12] ?_; (with_reducible refine (spec_l1Below.calls g s0_0 ap aq 12 aw aI aJ w0 _ ?side1 ?side2 A3.out).mono ?_); (case side1 => exact zp36_3_ HI0.out ah.out al.out); (case side2 => exact zp36_4_ HB.out (IsS125.ge HI0.out) an.out ax.out); rintro e w72 ⟨rfl, hi, hb, hk⟩; refine ⟨_, rfl, ?_⟩; have n0_ := am_ (KeepBut.blk hk (g' := ae) (o := .cells #[.slice none 0 0, .slice none 0 0] 27 (0, 0)) (by refine rb_ ?_; refine blk_far ?_ am.out _; refine rb_ ?_; refine blk_far ?_ am.out _; refine rb_ ?_; exact aa.out) ao.out (by simp)); have n1_ := am_ (Kd.R_mono (Kd.R_keep (IsS125.apart (show IsS125 w0 _ g s0_0 ap aq from by exact zp36_3_ HI0.out ah.out al.out) (rr_ (Kd.R_mono (Kd.R_far (p := ⟨ag, 1, none⟩) (Kd.R_far (p := ⟨ag, 0, none⟩) (Kd.R_types ai.out ab.out (by decide)) (fun _ hk => hk.2) (.slice aV aj.length aW)) (fun _ hk => hk.2) (.slice ba ad.length bb)) (fun _ h_ => h_.1))) (by decide)) hk (fun _ h => h.2)) (fun _ h => h.1)); have n2_ := am_ (Kd.S_mono (Kd.S_keep (IsS125.apartS (show IsS125 w0 _ g s0_0 ap aq from by exact zp36_3_ HI0.out ah.out al.out) (rs_ (Kd.S_mono (Kd.S_far (p := ⟨ag, 1, none⟩) (Kd.S_far (p := ⟨ag, 0, none⟩) (Kd.S_types af.out ab.out (by decide)) (fun _ hk => hk.2) (.slice aV aj.length aW)) (fun _ hk => hk.2) (.slice ba ad.length bb)) (fun _ h_ => h_.1))) (by decide)) hk (fun _ h => h.2)) (fun _ h => h.1)); have n3_ := am_ (KeepBut.blk hk (g' := ag) (o := .cells #[.slice aV aj.length aW, .slice ba ad.length bb] 27 (0, 0)) (by refine rb_ ?_; refine blk_put (cs := #[.slice aV aj.length aW, .slice none 0 0]) ?_ 1 _ rfl; refine rb_ ?_; refine blk_put (cs := #[.slice none 0 0, .slice none 0 0]) ?_ 0 _ rfl; refine rb_ ?_; exact ab.out) av.out (by simp)); have n4_ := am_ (KeepBut.trans (k2_ HK.out ak.out au.out) hk (.inl rfl)); have n5_ := am_ (hb); have n6_ := am_ (hi); clear aa; clear ai; clear af; clear ab; clear HK; clear HB; clear HI0; have aa := n0_; have ai := n1_; have af := n2_; have ab := n3_; have HK := n4_; have HB := n5_; have HI0 := n6_; clear n0_ n1_ n2_ n3_ n4_ n5_ n6_; (try clear hb); (try clear hb2); (try clear hk); (try clear hi); have cG := ck_ (v := (.slice aV aj.length aW)) ab 0 rfl; have cH := ck_ (v := (.slice ba ad.length bb)) ab 1 rfl; have cI := blk_frozen ab.out 0; have cJ := blk_frozen ab.out 1; have dl := ao.out; have dm := ah.out; have cK := ck_ (v := (.slice none 0 0)) aa 0 rfl; have cL := ck_ (v := (.slice none 0 0)) aa 1 rfl; have cM := blk_frozen aa.out 0; have cN := blk_frozen aa.out 1))
    refine bodyPost_ret (results_cell_row rfl _ _ ae 27 #[.slice aV aj.length aW, .slice ba ad.length bb] (0, 0) _ rfl (by refine rb_ ?_; refine blk_put (cs := #[.slice aV aj.length aW, .slice none 0 0]) ?_ 1 _ rfl; refine rb_ ?_; refine blk_put (cs := #[.slice none 0 0, .slice none 0 0]) ?_ 0 _ rfl; refine rb_ ?_; exact aa.out) Try.underlying27 rfl (by kernel_rfl)) rfl ?_
    exact ⟨_, _, by first | rfl | (simp [errW_none, errW_some] <;> rfl) | (simp [*, errW_none, errW_some] <;> rfl), by refine rr_ ?_; exact Kd.R_mono (Kd.R_far (p := ⟨ae, 1, none⟩) (Kd.R_far (p := ⟨ae, 0, none⟩) (Kd.R_types ai.out aa.out (by decide)) (fun _ hk => hk.2) (.slice aV aj.length aW)) (fun _ hk => hk.2) (.slice ba ad.length bb)) (fun _ hk => trivial), by refine rs_ ?_; exact Kd.S_mono (Kd.S_far (p := ⟨ae, 1, none⟩) (Kd.S_far (p := ⟨ae, 0, none⟩) (Kd.S_types af.out aa.out (by decide)) (fun _ hk => hk.2) (.slice aV aj.length aW)) (fun _ hk => hk.2) (.slice ba ad.length bb)) (fun _ hk => trivial), by exact zp36_3_ HI0.out ah.out al.out, by exact zp36_4_ HB.out (IsS125.ge HI0.out) an.out ax.out, by exact zp36_5_ HK.out ak.out au.out⟩
end Go.Proofs.Ytogamkblkoobkaa.P
end
section
namespace Go.Proofs.Ytogamkblkoobkaa.Pl
open Go.RowKit Go.Proofs.Ytogamkblkoobkaa.P Go.Proofs.YtogamkblkoobkaaW.PrintWords Go.Proofs.YtogamkblkoobkaaW.PrintLast Go.Proofs.YtogamkblkoobkaaW.PrintMore
set_option linter.unusedVariables false
set_option linter.unusedSimpArgs false
def OkRow (n : Nat) (r : List Int) : Prop := r.length = 3 ∧ ∀ q ∈ r, 0 ≤ q ∧ q < (n : Int)
section
variable (b : List Int) (hb : b.length ≤ 140737488351232)
include hb
theorem once (i h : Int) (hi : Cur b i) (n : Int) (hn : 0 < n) (hn2 : n ≤ 256) : ∃ x i' h', spec_l1Once.f b i h n = some (x, i', h') ∧ Cur b i' := by
  obtain ⟨x, i', h', e, _, _, hc⟩ := below b hb i h hi n hn hn2
  refine ⟨x == 0, i', h', ?_, hc⟩
  simp only [spec_l1Once.f, e, Option.bind_some]
theorem draw_row (n : Nat) (hn : 1 ≤ n) (hn2 : n ≤ 100) (q : Int) (hq : 0 ≤ q ∧ q ≤ 1000) (acc : List Bool) (nx : List (List Int)) (hx : nx.length ≤ 1000) : ∀ (d j : Nat) (row : List Int) (i h : Int), j + d = 3 → row.length = j → (∀ x ∈ row, 0 ≤ x ∧ x < (n : Int)) → Cur b i →
    ∃ row' i' h', OkRow n row' ∧ Cur b i' ∧ ∀ r, Ev (fun k => spec_l5Draw.l0 k (n : Int) (q + 1) b i' h' acc (nx ++ [row'])) r → Ev (fun k => spec_l5Draw.l1 k (n : Int) q row (j : Int) b i h acc nx) r := by
  intro d
  induction d with
  | zero =>
    intro j row i h hj hr ho hi
    refine ⟨row, i, h, ⟨by omega, ho⟩, hi, fun r hrr => next ?_⟩
    simp only [spec_l5Draw.l1, if_neg (show ¬ (j : Int) < 3 by omega), if_pos (show nx.length < 5864062014805 by omega)]
    rw [w64 (show -9223372036854775808 ≤ q + 1 by omega) (by omega)]
    exact hrr
  | succ d ih =>
    intro j row i h hj hr ho hi
    obtain ⟨x, i1, h1, e, x0, x1, c1⟩ := below b hb i h hi (n : Int) (by omega) (by omega)
    obtain ⟨row', i', h', o', c', H⟩ := ih (j + 1) (row ++ [x]) i1 h1 (by omega) (by simp [hr]) (fun y hy => by
      rcases List.mem_append.mp hy with hy | hy
      · exact ho y hy
      · rw [List.mem_singleton] at hy; subst hy; exact ⟨x0, x1⟩) c1
    refine ⟨row', i', h', o', c', fun r hrr => next ?_⟩
    simp only [spec_l5Draw.l1, if_pos (show (j : Int) < 3 by omega), e, Option.bind_some, if_pos (show row.length < 17592186044416 by omega)]
    rw [up1 (by omega)]
    exact H r hrr
theorem draw_l0 (n : Nat) (hn : 1 ≤ n) (hn2 : n ≤ 100) : ∀ (d q : Nat) (acc : List Bool) (nx : List (List Int)) (i h : Int), q + d = n → acc.length = q → nx.length = q → (∀ r ∈ nx, OkRow n r) → Cur b i →
    ∃ acc' nx' i' h', Ev (fun k => spec_l5Draw.l0 k (n : Int) (q : Int) b i h acc nx) (acc', nx', i', h') ∧ acc'.length = n ∧ nx'.length = n ∧ (∀ r ∈ nx', OkRow n r) ∧ Cur b i' := by
  intro d
  induction d with
  | zero =>
    intro q acc nx i h hq ha hx ho hi
    refine ⟨acc, nx, i, h, next ?_, by omega, by omega, ho, hi⟩
    simp only [spec_l5Draw.l0, if_neg (show ¬ (q : Int) < (n : Int) by omega)]
    exact Ev.now _
  | succ d ih =>
    intro q acc nx i h hq ha hx ho hi
    obtain ⟨x, i1, h1, e, c1⟩ := once b hb i h hi 2 (by omega) (by omega)
    obtain ⟨row', i2, h2, o2, c2, H⟩ := draw_row b hb n hn hn2 (q : Int) (by omega) (acc ++ [x]) nx (by omega) 3 0 [] i1 h1 rfl rfl (fun _ hx => by cases hx) c1
    obtain ⟨acc', nx', i', h', hev, la, ln, oo, cc⟩ := ih (q + 1) (acc ++ [x]) (nx ++ [row']) i2 h2 (by omega) (by simp [ha]) (by simp [hx]) (fun r hr => by
      rcases List.mem_append.mp hr with hr | hr
      · exact ho r hr
      · rw [List.mem_singleton] at hr; subst hr; exact o2) c2
    refine ⟨acc', nx', i', h', next ?_, la, ln, oo, cc⟩
    simp only [spec_l5Draw.l0, if_pos (show (q : Int) < (n : Int) by omega), e, Option.bind_some, if_pos (show acc.length < 140737488355328 by omega)]
    exact H _ hev
theorem draw (i h : Int) (hi : Cur b i) (m : Nat) (hm : 1 ≤ m) (hm2 : m ≤ 99) : ∃ acc nx i' h', Ev (fun k => spec_l5Draw.f k b i h (m : Int)) (acc, nx, i', h') ∧ 1 ≤ acc.length ∧ acc.length ≤ m ∧ nx.length = acc.length ∧ (∀ r ∈ nx, OkRow acc.length r) ∧ Cur b i' := by
  obtain ⟨x, i1, h1, e, x0, x1, c1⟩ := below b hb i h hi (m : Int) (by omega) (by omega)
  obtain ⟨t, rfl⟩ : ∃ t : Nat, x = (t : Int) := ⟨x.toNat, by omega⟩
  obtain ⟨acc, nx, i', h', hev, la, ln, oo, cc⟩ := draw_l0 b hb (t + 1) (by omega) (by omega) (t + 1) 0 [] [] i1 h1 (by omega) rfl rfl (fun _ hx => by cases hx) c1
  refine ⟨acc, nx, i', h', ?_, by omega, by omega, by omega, by rw [la]; exact oo, cc⟩
  simp only [spec_l5Draw.f, e, Option.bind_some]
  rw [w64 (show -9223372036854775808 ≤ 1 + (t : Int) by omega) (by omega), show 1 + (t : Int) = ((t + 1 : Nat) : Int) by omega]
  exact hev
theorem bent (i h : Int) (hi : Cur b i) : ∃ acc nx i' h', Ev (fun k => spec_l5Bent.f k b i h) (acc, nx, i', h') ∧ acc.length ≤ 6 ∧ nx.length ≤ 6 ∧ (∀ r ∈ nx, r.length ≤ 4) ∧ Cur b i' := by
  obtain ⟨acc, nx, i1, h1, hev, a1, a2, a3, a4, c1⟩ := draw b hb i h hi 5 (by omega) (by omega)
  obtain ⟨x, i2, h2, e, x0, x1, c2⟩ := below b hb i1 h1 c1 12 (by omega) (by omega)
  have h0 : 0 < nx.length := by omega
  have hr0 : (rd_L1 nx 0).length = 3 := by
    show (nx.getD (0 : Int).toNat []).length = 3
    rw [List.getD_eq_getElem?_getD, show (0 : Int).toNat = 0 from rfl, List.getElem?_eq_getElem h0]
    exact (a4 _ (List.getElem_mem h0)).1
  have hset : ∀ y : List Int, y.length ≤ 4 → ∀ r ∈ nx.set 0 y, r.length ≤ 4 := fun y hy r hr => by
    rcases List.mem_or_eq_of_mem_set hr with hr | hr
    · have := (a4 r hr).1; omega
    · subst hr; exact hy
  by_cases e0 : x = 0
  · refine ⟨acc, nx.set 0 ((rd_L1 nx 0).set 0 (acc.length : Int)), i2, h2, ?_, by omega, by rw [List.length_set]; omega, hset _ (by rw [List.length_set]; omega), c2⟩
    simp only [spec_l5Bent.f]
    refine Ev.bind hev ?_
    simp only [e, Option.bind_some, if_pos e0, if_pos (show (0 : Int) < (nx.length : Int) by omega), if_pos (show (0 : Int) < ((rd_L1 nx 0).length : Int) by omega)]
    exact Ev.now _
  · by_cases e1 : x = 1
    · refine ⟨acc ++ [true], nx, i2, h2, ?_, by simp; omega, by omega, fun r hr => by have := (a4 r hr).1; omega, c2⟩
      simp only [spec_l5Bent.f]
      refine Ev.bind hev ?_
      simp only [e, Option.bind_some, if_neg e0, if_pos e1, if_pos (show acc.length < 140737488355328 by omega)]
      exact Ev.now _
    · by_cases e2 : x = 2
      · refine ⟨acc, nx.set 0 ((rd_L1 nx 0) ++ [0]), i2, h2, ?_, by omega, by rw [List.length_set]; omega, hset _ (by rw [List.length_append, hr0]; decide), c2⟩
        simp only [spec_l5Bent.f]
        refine Ev.bind hev ?_
        simp only [e, Option.bind_some, if_neg e0, if_neg e1, if_pos e2, if_pos (show (0 : Int) < (nx.length : Int) by omega), if_pos (show (rd_L1 nx 0).length < 17592186044416 by omega)]
        exact Ev.now _
      · refine ⟨acc, nx, i2, h2, ?_, by omega, by omega, fun r hr => by have := (a4 r hr).1; omega, c2⟩
        simp only [spec_l5Bent.f]
        refine Ev.bind hev ?_
        simp only [e, Option.bind_some, if_neg e0, if_neg e1, if_neg e2]
        exact Ev.now _
end
end Go.Proofs.Ytogamkblkoobkaa.Pl
end
