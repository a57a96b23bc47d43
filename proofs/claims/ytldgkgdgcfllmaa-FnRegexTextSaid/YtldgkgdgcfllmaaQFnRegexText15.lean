/- Texts of the proof of FnRegexText, put together. No condition. -/
import Derived.Test.YtldgkgdgcfllmaaQFnRegexText3
import Derived.Test.YtldgkgdgcfllmaaQFnRegexText6
import Derived.Test.YtldgkgdgcfllmaaQFnRegexText12
import Derived.Test.YtldgkgdgcfllmaaQFnRegexText14
import Derived.Test.YtldgkgdgcfllmaaQFnRegexText2
section
namespace Go.Proofs.Ytldgkgdgcfllmaa.P
open Go.RowKit Go.Proofs.YtldgkgdgcfllmaaW.PrintWords Go.Proofs.YtldgkgdgcfllmaaW.PrintLast Go.Proofs.YtldgkgdgcfllmaaW.PrintMore
attribute [local go_sem] max2_int min2_int max_two min_two max_three min_three max_four min_four
set_option linter.unusedVariables false
set_option linter.unusedSimpArgs false
def spec_l1New.l0 : Nat → List Int → Int → Int → Option (List Int × Int × Int)
  | 0, _, _, _ => none
  | k + 1, x0, x3, x4 => if x4 < (x0.length : Int) then (if x4 < 4000 then (if 0 ≤ x4 then (spec_l1New.l0 k x0 (Go.bits .and .i64 (wrap64 ((wrap64 ((wrap64 (x3 * 131)) + (wrap64 (rd x0 x4)))) + 7)) 1073741823) (wrap64 (x4 + 1))) else (none)) else (some (x0, 0, x3))) else (some (x0, 0, x3))
def spec_l1New.f (k : Nat) (l0 : List Int) : Option (List Int × Int × Int) := spec_l1New.l0 k l0 (wrap64 (26583 + (l0.length : Int))) 0
theorem spec_l1New.mono_l : ∀ k, (∀ y0 y1 y2, LeO (spec_l1New.l0 k y0 y1 y2) (spec_l1New.l0 (k + 1) y0 y1 y2))
  | 0 => fun _ _ _ r h => by simp [spec_l1New.l0] at h
  | k + 1 => by
    have ih0 := spec_l1New.mono_l k
    · intro y0 y1 y2
      unfold spec_l1New.l0
      repeat' first
      | (with_reducible exact ih0 _ _ _)
      | (with_reducible exact LeO.refl _)
      | (with_reducible exact LeO.none _)
      | (with_reducible refine LeO.ite ?_ ?_)
      | (with_reducible refine LeO.bind ?_ (fun _ => ?_))
      | exact ih0 _ _ _
      | exact LeO.none _
      | refine LeO.ite ?_ ?_
      | refine LeO.bind ?_ (fun _ => ?_)
theorem spec_l1New.mono : ∀ a0 k, LeO (spec_l1New.f k a0) (spec_l1New.f (k + 1) a0) := by
  intro a0 k
  have ih0 := spec_l1New.mono_l k
  unfold spec_l1New.f
  repeat' first
      | (with_reducible exact ih0 _ _ _)
      | (with_reducible exact LeO.refl _)
      | (with_reducible exact LeO.none _)
      | (with_reducible refine LeO.ite ?_ ?_)
      | (with_reducible refine LeO.bind ?_ (fun _ => ?_))
      | exact ih0 _ _ _
      | exact LeO.none _
      | refine LeO.ite ?_ ?_
      | refine LeO.bind ?_ (fun _ => ?_)
theorem zp47_0_ {p q : Prop} (h : p) (c : p → q := by intro h_; repeat (first | (with_reducible first | exact h_ | apply below_alloc | apply pw_below_drewN | apply below_drew1) | exact h_)) : q := c h
theorem zp47_1_ {p q g1 : Prop} (h : p) (h1 : g1) (c : p → g1 → q := by intro h_ h1_; repeat (first | (with_reducible first | exact h_ | apply below_alloc | apply pw_below_drewN | apply below_drew1 | refine below_set ?_ h1_) | exact h_)) : q := c h h1
theorem zp47_2_ {p q : Prop} (h : p) (c : p → q := by intro h_; repeat (first | (with_reducible first | exact h_ | apply IsS93.alloc | apply IsS93.drewN | apply IsS93.drew | apply IsS93.set_1 | apply IsS93.set_2) | exact h_)) : q := c h
set_option maxHeartbeats 8000000 in
set_option maxRecDepth 100000 in
theorem spec_l1New.calls (k : Nat) (A0 : Option Addr) (c0 : Nat) (l0 : List Int) (r1 : List Int) (r2 : Int) (r3 : Int) (w0 w : World) (hB : Below w0.heap.size w0 w) (hr0 : Kd.C (Kd.int .u8) w0 A0 l0.length l0) (hc0 : l0.length ≤ c0) (h : spec_l1New.f k l0 = some (r1, r2, r3)) :
    Calls Try.prog 58 #[.slice A0 l0.length c0] w fun e w' => ∃ g_ : Nat, e = .returned (.pointer (some ⟨g_, 0, none⟩)) ∧ IsS93 w0 w' g_ r1 r2 r3 ∧ Below w0.heap.size w0 w' ∧ Below w.heap.size w w' := by
  have hu93 := Try.underlying93
  have HR0 := am_ hr0
  have HC0 := am_ hc0
  clear hr0 hc0
  have HBW := am_ (Below.refl w.heap.size w)
  have HW0 := am_ hB.size
  have HB := am_ hB
  clear hB
  have H : (spec_l1New.l0 k l0 (wrap64 (26583 + (l0.length : Int))) 0) = some (r1, r2, r3) := h
  clear h
  have H' := am_ H
  clear H
  go_enter Try.func58, Try.ntmps58
  go_wp2
  go_loopg [3, 4] k (fun kq v3 v4 w' => ∃ (ak : Int) (ae : Int), v3 = .int .i64 ak ∧ v4 = .int .i64 ae ∧ Aside0 (spec_l1New.l0 kq l0 ak ae = some (r1, r2, r3)) ∧ Aside0 (kq ≤ k) ∧ Aside0 (Below w0.heap.size w0 w') ∧ Aside0 (Below w.heap.size w w'))
  case atStart => exact ⟨(wrap64 (26583 + (l0.length : Int))), (0), (by first | rfl | (simp; done) | (simp [*]; done)), (by first | rfl | (simp; done) | (simp [*]; done)), H', ⟨Nat.le_refl _⟩, ⟨by exact zp47_0_ HB.out⟩, ⟨by exact zp47_0_ HBW.out⟩⟩
  case round =>
    clear H'
    obtain ⟨ak, ae, rfl, rfl, HA, HK1, HB, HBW⟩ := hrel
    cases gk with
    | zero => exact absurd HA.out (by simp [spec_l1New.l0])
    | succ k1 =>
      have H := HA.out
      clear HA
      simp only [spec_l1New.l0] at H
      by_cases c2 : ae < (l0.length : Int)
      · rw [if_pos c2] at H
        have c2b0 : decide (ae < (l0.length : Int)) = true := decide_eq_true c2
        clear c2
        by_cases c3 : ae < 4000
        · rw [if_pos c3] at H
          have c3b0 : decide (ae < 4000) = true := decide_eq_true c3
          clear c3
          by_cases c4 : 0 ≤ ae
          · rw [if_pos c4] at H
            have c4b0 : decide (0 ≤ ae) = true := decide_eq_true c4
            clear c4
            have H' := am_ H
            clear H
            have p865 : 0 ≤ (ae : Int) := of_decide_eq_true ah_
            have q865 : ae < (l0.length : Int) := of_decide_eq_true ah_
            obtain ⟨bm, e865, ay⟩ := Kd.at_int HR0.out ae p865 q865
            cases e865
            replace ay := pw_cell_below HB.out ay
            replace p865 := eq_true p865
            replace q865 := eq_true q865
            go_wp2
            go_roundg k1
            case measure => have := HK1.out; omega
            case rel => exact ⟨(Go.bits .and .i64 (wrap64 ((wrap64 ((wrap64 (ak * 131)) + (wrap64 (rd l0 ae)))) + 7)) 1073741823), (wrap64 (ae + 1)), (by first | rfl | (simp; done) | (simp [*]; done)), (by first | rfl | (simp; done) | (simp [*]; done)), H', ⟨by have := HK1.out; omega⟩, ⟨by exact zp47_0_ HB.out⟩, ⟨by exact zp47_0_ HBW.out⟩⟩
          · rw [if_neg c4] at H
            exact absurd H (by simp)
        · rw [if_neg c3] at H
          have c3b0 : decide (ae < 4000) = false := decide_eq_false c3
          clear c3
          simp only [Option.some.injEq, Prod.mk.injEq] at H
          obtain ⟨rfl, rfl, rfl⟩ := H
          go_wp2_with (first | ((with_reducible refine gate_dst (N := 31) rfl ?_); refine box_event ?hg (N := 31) ?hd (cs := #[.slice A0 l0.length c0, .int .i64 0, .int .i64 ak]) (t := 93) ?hr ?_; (case hd => rfl); (case hg => rfl); (case hr => first | (go_simp; done) | (go_simp; rfl)); intro au hg w5 hbox hb; have n0_ := am_ (below_step HBW.out hb); have n1_ := am_ (below_step (b0_ HB.out) hb); have n2_ := am_ (hbox); have n3_ := am_ ((by rw [hg]; exact (below_size (b0_ HBW.out)) : w.heap.size ≤ au)); have n4_ := am_ ((Nat.le_trans HW0.out (by rw [hg]; exact (below_size (b0_ HBW.out)) : w.heap.size ≤ au) : w0.heap.size ≤ au)); clear HBW; clear HB; have HBW := n0_; have HB := n1_; have aU := n2_; have aV := n3_; have aI := n4_; clear n0_ n1_ n2_ n3_ n4_; clear hb hbox hg))
          go_ret
          exact ⟨_, rfl, (show IsS93 w0 _ au l0 0 ak from ⟨_, _, by refine rb_ ?_; exact aU.out, aI.out, HR0.out⟩), by exact zp47_1_ HB.out aI.out, by exact zp47_1_ HBW.out aV.out⟩
      · rw [if_neg c2] at H
        have c2b0 : decide (ae < (l0.length : Int)) = false := decide_eq_false c2
        clear c2
        simp only [Option.some.injEq, Prod.mk.injEq] at H
        obtain ⟨rfl, rfl, rfl⟩ := H
        go_wp2_with (first | ((with_reducible refine gate_dst (N := 31) rfl ?_); refine box_event ?hg (N := 31) ?hd (cs := #[.slice A0 l0.length c0, .int .i64 0, .int .i64 ak]) (t := 93) ?hr ?_; (case hd => rfl); (case hg => rfl); (case hr => first | (go_simp; done) | (go_simp; rfl)); intro av hg w6 hbox hb; have n0_ := am_ (below_step HBW.out hb); have n1_ := am_ (below_step (b0_ HB.out) hb); have n2_ := am_ (hbox); have n3_ := am_ ((by rw [hg]; exact (below_size (b0_ HBW.out)) : w.heap.size ≤ av)); have n4_ := am_ ((Nat.le_trans HW0.out (by rw [hg]; exact (below_size (b0_ HBW.out)) : w.heap.size ≤ av) : w0.heap.size ≤ av)); clear HBW; clear HB; have HBW := n0_; have HB := n1_; have aW := n2_; have aX := n3_; have aJ := n4_; clear n0_ n1_ n2_ n3_ n4_; clear hb hbox hg))
        go_ret
        exact ⟨_, rfl, (show IsS93 w0 _ av l0 0 ak from ⟨_, _, by refine rb_ ?_; exact aW.out, aJ.out, HR0.out⟩), by exact zp47_1_ HB.out aJ.out, by exact zp47_1_ HBW.out aX.out⟩
def spec_DrawFormatRegex.f (k : Nat) (l0 : List Int) : Option (Int × ByteArray × (List (S29))) := (spec_l1New.f k l0).bind fun bt869 => ((spec_l3Bent.f k bt869.1 bt869.2.1 bt869.2.2).bind fun bt873 => (some (bt873.1, bt873.2.1, bt873.2.2.1)))
theorem spec_DrawFormatRegex.mono : ∀ a0 k, LeO (spec_DrawFormatRegex.f k a0) (spec_DrawFormatRegex.f (k + 1) a0) := by
  intro a0 k
  unfold spec_DrawFormatRegex.f
  repeat' first
      | (with_reducible exact spec_l1New.mono _ _)
      | (with_reducible exact spec_l3Bent.mono _ _ _ _)
      | (with_reducible exact LeO.refl _)
      | (with_reducible exact LeO.none _)
      | (with_reducible refine LeO.ite ?_ ?_)
      | (with_reducible refine LeO.bind ?_ (fun _ => ?_))
      | exact spec_l1New.mono _ _
      | exact spec_l3Bent.mono _ _ _ _
      | exact LeO.none _
      | refine LeO.ite ?_ ?_
      | refine LeO.bind ?_ (fun _ => ?_)
set_option maxHeartbeats 8000000 in
set_option maxRecDepth 100000 in
theorem spec_DrawFormatRegex.calls (k : Nat) (A0 : Option Addr) (c0 : Nat) (l0 : List Int) (r1 : Int) (r2 : ByteArray) (r3 : List (S29)) (w : World) (hr0 : Kd.C (Kd.int .u8) w A0 l0.length l0) (hc0 : l0.length ≤ c0) (h : spec_DrawFormatRegex.f k l0 = some (r1, r2, r3)) :
    Calls Try.prog 32 #[.slice A0 l0.length c0] w fun e w' => ∃ v2_ : Value, e = .returned (.agg #[.int .i64 r1, .string r2, v2_]) ∧ Kd.N k29 29 w' w.heap.size (fun k_ => (w.heap.size ≤ k_)) v2_ r3 ∧ Below w.heap.size w w' := by
  have hu29 := Try.underlying29
  have HR0 := am_ hr0
  have HC0 := am_ hc0
  clear hr0 hc0
  have HB := am_ (Below.refl w.heap.size w)
  have H : ((spec_l1New.f k l0).bind fun bt869 => ((spec_l3Bent.f k bt869.1 bt869.2.1 bt869.2.2).bind fun bt873 => (some (bt873.1, bt873.2.1, bt873.2.2.1)))) = some (r1, r2, r3) := h
  clear h
  replace H := Option.bind_eq_some_iff.mp H
  obtain ⟨⟨aM, aN, aO⟩, A20, H⟩ := H
  have A2 := am_ A20
  clear A20
  replace H := Option.bind_eq_some_iff.mp H
  obtain ⟨⟨ao, aw, az, aY, aZ⟩, A30, H⟩ := H
  replace H : (some (ao, aw, az)) = some (r1, r2, r3) := H
  have A3 := am_ A30
  clear A30
  simp only [Option.some.injEq, Prod.mk.injEq] at H
  obtain ⟨rfl, rfl, rfl⟩ := H
  go_enter Try.func32, Try.ntmps32
  go_wp2_with (first | ((with_reducible refine gate_dst (N := 2) rfl ?_); refine box_event ?hg (N := 2) ?hd (cs := #[.int .i64 0, .string (⟨#[]⟩ : ByteArray), .slice none 0 0]) (t := 29) ?hr ?_; (case hd => rfl); (case hg => rfl); (case hr => first | (go_simp; done) | (go_simp; rfl)); intro ah hg w4 hbox hb; replace ab := am_ (hbox); replace bn := am_ ((by rw [hg]; exact (below_size (b0_ HB.out)) : w.heap.size ≤ ah)); replace an := am_ ((by rw [hg]; exact (below_size (b0_ HB.out)) : w.heap.size ≤ ah)); replace HB := am_ (below_step (b0_ HB.out) hb); clear hb hbox hg) | ((with_reducible refine gate_callee (f := 58) rfl ?_); refine gL_ (some 4) Try.func58 #[.slice A0 l0.length c0] ?_; (with_reducible refine (spec_l1New.calls k _ _ l0 aM aN aO w _ ?side1 ?side2 ?side3 A2.out).mono ?_); (case side1 => exact zp47_1_ HB.out an.out); (case side2 => exact HR0.out); (case side3 => exact HC0.out); rintro e w5 ⟨g872, rfl, hi, hb, hb2⟩; refine ⟨_, rfl, ?_⟩; have n0_ := am_ (blk_below (rb_ ab.out) hb2); have n1_ := am_ (hb); have n2_ := am_ (hi); have n3_ := am_ (IsS93.ne_blk hi (blk_below (rb_ ab.out) hb2) (by decide)); have n4_ := am_ (Ne.symm (IsS93.ne_blk hi (blk_below (rb_ ab.out) hb2) (by decide))); clear ab; clear HB; have ab := n0_; have HB := n1_; have HI872 := n2_; have al := n3_; have ar := n4_; clear n0_ n1_ n2_ n3_ n4_; (try clear hb); (try clear hb2); (try clear hk); (try clear hi)) | ((with_reducible refine gate_callee (f := 57) rfl ?_); refine gL_ (some 5) Try.func57 #[.pointer (some ⟨g872, 0, none⟩)] ?_; (with_reducible refine (spec_l3Bent.calls k g872 aM aN aO ao aw az aY aZ w _ ?side1 ?side2 A3.out).mono ?_); (case side1 => repeat (first | (with_reducible first | exact HI872.out | apply IsS93.alloc | apply IsS93.drewN | apply IsS93.drew | apply IsS93.set_1 | apply IsS93.set_2 | refine IsS93.far ?_ al.out _) | exact HI872.out)); (case side2 => repeat (first | (with_reducible first | exact HB.out | apply below_alloc | apply pw_below_drewN | apply below_drew1 | refine below_set ?_ (IsS93.ge HI872.out) | refine below_set ?_ an.out) | exact HB.out)); rintro e w6 ⟨bo, rfl, ho0, hi, hb, hk⟩; refine ⟨_, rfl, ?_⟩; have n0_ := am_ (KeepBut.blk hk (g' := ah) (o := .cells #[.int .i64 0, .string (⟨#[]⟩ : ByteArray), .slice none 0 0] 29 (0, 0)) (rb_ ab.out) ar.out (by simp)); have n1_ := am_ (Kd.N_lower (Kd.N_mono (ok' := fun k_ => (w.heap.size ≤ k_) ∧ k_ ≠ ah ∧ k_ ≠ g872) ho0 (fun k_ hk_ => ⟨(Nat.le_trans (below_size (b2_ HB.out (IsS93.ge HI872.out) an.out)) hk_), (Kd.freshB (g := ah) (o := .cells #[.int .i64 0, .string (⟨#[]⟩ : ByteArray), .slice none 0 0] 29 (0, 0)) (rb_ ab.out) k_ hk_), (IsS93.fresh (by repeat (first | (with_reducible first | exact HI872.out | apply IsS93.alloc | apply IsS93.drewN | apply IsS93.drew | apply IsS93.set_1 | apply IsS93.set_2 | refine IsS93.far ?_ al.out _) | exact HI872.out)) k_ hk_)⟩)) (below_size (b2_ HB.out (IsS93.ge HI872.out) an.out))); have n2_ := am_ (hb); have n3_ := am_ (hi); clear ab; clear HB; clear HI872; have ab := n0_; have aK := n1_; have HB := n2_; have HI872 := n3_; clear n0_ n1_ n2_ n3_; (try clear hb); (try clear hb2); (try clear hk); (try clear hi); (try clear ho0); have bp := ar.out; have bq := al.out; have bf := ck_ (v := (.int .i64 0)) ab 0 rfl; have bg := ck_ (v := (.string (⟨#[]⟩ : ByteArray))) ab 1 rfl; have bh := ck_ (v := (.slice none 0 0)) ab 2 rfl; have bi := blk_frozen ab.out 0; have bj := blk_frozen ab.out 1; have bk := blk_frozen ab.out 2; obtain ⟨Ao9, co9, eo9⟩ := Kd.N_slice aK.out; subst eo9))
  refine bodyPost_ret (results_cell_row rfl _ _ ah 29 #[.int .i64 ao, .string aw, .slice Ao9 az.length co9] (0, 0) _ rfl (by refine rb_ ?_; refine blk_put (cs := #[.int .i64 ao, .string aw, .slice none 0 0]) ?_ 2 _ rfl; refine rb_ ?_; refine blk_put (cs := #[.int .i64 ao, .string (⟨#[]⟩ : ByteArray), .slice none 0 0]) ?_ 1 _ rfl; refine rb_ ?_; refine blk_put (cs := #[.int .i64 0, .string (⟨#[]⟩ : ByteArray), .slice none 0 0]) ?_ 0 _ rfl; refine rb_ ?_; exact ab.out) Try.underlying29 rfl (by kernel_rfl)) rfl ?_
  exact ⟨_, by first | rfl | (simp [errW_none, errW_some] <;> rfl) | (simp [*, errW_none, errW_some] <;> rfl), by refine rn_ ?_; exact Kd.N_mono (Kd.N_far (p := ⟨ah, 2, none⟩) (Kd.N_far (p := ⟨ah, 1, none⟩) (Kd.N_far (p := ⟨ah, 0, none⟩) (Kd.N_mono aK.out (fun k_ hk => (⟨hk, hk.2.1⟩ : _ ∧ k_ ≠ ah))) (fun _ hk => hk.2) (.int .i64 ao)) (fun _ hk => hk.2) (.string aw)) (fun _ hk => hk.2) (.slice Ao9 az.length co9)) (fun _ hk => hk.1.1), by repeat (first | (with_reducible first | exact HB.out | apply below_alloc | apply pw_below_drewN | apply below_drew1 | refine below_set ?_ (IsS93.ge HI872.out) | refine below_set ?_ an.out) | exact HB.out)⟩
def spec_l1Turned.f (s0_0 : List Int) (s0_1 : Int) (s0_2 : Int) (a1 : ByteArray) (l2 : List ByteArray) : Option (ByteArray × Int × Int) := (spec_l1Below.f s0_0 s0_1 s0_2 (wrap64 ((a1.size : Int) + 1))).bind fun bt880 => ((spec_l1Below.f s0_0 bt880.2.1 bt880.2.2 6).bind fun bt883 => (if bt883.1 = 0 then (if 0 ≤ bt880.1 then (if bt880.1 ≤ (a1.size : Int) then ((spec_l1Pick.f s0_0 bt883.2.1 bt883.2.2 l2).bind fun bt886 => (if (a1.extract 0 (bt880.1 : Int).toNat).size + bt886.1.size ≤ 9223372036854775807 then (if ((a1.extract 0 (bt880.1 : Int).toNat) ++ bt886.1).size + (a1.extract (bt880.1 : Int).toNat a1.size).size ≤ 9223372036854775807 then (some (((a1.extract 0 (bt880.1 : Int).toNat) ++ bt886.1) ++ (a1.extract (bt880.1 : Int).toNat a1.size), bt886.2.1, bt886.2.2)) else (none)) else (none))) else (none)) else (none)) else (if bt883.1 = 1 then (if 0 ≤ bt880.1 then (if bt880.1 ≤ (a1.size : Int) then (some (a1.extract 0 (bt880.1 : Int).toNat, bt883.2.1, bt883.2.2)) else (none)) else (none)) else (some (a1, bt883.2.1, bt883.2.2)))))
def spec_l1Turned.T4 : Bool × List (List Nat × List Nat) := (true, [([], []), ([], []), ([0, 1], [0, 1]), ([], []), ([], []), ([3, 4], [3, 4]), ([2, 5], [2, 5]), ([], []), ([], []), ([7, 8], [7, 8]), ([6, 9], [6, 9]), ([10, 5, 0, 1, 2, 3, 4, 5, 6, 7, 8, 9, 10], [10])])
def spec_l1Turned.B4 : List Nat := [0, 0, 3, 0, 0, 24, 63, 0, 0, 384, 1023, 2047]
theorem spec_l1Turned.tab4 : rtab .any (opsOf Try.f59 4) = spec_l1Turned.T4 := by kernel_rfl
theorem spec_l1Turned.bits4 : waitsOk spec_l1Turned.T4.2 spec_l1Turned.B4 = true := by kernel_rfl
set_option maxHeartbeats 8000000 in
set_option maxRecDepth 100000 in
theorem spec_l1Turned.calls (g : Nat) (s0_0 : List Int) (s0_1 : Int) (s0_2 : Int) (a1 : ByteArray) (A2 : Option Addr) (c2 : Nat) (l2 : List ByteArray) (r1 : ByteArray) (r2 : Int) (r3 : Int) (w0 w : World) (hI : IsS93 w0 w g s0_0 s0_1 s0_2) (hB : Below w0.heap.size w0 w) (hr2 : Kd.C Kd.string w A2 l2.length l2) (hc2 : l2.length ≤ c2) (hf2 : ∀ ad, A2 = some ad → 0 < l2.length → ad.block ≠ g) (h : spec_l1Turned.f s0_0 s0_1 s0_2 a1 l2 = some (r1, r2, r3)) :
  Calls Try.prog 59 #[.pointer (some ⟨g, 0, none⟩), .string a1, .slice A2 l2.length c2] w fun e w' => e = .returned (.string r1) ∧ IsS93 w0 w' g s0_0 r2 r3 ∧ Below w0.heap.size w0 w' ∧ KeepBut w w' g none := by
 have HR2 := am_ hr2
 have HC2 := am_ hc2
 clear hr2 hc2
 have HI0 := am_ hI
 have HK := am_ (KeepBut.refl w g none)
 have HL := am_ hB.size
 clear hI
 have HW0 := am_ hB.size
 have HB := am_ hB
 clear hB
 have H : ((spec_l1Below.f s0_0 s0_1 s0_2 (wrap64 ((a1.size : Int) + 1))).bind fun bt880 => ((spec_l1Below.f s0_0 bt880.2.1 bt880.2.2 6).bind fun bt883 => (if bt883.1 = 0 then (if 0 ≤ bt880.1 then (if bt880.1 ≤ (a1.size : Int) then ((spec_l1Pick.f s0_0 bt883.2.1 bt883.2.2 l2).bind fun bt886 => (if (a1.extract 0 (bt880.1 : Int).toNat).size + bt886.1.size ≤ 9223372036854775807 then (if ((a1.extract 0 (bt880.1 : Int).toNat) ++ bt886.1).size + (a1.extract (bt880.1 : Int).toNat a1.size).size ≤ 9223372036854775807 then (some (((a1.extract 0 (bt880.1 : Int).toNat) ++ bt886.1) ++ (a1.extract (bt880.1 : Int).toNat a1.size), bt886.2.1, bt886.2.2)) else (none)) else (none))) else (none)) else (none)) else (if bt883.1 = 1 then (if 0 ≤ bt880.1 then (if bt880.1 ≤ (a1.size : Int) then (some (a1.extract 0 (bt880.1 : Int).toNat, bt883.2.1, bt883.2.2)) else (none)) else (none)) else (some (a1, bt883.2.1, bt883.2.2)))))) = some (r1, r2, r3) := h
 clear h
 replace H := Option.bind_eq_some_iff.mp H
 obtain ⟨⟨aa, ap, aq⟩, A40, H⟩ := H
 have A4 := am_ A40
 clear A40
 replace H := Option.bind_eq_some_iff.mp H
 obtain ⟨⟨ag, aA, aB⟩, A50, H⟩ := H
 have A5 := am_ A50
 clear A50
 by_cases c6 : ag = 0
 ·rw [if_pos c6] at H
  have c6b0 : (ag == 0) = true := beq_iff_eq.mpr c6
  have c6b1 : (ag != 0) = false := bne_eq_false_iff_eq.mpr c6
  clear c6
  by_cases c7 : 0 ≤ aa
  ·rw [if_pos c7] at H
   have c7b0 := eq_true c7
   have c7b1 : decide (0 ≤ aa) = true := decide_eq_true c7
   clear c7
   by_cases c8 : aa ≤ (a1.size : Int)
   ·rw [if_pos c8] at H
    have c8b0 := eq_true c8
    have c8b1 : decide (aa ≤ (a1.size : Int)) = true := decide_eq_true c8
    clear c8
    replace H := Option.bind_eq_some_iff.mp H
    obtain ⟨⟨ai, ba, bb⟩, A90, H⟩ := H
    have A9 := am_ A90
    clear A90
    by_cases c10 : (a1.extract 0 (aa : Int).toNat).size + ai.size ≤ 9223372036854775807
    ·rw [if_pos c10] at H
     have c10b0 := eq_true c10
     have c10b1 : decide ((a1.extract 0 (aa : Int).toNat).size + ai.size ≤ 9223372036854775807) = true := decide_eq_true c10
     try have c10b2 : (9223372036854775807 < (a1.extract 0 (aa : Int).toNat).size + ai.size) = False := eq_false (Nat.not_lt.2 c10)
     try have c10b5 : (9223372036854775807 < (aa : Int).toNat + ai.size) = False := eq_false (by have h_ := c10; simp only [ByteArray.size_append, ByteArray.size_extract] at h_; first | omega | (simp only [decide_eq_true_eq] at *; omega))
     have c11b0 := eq_true (of_decide_eq_true ah_ : 0 ≤ aa)
     have c12b0 := eq_true (of_decide_eq_true ah_ : aa ≤ (a1.size : Int))
     by_cases c13 : ((a1.extract 0 (aa : Int).toNat) ++ ai).size + (a1.extract (aa : Int).toNat a1.size).size ≤ 9223372036854775807
     ·rw [if_pos c13] at H
      have c13b0 := eq_true c13
      have c13b1 : decide (((a1.extract 0 (aa : Int).toNat) ++ ai).size + (a1.extract (aa : Int).toNat a1.size).size ≤ 9223372036854775807) = true := decide_eq_true c13
      try have c13b2 : (9223372036854775807 < ((a1.extract 0 (aa : Int).toNat) ++ ai).size + (a1.extract (aa : Int).toNat a1.size).size) = False := eq_false (Nat.not_lt.2 c13)
      try have c13b5 : (9223372036854775807 < (aa : Int).toNat + ai.size + (a1.size - (aa : Int).toNat)) = False := eq_false (by have h_ := c13; simp only [ByteArray.size_append, ByteArray.size_extract] at h_; first | omega | (simp only [decide_eq_true_eq] at *; omega))
      simp only [Option.some.injEq, Prod.mk.injEq] at H
      obtain ⟨rfl, rfl, rfl⟩ := H
      go_enter Try.func59, Try.ntmps59
      try go_wp2_with (first | ((with_reducible refine gate_callee (f := 62) rfl ?_); refine gL_ (some 12) Try.func62 #[.pointer (some ⟨g, 0, none⟩), .int .i64 (wrap64 ((a1.size : Int) + 1))] ?_; (with_reducible refine (spec_l1Below.calls g s0_0 s0_1 s0_2 (wrap64 ((a1.size : Int) + 1)) aa ap aq w0 _ ?side1 ?side2 A4.out).mono ?_); (case side1 => exact zp47_2_ HI0.out); (case side2 => exact zp47_1_ HB.out (IsS93.ge HI0.out)); rintro e w14 ⟨rfl, hi, hb, hk⟩; refine ⟨_, rfl, ?_⟩; have n0_ := am_ (KeepBut.trans (k0_ HK.out) hk (.inl rfl)); have n1_ := am_ (hb); have n2_ := am_ (hi); clear HK; clear HB; clear HI0; have HK := n0_; have HB := n1_; have HI0 := n2_; clear n0_ n1_ n2_; (try clear hb); (try clear hb2); (try clear hk); (try clear hi)) | ((with_reducible refine gate_callee (f := 62) rfl ?_); refine gL_ (some 14) Try.func62 #[.pointer (some ⟨g, 0, none⟩), .int .i64 6] ?_; (with_reducible refine (spec_l1Below.calls g s0_0 ap aq 6 ag aA aB w0 _ ?side1 ?side2 A5.out).mono ?_); (case side1 => exact zp47_2_ HI0.out); (case side2 => exact zp47_1_ HB.out (IsS93.ge HI0.out)); rintro e w15 ⟨rfl, hi, hb, hk⟩; refine ⟨_, rfl, ?_⟩; have n0_ := am_ (KeepBut.trans (k0_ HK.out) hk (.inl rfl)); have n1_ := am_ (hb); have n2_ := am_ (hi); clear HK; clear HB; clear HI0; have HK := n0_; have HB := n1_; have HI0 := n2_; clear n0_ n1_ n2_; (try clear hb); (try clear hb2); (try clear hk); (try clear hi)))
      replace HI0 := am_ (IsS93.drew HI0.out)
      replace HK := am_ (keep_drew HK.out)
      replace HB := am_ (below_drew1 HB.out)
      refine start_ (n := 12) (S := fun w' => True) (ds := []) (bl 12 0) (by kernel_rfl) rfl rfl trivial (fun hHeld => ?_); refine with_tabW spec_l1Turned.tab4 spec_l1Turned.bits4 (fun HT_ HW_ => ?_)
      generalize w15.drew = w16 at HI0 HK HB hHeld ⊢
      refine pu_ 0 17 (bl 12 1) HT_ ?_
      refine pu_ 1 18 (bl 12 3) HT_ ?_
      refine pu_ 2 19 (bl 12 7) HT_ ?_
      refine pu_ 3 20 (bl 12 15) HT_ ?_
      refine pu_ 4 21 (bl 12 31) HT_ ?_
      refine pu_ 7 24 (bl 12 159) HT_ ?_
      refine pu_ 8 25 (bl 12 415) HT_ ?_
      refine pu_ 9 26 (bl 12 927) HT_ ?_
      refine on_ 5 (some 22) (bl 12 959) HT_ (fun K hK => ?_)
      refine gO_ Try.func60 #[.pointer (some ⟨g, 0, none⟩), .slice A2 l2.length c2] ?_
      with_reducible refine (spec_l1Pick.calls g s0_0 aA aB _ _ l2 ai ba bb w0 _ ?side1 ?side2 ?side3 ?side4 ?side5 A9.out).mono ?_
      (case side1 => exact zp47_2_ HI0.out)
      (case side2 => exact zp47_1_ HB.out (IsS93.ge HI0.out))
      (case side3 => exact Kd.C_keep (⟨#[]⟩ : ByteArray) HR2.out (k0_ HK.out) hf2)
      (case side4 => exact HC2.out)
      (case side5 => exact hf2)
      rintro e w17 ⟨rfl, hi, hb, hk⟩
      refine ⟨_, rfl, ?_⟩
      replace HK := am_ (KeepBut.trans (k0_ HK.out) hk (.inl rfl))
      replace HB := am_ (hb)
      replace HI0 := am_ (hi)
      (try clear hb)
      (try clear hb2)
      (try clear hk)
      (try clear hi)
      refine hK.out _ _ trivial (fun hHeld => ?_)
      clear hK K
      refine norm_ (a' := ?_) ?_ ?_
      rotate_left
      ·show Act.put _ (some 22) _ = _
       simp only [pn_, sz_, ss_, i64_w, i32_w]
       rfl
      refine pu_ 6 23 (bl 12 1023) HT_ ?_
      refine pu_ 10 27 (bl 12 2047) HT_ ?_
      refine pu_ 11 6 (bl 12 4095) HT_ ?_
      refine done_ (done_of HT_.out (by kernel_rfl)) ?_
      try go_wp2
      go_ret
      exact ⟨by first | rfl | (simp [errW_none, errW_some] <;> rfl) | (simp [*, errW_none, errW_some] <;> rfl), by exact zp47_2_ HI0.out, by exact zp47_1_ HB.out (IsS93.ge HI0.out), by repeat (first | (with_reducible first | exact HK.out | apply KeepBut.set_ | apply keep_drewN | apply keep_drew | apply keep_alloc) | exact HK.out)⟩
     ·rw [if_neg c13] at H
      exact absurd H (by simp)
    ·rw [if_neg c10] at H
     exact absurd H (by simp)
   ·rw [if_neg c8] at H
    exact absurd H (by simp)
  ·rw [if_neg c7] at H
   exact absurd H (by simp)
 ·rw [if_neg c6] at H
  have c6b0 : (ag == 0) = false := beq_eq_false_iff_ne.mpr c6
  have c6b1 : (ag != 0) = true := bne_iff_ne.mpr c6
  by_cases c18 : ag = 1
  ·rw [if_pos c18] at H
   have c18b0 : (ag == 1) = true := beq_iff_eq.mpr c18
   have c18b1 : (ag != 1) = false := bne_eq_false_iff_eq.mpr c18
   clear c18
   by_cases c19 : 0 ≤ aa
   ·rw [if_pos c19] at H
    have c19b0 := eq_true c19
    have c19b1 : decide (0 ≤ aa) = true := decide_eq_true c19
    clear c19
    by_cases c20 : aa ≤ (a1.size : Int)
    ·rw [if_pos c20] at H
     have c20b0 := eq_true c20
     have c20b1 : decide (aa ≤ (a1.size : Int)) = true := decide_eq_true c20
     clear c20
     simp only [Option.some.injEq, Prod.mk.injEq] at H
     obtain ⟨rfl, rfl, rfl⟩ := H
     go_enter Try.func59, Try.ntmps59
     go_wp2_with (first | ((with_reducible refine gate_callee (f := 62) rfl ?_); refine gL_ (some 12) Try.func62 #[.pointer (some ⟨g, 0, none⟩), .int .i64 (wrap64 ((a1.size : Int) + 1))] ?_; (with_reducible refine (spec_l1Below.calls g s0_0 s0_1 s0_2 (wrap64 ((a1.size : Int) + 1)) aa ap aq w0 _ ?side1 ?side2 A4.out).mono ?_); (case side1 => exact zp47_2_ HI0.out); (case side2 => exact zp47_1_ HB.out (IsS93.ge HI0.out)); rintro e w21 ⟨rfl, hi, hb, hk⟩; refine ⟨_, rfl, ?_⟩; have n0_ := am_ (KeepBut.trans (k0_ HK.out) hk (.inl rfl)); have n1_ := am_ (hb); have n2_ := am_ (hi); clear HK; clear HB; clear HI0; have HK := n0_; have HB := n1_; have HI0 := n2_; clear n0_ n1_ n2_; (try clear hb); (try clear hb2); (try clear hk); (try clear hi)) | ((with_reducible refine gate_callee (f := 62) rfl ?_); refine gL_ (some 14) Try.func62 #[.pointer (some ⟨g, 0, none⟩), .int .i64 6] ?_; (with_reducible refine (spec_l1Below.calls g s0_0 ap aq 6 ag aA aB w0 _ ?side1 ?side2 A5.out).mono ?_); (case side1 => exact zp47_2_ HI0.out); (case side2 => exact zp47_1_ HB.out (IsS93.ge HI0.out)); rintro e w22 ⟨rfl, hi, hb, hk⟩; refine ⟨_, rfl, ?_⟩; have n0_ := am_ (KeepBut.trans (k0_ HK.out) hk (.inl rfl)); have n1_ := am_ (hb); have n2_ := am_ (hi); clear HK; clear HB; clear HI0; have HK := n0_; have HB := n1_; have HI0 := n2_; clear n0_ n1_ n2_; (try clear hb); (try clear hb2); (try clear hk); (try clear hi)))
     go_ret
     exact ⟨by first | rfl | (simp [errW_none, errW_some] <;> rfl) | (simp [*, errW_none, errW_some] <;> rfl), by exact zp47_2_ HI0.out, by exact zp47_1_ HB.out (IsS93.ge HI0.out), by repeat (first | (with_reducible first | exact HK.out | apply KeepBut.set_ | apply keep_drewN | apply keep_drew | apply keep_alloc) | exact HK.out)⟩
    ·rw [if_neg c20] at H
     exact absurd H (by simp)
   ·rw [if_neg c19] at H
    exact absurd H (by simp)
  ·rw [if_neg c18] at H
   have c18b0 : (ag == 1) = false := beq_eq_false_iff_ne.mpr c18
   have c18b1 : (ag != 1) = true := bne_iff_ne.mpr c18
   simp only [Option.some.injEq, Prod.mk.injEq] at H
   obtain ⟨rfl, rfl, rfl⟩ := H
   go_enter Try.func59, Try.ntmps59
   go_wp2_with (first | ((with_reducible refine gate_callee (f := 62) rfl ?_); refine gL_ (some 12) Try.func62 #[.pointer (some ⟨g, 0, none⟩), .int .i64 (wrap64 ((a1.size : Int) + 1))] ?_; (with_reducible refine (spec_l1Below.calls g s0_0 s0_1 s0_2 (wrap64 ((a1.size : Int) + 1)) aa ap aq w0 _ ?side1 ?side2 A4.out).mono ?_); (case side1 => exact zp47_2_ HI0.out); (case side2 => exact zp47_1_ HB.out (IsS93.ge HI0.out)); rintro e w23 ⟨rfl, hi, hb, hk⟩; refine ⟨_, rfl, ?_⟩; have n0_ := am_ (KeepBut.trans (k0_ HK.out) hk (.inl rfl)); have n1_ := am_ (hb); have n2_ := am_ (hi); clear HK; clear HB; clear HI0; have HK := n0_; have HB := n1_; have HI0 := n2_; clear n0_ n1_ n2_; (try clear hb); (try clear hb2); (try clear hk); (try clear hi)) | ((with_reducible refine gate_callee (f := 62) rfl ?_); refine gL_ (some 14) Try.func62 #[.pointer (some ⟨g, 0, none⟩), .int .i64 6] ?_; (with_reducible refine (spec_l1Below.calls g s0_0 ap aq 6 ag aA aB w0 _ ?side1 ?side2 A5.out).mono ?_); (case side1 => exact zp47_2_ HI0.out); (case side2 => exact zp47_1_ HB.out (IsS93.ge HI0.out)); rintro e w24 ⟨rfl, hi, hb, hk⟩; refine ⟨_, rfl, ?_⟩; have n0_ := am_ (KeepBut.trans (k0_ HK.out) hk (.inl rfl)); have n1_ := am_ (hb); have n2_ := am_ (hi); clear HK; clear HB; clear HI0; have HK := n0_; have HB := n1_; have HI0 := n2_; clear n0_ n1_ n2_; (try clear hb); (try clear hb2); (try clear hk); (try clear hi)))
   go_ret
   exact ⟨by first | rfl | (simp [errW_none, errW_some] <;> rfl) | (simp [*, errW_none, errW_some] <;> rfl), by exact zp47_2_ HI0.out, by exact zp47_1_ HB.out (IsS93.ge HI0.out), by repeat (first | (with_reducible first | exact HK.out | apply KeepBut.set_ | apply keep_drewN | apply keep_drew | apply keep_alloc) | exact HK.out)⟩
def spec_DrawParseRegex.f (k : Nat) (l0 : List Int) : Option (ByteArray) := (spec_l1New.f k l0).bind fun bt889 => ((spec_l3Bent.f k bt889.1 bt889.2.1 bt889.2.2).bind fun bt893 => ((spec_FormatRegex.f k bt893.1 bt893.2.1 bt893.2.2.1).bind fun am => ((spec_l1Turned.f bt889.1 bt893.2.2.2.1 bt893.2.2.2.2 am (([(⟨#[40]⟩ : ByteArray), (⟨#[41]⟩ : ByteArray), (⟨#[42]⟩ : ByteArray), (⟨#[124]⟩ : ByteArray), (⟨#[97]⟩ : ByteArray), (⟨#[49]⟩ : ByteArray), (⟨#[33]⟩ : ByteArray), (⟨#[32]⟩ : ByteArray)] : List ByteArray))).bind fun bt904 => (some bt904.1))))
theorem spec_DrawParseRegex.mono : ∀ a0 k, LeO (spec_DrawParseRegex.f k a0) (spec_DrawParseRegex.f (k + 1) a0) := by
  intro a0 k
  unfold spec_DrawParseRegex.f
  repeat' first
      | (with_reducible exact spec_FormatRegex.mono _ _ _ _)
      | (with_reducible exact spec_l1New.mono _ _)
      | (with_reducible exact spec_l3Bent.mono _ _ _ _)
      | (with_reducible exact LeO.refl _)
      | (with_reducible exact LeO.none _)
      | (with_reducible refine LeO.ite ?_ ?_)
      | (with_reducible refine LeO.bind ?_ (fun _ => ?_))
      | exact spec_FormatRegex.mono _ _ _ _
      | exact spec_l1New.mono _ _
      | exact spec_l3Bent.mono _ _ _ _
      | exact LeO.none _
      | refine LeO.ite ?_ ?_
      | refine LeO.bind ?_ (fun _ => ?_)
set_option maxHeartbeats 8000000 in
set_option maxRecDepth 100000 in
theorem spec_DrawParseRegex.calls (k : Nat) (A0 : Option Addr) (c0 : Nat) (l0 : List Int) (r : ByteArray) (w : World) (hr0 : Kd.C (Kd.int .u8) w A0 l0.length l0) (hc0 : l0.length ≤ c0) (h : spec_DrawParseRegex.f k l0 = some r) :
    Calls Try.prog 33 #[.slice A0 l0.length c0] w fun e w' => e = .returned (.string r) ∧ Below w.heap.size w w' := by
  have HR0 := am_ hr0
  have HC0 := am_ hc0
  clear hr0 hc0
  have HB := am_ (Below.refl w.heap.size w)
  have H : ((spec_l1New.f k l0).bind fun bt889 => ((spec_l3Bent.f k bt889.1 bt889.2.1 bt889.2.2).bind fun bt893 => ((spec_FormatRegex.f k bt893.1 bt893.2.1 bt893.2.2.1).bind fun am => ((spec_l1Turned.f bt889.1 bt893.2.2.2.1 bt893.2.2.2.2 am (([(⟨#[40]⟩ : ByteArray), (⟨#[41]⟩ : ByteArray), (⟨#[42]⟩ : ByteArray), (⟨#[124]⟩ : ByteArray), (⟨#[97]⟩ : ByteArray), (⟨#[49]⟩ : ByteArray), (⟨#[33]⟩ : ByteArray), (⟨#[32]⟩ : ByteArray)] : List ByteArray))).bind fun bt904 => (some bt904.1))))) = some r := h
  clear h
  replace H := Option.bind_eq_some_iff.mp H
  obtain ⟨⟨ax, aP, aQ⟩, A20, H⟩ := H
  have A2 := am_ A20
  clear A20
  replace H := Option.bind_eq_some_iff.mp H
  obtain ⟨⟨aF, aG, aH, aC, aD⟩, A30, H⟩ := H
  have A3 := am_ A30
  clear A30
  replace H := Option.bind_eq_some_iff.mp H
  obtain ⟨am, A40, H⟩ := H
  have A4 := am_ A40
  clear A40
  obtain ⟨aE, hy901⟩ : ∃ y_ : List ByteArray, y_ = (([(⟨#[40]⟩ : ByteArray), (⟨#[41]⟩ : ByteArray), (⟨#[42]⟩ : ByteArray), (⟨#[124]⟩ : ByteArray), (⟨#[97]⟩ : ByteArray), (⟨#[49]⟩ : ByteArray), (⟨#[33]⟩ : ByteArray), (⟨#[32]⟩ : ByteArray)] : List ByteArray)) := ⟨_, rfl⟩
  replace H : ((spec_l1Turned.f ax aC aD am aE).bind fun bt904 => (some bt904.1)) = some r := by first | (rw [hy901]; with_reducible exact H) | (have H2_ := (Option.bind_some _ _).symm.trans H; rw [hy901]; with_reducible exact H2_) | (have H2_ := (Option.bind_some _ _).symm.trans H; with_reducible exact H2_) | with_reducible exact H | (rw [hy901]; exact H) | exact H
  have aL := am_ hy901
  clear hy901
  replace H := Option.bind_eq_some_iff.mp H
  obtain ⟨⟨aR, bc, bd⟩, A50, H⟩ := H
  replace H : (some aR) = some r := H
  have A5 := am_ A50
  clear A50
  obtain rfl := Option.some.inj H
  simp only [Option.some.injEq, Prod.mk.injEq] at H
  obtain ⟨rfl⟩ := H
  go_enter Try.func33, Try.ntmps33
  go_wp2_with (first | ((with_reducible refine gate_callee (f := 58) rfl ?_); refine gL_ (some 5) Try.func58 #[.slice A0 l0.length c0] ?_; (with_reducible refine (spec_l1New.calls k _ _ l0 ax aP aQ w _ ?side1 ?side2 ?side3 A2.out).mono ?_); (case side1 => exact zp47_0_ HB.out); (case side2 => exact HR0.out); (case side3 => exact HC0.out); rintro e w6 ⟨g892, rfl, hi, hb, hb2⟩; refine ⟨_, rfl, ?_⟩; replace HB := am_ (hb); replace HI892 := am_ (hi); (try clear hb); (try clear hb2); (try clear hk); (try clear hi)) | ((with_reducible refine gate_callee (f := 57) rfl ?_); refine gL_ (some 8) Try.func57 #[.pointer (some ⟨g892, 0, none⟩)] ?_; (with_reducible refine (spec_l3Bent.calls k g892 ax aP aQ aF aG aH aC aD w _ ?side1 ?side2 A3.out).mono ?_); (case side1 => exact zp47_2_ HI892.out); (case side2 => exact zp47_1_ HB.out (IsS93.ge HI892.out)); rintro e w7 ⟨br, rfl, ho0, hi, hb, hk⟩; refine ⟨_, rfl, ?_⟩; have n0_ := am_ (Kd.N_lower (Kd.N_mono (ok' := fun k_ => k_ ≠ g892) ho0 (fun k_ hk_ => (IsS93.fresh (zp47_2_ HI892.out) k_ hk_))) (below_size (b1_ HB.out (IsS93.ge HI892.out)))); have n1_ := am_ (hb); have n2_ := am_ (hi); clear HB; clear HI892; have af := n0_; have HB := n1_; have HI892 := n2_; clear n0_ n1_ n2_; (try clear hb); (try clear hb2); (try clear hk); (try clear hi); (try clear ho0); obtain ⟨Ao8, co8, eo8⟩ := Kd.N_slice af.out; subst eo8) | ((with_reducible refine gate_callee (f := 19) rfl ?_); refine gL_ (some 9) Try.func19 #[.agg #[.int .i64 aF, .string aG, .slice Ao8 aH.length co8]] ?_; (with_reducible refine (spec_FormatRegex.calls k aF aG _ _ aH am _ ?side1 ?side2 A4.out).mono ?_); (case side1 => exact rc_ ((Kd.N_reads' af.out).2.2)); (case side2 => exact (Kd.N_reads' af.out).2.1); rintro e w9 ⟨rfl, hb⟩; refine ⟨_, rfl, ?_⟩; have n0_ := am_ (Kd.N_below (rn_ af.out) hb); have n1_ := am_ (IsS93.below (zp47_2_ HI892.out) hb); have n2_ := am_ (below_step (b1_ HB.out (IsS93.ge HI892.out)) hb); clear af; clear HI892; clear HB; have af := n0_; have HI892 := n1_; have HB := n2_; clear n0_ n1_ n2_; (try clear hb); (try clear hb2); (try clear hk); (try clear hi)) | ((with_reducible refine gate_dst (N := 10) rfl ?_); refine Kd.R_lit Kd.string _ 9 ?hg (N := 10) ?hd (xs := ([(⟨#[40]⟩ : ByteArray), (⟨#[41]⟩ : ByteArray), (⟨#[42]⟩ : ByteArray), (⟨#[124]⟩ : ByteArray), (⟨#[97]⟩ : ByteArray), (⟨#[49]⟩ : ByteArray), (⟨#[33]⟩ : ByteArray), (⟨#[32]⟩ : ByteArray)] : List ByteArray)) (inner := [.string (⟨#[40]⟩ : ByteArray), .string (⟨#[41]⟩ : ByteArray), .string (⟨#[42]⟩ : ByteArray), .string (⟨#[124]⟩ : ByteArray), .string (⟨#[97]⟩ : ByteArray), .string (⟨#[49]⟩ : ByteArray), .string (⟨#[33]⟩ : ByteArray), .string (⟨#[32]⟩ : ByteArray)]) (ok := fun _ => True) (okp := fun _ => True) ?hr ?hp (fun _ hk => hk) trivial (Below.refl _ _) (Nat.le_refl _) (by simp) ?_; (case hd => rfl); (case hg => rfl); (case hr => first | (go_simp; done) | (go_simp; rfl)); (case hp => exact (Reps.one (show Kd.M Kd.string _ _ _ (⟨#[40]⟩ : ByteArray) [.string (⟨#[40]⟩ : ByteArray)] from rfl) (Reps.one (show Kd.M Kd.string _ _ _ (⟨#[41]⟩ : ByteArray) [.string (⟨#[41]⟩ : ByteArray)] from rfl) (Reps.one (show Kd.M Kd.string _ _ _ (⟨#[42]⟩ : ByteArray) [.string (⟨#[42]⟩ : ByteArray)] from rfl) (Reps.one (show Kd.M Kd.string _ _ _ (⟨#[124]⟩ : ByteArray) [.string (⟨#[124]⟩ : ByteArray)] from rfl) (Reps.one (show Kd.M Kd.string _ _ _ (⟨#[97]⟩ : ByteArray) [.string (⟨#[97]⟩ : ByteArray)] from rfl) (Reps.one (show Kd.M Kd.string _ _ _ (⟨#[49]⟩ : ByteArray) [.string (⟨#[49]⟩ : ByteArray)] from rfl) (Reps.one (show Kd.M Kd.string _ _ _ (⟨#[33]⟩ : ByteArray) [.string (⟨#[33]⟩ : ByteArray)] from rfl) (Reps.one (show Kd.M Kd.string _ _ _ (⟨#[32]⟩ : ByteArray) [.string (⟨#[32]⟩ : ByteArray)] from rfl) (Reps.none _ _)))))))))); intro bs w10 ho11 hb hg_ hnew_; clear hg_ hnew_; (first | rw [← aL.out] at ho11 | (simp only [Int.reduceToNat] at ho11; rw [← aL.out] at ho11)); have n0_ := am_ (Kd.N_elder' (rn_ af.out) (Kd.R_base ho11) hb); have n1_ := am_ (Kd.R_lower ho11 (below_size (b1_ HB.out (IsS93.ge HI892.out)))); have n2_ := am_ (IsS93.below (zp47_2_ HI892.out) hb); have n3_ := am_ (below_step (b1_ HB.out (IsS93.ge HI892.out)) hb); clear af; clear HI892; clear HB; have af := n0_; have aj := n1_; have HI892 := n2_; have HB := n3_; clear n0_ n1_ n2_ n3_; clear hb ho11; obtain ⟨aS, aT, be⟩ := Kd.R_slice aj.out; subst be) | ((with_reducible refine gate_callee (f := 59) rfl ?_); refine gL_ (some 11) Try.func59 #[.pointer (some ⟨g892, 0, none⟩), .string am, .slice aS aE.length aT] ?_; (with_reducible refine (spec_l1Turned.calls g892 ax aC aD am _ _ aE aR bc bd w _ ?side1 ?side2 ?side3 ?side4 ?side5 A5.out).mono ?_); (case side1 => exact zp47_2_ HI892.out); (case side2 => exact zp47_1_ HB.out (IsS93.ge HI892.out)); (case side3 => exact rc_ ((Kd.R_reads' aj.out).2.2)); (case side4 => exact (Kd.R_reads' aj.out).2.1); (case side5 => exact far_slice (IsS93.own_ne HI892.out aj.out (by decide))); rintro e w13 ⟨rfl, hi, hb, hk⟩; refine ⟨_, rfl, ?_⟩; have n0_ := am_ (Kd.N_mono (Kd.N_keep (Kd.N_mono (ok := fun k_ => (k_ ≠ g892 ∧ some k_ ≠ (.slice aS aE.length aT : Value).ownBlock)) (rn_ af.out) (fun k_ hk_ => (⟨hk_, hk_.1⟩ : _ ∧ k_ ≠ g892))) hk (fun _ h => h.2)) (fun _ h => h.1)); have n1_ := am_ (Kd.R_mono (Kd.R_keep (IsS93.apart (show IsS93 w _ g892 ax aC aD from by exact zp47_2_ HI892.out) (rr_ aj.out) (by decide)) hk (fun _ h => h.2)) (fun _ h => h.1)); have n2_ := am_ (hb); have n3_ := am_ (hi); clear af; clear aj; clear HB; clear HI892; have af := n0_; have aj := n1_; have HB := n2_; have HI892 := n3_; clear n0_ n1_ n2_ n3_; (try clear hb); (try clear hb2); (try clear hk); (try clear hi)))
  go_ret
  exact ⟨by first | rfl | (simp [errW_none, errW_some] <;> rfl) | (simp [*, errW_none, errW_some] <;> rfl), by exact zp47_1_ HB.out (IsS93.ge HI892.out)⟩
end Go.Proofs.Ytldgkgdgcfllmaa.P
end
