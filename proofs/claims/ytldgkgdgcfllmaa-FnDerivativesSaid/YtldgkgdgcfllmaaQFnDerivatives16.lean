/- Texts of the proof of FnDerivatives, put together. No condition. -/
import Derived.Test.YtldgkgdgcfllmaaQFnDerivatives3
import Derived.Test.YtldgkgdgcfllmaaQFnDerivatives13
import Derived.Test.YtldgkgdgcfllmaaQFnDerivatives15
import Derived.Test.YtldgkgdgcfllmaaQFnDerivatives14
import Derived.Test.YtldgkgdgcfllmaaQFnDerivatives2
section
namespace Go.Proofs.Ytldgkgdgcfllmaa.P
open Go.RowKit Go.Proofs.YtldgkgdgcfllmaaW.PrintWords Go.Proofs.YtldgkgdgcfllmaaW.PrintLast Go.Proofs.YtldgkgdgcfllmaaW.PrintMore
attribute [local go_sem] max2_int min2_int max_two min_two max_three min_three max_four min_four
set_option linter.unusedVariables false
set_option linter.unusedSimpArgs false
def spec_DrawDerivativeOf.f (k : Nat) (l0 : List Int) : Option (Int × ByteArray × (List (S29)) × ByteArray) := (spec_l1New.f k l0).bind fun bt943 => ((spec_l3Bent.f k bt943.1 bt943.2.1 bt943.2.2).bind fun bt947 => ((spec_l1Pick.f bt943.1 bt947.2.2.2.1 bt947.2.2.2.2 (([(⟨#[97]⟩ : ByteArray), (⟨#[98]⟩ : ByteArray), (⟨#[99]⟩ : ByteArray), (⟨#[100]⟩ : ByteArray), (⟨#[]⟩ : ByteArray), (⟨#[97, 98]⟩ : ByteArray)] : List ByteArray))).bind fun bt957 => (some (bt947.1, bt947.2.1, bt947.2.2.1, bt957.1))))
theorem spec_DrawDerivativeOf.mono : ∀ a0 k, LeO (spec_DrawDerivativeOf.f k a0) (spec_DrawDerivativeOf.f (k + 1) a0) := by
  intro a0 k
  unfold spec_DrawDerivativeOf.f
  repeat' first
      | (with_reducible exact spec_l1New.mono _ _)
      | (with_reducible exact spec_l3Bent.mono _ _ _ _)
      | (with_reducible exact LeO.refl _)
      | (with_reducible exact LeO.none _)
      | (with_reducible refine LeO.ite ?_ ?_)
      | (with_reducible refine LeO.bind ?_ (fun _ => ?_))
      | exact spec_l1New.mono _ _
      | exact spec_l3Bent.mono _ _ _ _
      | exact LeO.none _
      | refine LeO.ite ?_ ?_
      | refine LeO.bind ?_ (fun _ => ?_)
theorem zp49_0_ {p q g1 : Prop} (h : p) (h1 : g1) (c : p → g1 → q := by intro h_ h1_; repeat (first | (with_reducible first | exact h_ | apply below_alloc | apply pw_below_drewN | apply below_drew1 | refine below_set ?_ h1_) | exact h_)) : q := c h h1
theorem zp49_1_ {p q g1 : Prop} (h : p) (h1 : g1) (c : p → g1 → q := by intro h_ h1_; repeat (first | (with_reducible first | exact h_ | apply IsS93.alloc | apply IsS93.drewN | apply IsS93.drew | apply IsS93.set_1 | apply IsS93.set_2 | refine IsS93.far ?_ h1_ _) | exact h_)) : q := c h h1
theorem zp49_2_ {p q : Prop} (h : p) (c : p → q := by intro h_; repeat (first | (with_reducible first | exact h_ | apply IsS93.alloc | apply IsS93.drewN | apply IsS93.drew | apply IsS93.set_1 | apply IsS93.set_2) | exact h_)) : q := c h
theorem zp49_3_ {p q : Prop} (h : p) (c : p → q := by intro h_; repeat (first | (with_reducible first | exact h_ | apply KeepBut.set_ | apply keep_drewN | apply keep_drew | apply keep_alloc) | exact h_)) : q := c h
set_option maxHeartbeats 8000000 in
set_option maxRecDepth 100000 in
theorem spec_DrawDerivativeOf.calls (k : Nat) (A0 : Option Addr) (c0 : Nat) (l0 : List Int) (r1 : Int) (r2 : ByteArray) (r3 : List (S29)) (r4 : ByteArray) (w : World) (hr0 : Kd.C (Kd.int .u8) w A0 l0.length l0) (hc0 : l0.length ≤ c0) (h : spec_DrawDerivativeOf.f k l0 = some (r1, r2, r3, r4)) :
    Calls Try.prog 34 #[.slice A0 l0.length c0] w fun e w' => ∃ v2_ : Value, e = .returned (.tuple #[.agg #[.int .i64 r1, .string r2, v2_], .string r4]) ∧ Kd.N k29 29 w' w.heap.size (fun k_ => (w.heap.size ≤ k_)) v2_ r3 ∧ Below w.heap.size w w' := by
  have hu29 := Try.underlying29
  have HR0 := am_ hr0
  have HC0 := am_ hc0
  clear hr0 hc0
  have HB := am_ (Below.refl w.heap.size w)
  have H : ((spec_l1New.f k l0).bind fun bt943 => ((spec_l3Bent.f k bt943.1 bt943.2.1 bt943.2.2).bind fun bt947 => ((spec_l1Pick.f bt943.1 bt947.2.2.2.1 bt947.2.2.2.2 (([(⟨#[97]⟩ : ByteArray), (⟨#[98]⟩ : ByteArray), (⟨#[99]⟩ : ByteArray), (⟨#[100]⟩ : ByteArray), (⟨#[]⟩ : ByteArray), (⟨#[97, 98]⟩ : ByteArray)] : List ByteArray))).bind fun bt957 => (some (bt947.1, bt947.2.1, bt947.2.2.1, bt957.1))))) = some (r1, r2, r3, r4) := h
  clear h
  replace H := Option.bind_eq_some_iff.mp H
  obtain ⟨⟨au, aN, aO⟩, A20, H⟩ := H
  have A2 := am_ A20
  clear A20
  replace H := Option.bind_eq_some_iff.mp H
  obtain ⟨⟨ao, ap, av, ax, ay⟩, A30, H⟩ := H
  have A3 := am_ A30
  clear A30
  obtain ⟨az, hy954⟩ : ∃ y_ : List ByteArray, y_ = (([(⟨#[97]⟩ : ByteArray), (⟨#[98]⟩ : ByteArray), (⟨#[99]⟩ : ByteArray), (⟨#[100]⟩ : ByteArray), (⟨#[]⟩ : ByteArray), (⟨#[97, 98]⟩ : ByteArray)] : List ByteArray)) := ⟨_, rfl⟩
  replace H : ((spec_l1Pick.f au ax ay az).bind fun bt957 => (some (ao, ap, av, bt957.1))) = some (r1, r2, r3, r4) := by first | (rw [hy954]; with_reducible exact H) | (have H2_ := (Option.bind_some _ _).symm.trans H; rw [hy954]; with_reducible exact H2_) | (have H2_ := (Option.bind_some _ _).symm.trans H; with_reducible exact H2_) | with_reducible exact H | (rw [hy954]; exact H) | exact H
  have aH := am_ hy954
  clear hy954
  replace H := Option.bind_eq_some_iff.mp H
  obtain ⟨⟨aP, aZ, ba⟩, A40, H⟩ := H
  replace H : (some (ao, ap, av, aP)) = some (r1, r2, r3, r4) := H
  have A4 := am_ A40
  clear A40
  simp only [Option.some.injEq, Prod.mk.injEq] at H
  obtain ⟨rfl, rfl, rfl, rfl⟩ := H
  go_enter Try.func34, Try.ntmps34
  go_wp2_with (first | ((with_reducible refine gate_dst (N := 2) rfl ?_); refine box_event ?hg (N := 2) ?hd (cs := #[.int .i64 0, .string (⟨#[]⟩ : ByteArray), .slice none 0 0]) (t := 29) ?hr ?_; (case hd => rfl); (case hg => rfl); (case hr => first | (go_simp; done) | (go_simp; rfl)); intro ab hg w5 hbox hb; replace aa := am_ (hbox); replace bi := am_ ((by rw [hg]; exact (below_size (b0_ HB.out)) : w.heap.size ≤ ab)); replace ae := am_ ((by rw [hg]; exact (below_size (b0_ HB.out)) : w.heap.size ≤ ab)); replace HB := am_ (below_step (b0_ HB.out) hb); clear hb hbox hg) | ((with_reducible refine gate_callee (f := 58) rfl ?_); refine gL_ (some 6) Try.func58 #[.slice A0 l0.length c0] ?_; (with_reducible refine (spec_l1New.calls k _ _ l0 au aN aO w _ ?side1 ?side2 ?side3 A2.out).mono ?_); (case side1 => exact zp49_0_ HB.out ae.out); (case side2 => exact HR0.out); (case side3 => exact HC0.out); rintro e w6 ⟨g946, rfl, hi, hb, hb2⟩; refine ⟨_, rfl, ?_⟩; have n0_ := am_ (blk_below (rb_ aa.out) hb2); have n1_ := am_ (hb); have n2_ := am_ (hi); have n3_ := am_ (IsS93.ne_blk hi (blk_below (rb_ aa.out) hb2) (by decide)); have n4_ := am_ (Ne.symm (IsS93.ne_blk hi (blk_below (rb_ aa.out) hb2) (by decide))); clear aa; clear HB; have aa := n0_; have HB := n1_; have HI946 := n2_; have ad := n3_; have am := n4_; clear n0_ n1_ n2_ n3_ n4_; (try clear hb); (try clear hb2); (try clear hk); (try clear hi)) | ((with_reducible refine gate_callee (f := 57) rfl ?_); refine gL_ (some 8) Try.func57 #[.pointer (some ⟨g946, 0, none⟩)] ?_; (with_reducible refine (spec_l3Bent.calls k g946 au aN aO ao ap av ax ay w _ ?side1 ?side2 A3.out).mono ?_); (case side1 => exact zp49_1_ HI946.out ad.out); (case side2 => repeat (first | (with_reducible first | exact HB.out | apply below_alloc | apply pw_below_drewN | apply below_drew1 | refine below_set ?_ (IsS93.ge HI946.out) | refine below_set ?_ ae.out) | exact HB.out)); rintro e w7 ⟨bl, rfl, ho0, hi, hb, hk⟩; refine ⟨_, rfl, ?_⟩; have n0_ := am_ (KeepBut.blk hk (g' := ab) (o := .cells #[.int .i64 0, .string (⟨#[]⟩ : ByteArray), .slice none 0 0] 29 (0, 0)) (rb_ aa.out) am.out (by simp)); have n1_ := am_ (Kd.N_lower (Kd.N_mono (ok' := fun k_ => (w.heap.size ≤ k_) ∧ k_ ≠ ab ∧ k_ ≠ g946) ho0 (fun k_ hk_ => ⟨(Nat.le_trans (below_size (b2_ HB.out (IsS93.ge HI946.out) ae.out)) hk_), (Kd.freshB (g := ab) (o := .cells #[.int .i64 0, .string (⟨#[]⟩ : ByteArray), .slice none 0 0] 29 (0, 0)) (rb_ aa.out) k_ hk_), (IsS93.fresh (zp49_1_ HI946.out ad.out) k_ hk_)⟩)) (below_size (b2_ HB.out (IsS93.ge HI946.out) ae.out))); have n2_ := am_ (hb); have n3_ := am_ (hi); clear aa; clear HB; clear HI946; have aa := n0_; have ah := n1_; have HB := n2_; have HI946 := n3_; clear n0_ n1_ n2_ n3_; (try clear hb); (try clear hb2); (try clear hk); (try clear hi); (try clear ho0)) | ((with_reducible refine gate_dst (N := 10) rfl ?_); refine Kd.R_lit Kd.string _ 9 ?hg (N := 10) ?hd (xs := ([(⟨#[97]⟩ : ByteArray), (⟨#[98]⟩ : ByteArray), (⟨#[99]⟩ : ByteArray), (⟨#[100]⟩ : ByteArray), (⟨#[]⟩ : ByteArray), (⟨#[97, 98]⟩ : ByteArray)] : List ByteArray)) (inner := [.string (⟨#[97]⟩ : ByteArray), .string (⟨#[98]⟩ : ByteArray), .string (⟨#[99]⟩ : ByteArray), .string (⟨#[100]⟩ : ByteArray), .string (⟨#[]⟩ : ByteArray), .string (⟨#[97, 98]⟩ : ByteArray)]) (ok := fun _ => True) (okp := fun _ => True) ?hr ?hp (fun _ hk => hk) trivial (Below.refl _ _) (Nat.le_refl _) (by simp) ?_; (case hd => rfl); (case hg => rfl); (case hr => first | (go_simp; done) | (go_simp; rfl)); (case hp => exact (Reps.one (show Kd.M Kd.string _ _ _ (⟨#[97]⟩ : ByteArray) [.string (⟨#[97]⟩ : ByteArray)] from rfl) (Reps.one (show Kd.M Kd.string _ _ _ (⟨#[98]⟩ : ByteArray) [.string (⟨#[98]⟩ : ByteArray)] from rfl) (Reps.one (show Kd.M Kd.string _ _ _ (⟨#[99]⟩ : ByteArray) [.string (⟨#[99]⟩ : ByteArray)] from rfl) (Reps.one (show Kd.M Kd.string _ _ _ (⟨#[100]⟩ : ByteArray) [.string (⟨#[100]⟩ : ByteArray)] from rfl) (Reps.one (show Kd.M Kd.string _ _ _ (⟨#[]⟩ : ByteArray) [.string (⟨#[]⟩ : ByteArray)] from rfl) (Reps.one (show Kd.M Kd.string _ _ _ (⟨#[97, 98]⟩ : ByteArray) [.string (⟨#[97, 98]⟩ : ByteArray)] from rfl) (Reps.none _ _)))))))); intro bm w8 ho9 hb hg_ hnew_; clear hg_ hnew_; (first | rw [← aH.out] at ho9 | (simp only [Int.reduceToNat] at ho9; rw [← aH.out] at ho9)); have n0_ := am_ (Kd.N_elder' (rn_ ah.out) (Kd.R_base ho9) hb); have n1_ := am_ (Kd.R_lower (Kd.R_newM (M := fun k_ => (w.heap.size ≤ k_)) ho9 (below_size (b2_ HB.out (IsS93.ge HI946.out) ae.out)) (fun k_ h_ => h_)) (below_size (b2_ HB.out (IsS93.ge HI946.out) ae.out))); have n2_ := am_ (blk_below (rb_ aa.out) hb); have n3_ := am_ (IsS93.below (zp49_1_ HI946.out ad.out) hb); have n4_ := am_ (below_step (b2_ HB.out (IsS93.ge HI946.out) ae.out) hb); clear ah; clear aa; clear HI946; clear HB; have ah := n0_; have ai := n1_; have aa := n2_; have HI946 := n3_; have HB := n4_; clear n0_ n1_ n2_ n3_ n4_; clear hb ho9; obtain ⟨aA, aB, aE⟩ := Kd.R_slice ai.out; subst aE) | ((with_reducible refine gate_callee (f := 60) rfl ?_); refine gL_ (some 11) Try.func60 #[.pointer (some ⟨g946, 0, none⟩), .slice aA az.length aB] ?_; (with_reducible refine (spec_l1Pick.calls g946 au ax ay _ _ az aP aZ ba w _ ?side1 ?side2 ?side3 ?side4 ?side5 A4.out).mono ?_); (case side1 => exact zp49_1_ HI946.out ad.out); (case side2 => repeat (first | (with_reducible first | exact HB.out | apply below_alloc | apply pw_below_drewN | apply below_drew1 | refine below_set ?_ (IsS93.ge HI946.out) | refine below_set ?_ ae.out) | exact HB.out)); (case side3 => exact rc_ ((Kd.R_reads' ai.out).2.2)); (case side4 => exact (Kd.R_reads' ai.out).2.1); (case side5 => exact far_slice (IsS93.own_ne HI946.out ai.out (by decide))); rintro e w11 ⟨rfl, hi, hb, hk⟩; refine ⟨_, rfl, ?_⟩; have n0_ := am_ (KeepBut.blk hk (g' := ab) (o := .cells #[.int .i64 0, .string (⟨#[]⟩ : ByteArray), .slice none 0 0] 29 (0, 0)) (rb_ aa.out) am.out (by simp)); have n1_ := am_ (Kd.N_mono (Kd.N_keep (Kd.N_mono (ok := fun k_ => ((((w.heap.size ≤ k_)) ∧ (k_ ≠ ab ∧ k_ ≠ g946)) ∧ some k_ ≠ (.slice aA az.length aB : Value).ownBlock)) (rn_ ah.out) (fun k_ hk_ => (⟨hk_, hk_.1.2.2⟩ : _ ∧ k_ ≠ g946))) hk (fun _ h => h.2)) (fun _ h => h.1)); have n2_ := am_ (Kd.R_mono (Kd.R_keep (IsS93.apart (show IsS93 w _ g946 au ax ay from by exact zp49_1_ HI946.out ad.out) (rr_ ai.out) (by decide)) hk (fun _ h => h.2)) (fun _ h => h.1)); have n3_ := am_ (hb); have n4_ := am_ (hi); clear aa; clear ah; clear ai; clear HB; clear HI946; have aa := n0_; have ah := n1_; have ai := n2_; have HB := n3_; have HI946 := n4_; clear n0_ n1_ n2_ n3_ n4_; (try clear hb); (try clear hb2); (try clear hk); (try clear hi); have bj := am.out; have bk := ad.out; have bc := ck_ (v := (.int .i64 0)) aa 0 rfl; have bd := ck_ (v := (.string (⟨#[]⟩ : ByteArray))) aa 1 rfl; have be := ck_ (v := (.slice none 0 0)) aa 2 rfl; have bf := blk_frozen aa.out 0; have bg := blk_frozen aa.out 1; have bh := blk_frozen aa.out 2; obtain ⟨aQ, aR, bb⟩ := Kd.N_slice ah.out; subst bb))
  refine bodyPost_ret (results_ct rfl _ _ ab 29 #[.int .i64 ao, .string ap, .slice aQ av.length aR] (0, 0) _ rfl (by refine rb_ ?_; refine blk_put (cs := #[.int .i64 ao, .string ap, .slice none 0 0]) ?_ 2 _ rfl; refine rb_ ?_; refine blk_put (cs := #[.int .i64 ao, .string (⟨#[]⟩ : ByteArray), .slice none 0 0]) ?_ 1 _ rfl; refine rb_ ?_; refine blk_put (cs := #[.int .i64 0, .string (⟨#[]⟩ : ByteArray), .slice none 0 0]) ?_ 0 _ rfl; refine rb_ ?_; exact aa.out) Try.underlying29 rfl (by kernel_rfl)) rfl ?_
  exact ⟨_, by first | rfl | (simp [errW_none, errW_some] <;> rfl) | (simp [*, errW_none, errW_some] <;> rfl), by refine rn_ ?_; exact Kd.N_mono (Kd.N_far (p := ⟨ab, 2, none⟩) (Kd.N_far (p := ⟨ab, 1, none⟩) (Kd.N_far (p := ⟨ab, 0, none⟩) (Kd.N_mono ah.out (fun k_ hk => (⟨hk, hk.1.2.1⟩ : _ ∧ k_ ≠ ab))) (fun _ hk => hk.2) (.int .i64 ao)) (fun _ hk => hk.2) (.string ap)) (fun _ hk => hk.2) (.slice aQ av.length aR)) (fun _ hk => hk.1.1.1), by repeat (first | (with_reducible first | exact HB.out | apply below_alloc | apply pw_below_drewN | apply below_drew1 | refine below_set ?_ (IsS93.ge HI946.out) | refine below_set ?_ ae.out) | exact HB.out)⟩
def spec_l2Word.l0 : Nat → ByteArray → Int → Int → List Int → Int → Int → Option (ByteArray × Int × Int)
  | 0, _, _, _, _, _, _ => none
  | k + 1, x5, x6, x7, aI, aJ, aK => if x7 < x6 then ((spec_l1Pick.f aI aJ aK (([(⟨#[97]⟩ : ByteArray), (⟨#[98]⟩ : ByteArray), (⟨#[97]⟩ : ByteArray), (⟨#[98]⟩ : ByteArray), (⟨#[99]⟩ : ByteArray)] : List ByteArray))).bind fun bt966 => (if x5.size + bt966.1.size ≤ 9223372036854775807 then (spec_l2Word.l0 k (x5 ++ bt966.1) x6 (wrap64 (x7 + 1)) aI bt966.2.1 bt966.2.2) else (none))) else (some (x5, aJ, aK))
def spec_l2Word.f (k : Nat) (s0_0 : List Int) (s0_1 : Int) (s0_2 : Int) (a1 : Int) : Option (ByteArray × Int × Int) := (spec_l1Below.f s0_0 s0_1 s0_2 (wrap64 (a1 + 1))).bind fun bt960 => (spec_l2Word.l0 k (⟨#[]⟩ : ByteArray) bt960.1 0 s0_0 bt960.2.1 bt960.2.2)
theorem spec_l2Word.mono_l : ∀ k, (∀ y0 y1 y2 y3 y4 y5, LeO (spec_l2Word.l0 k y0 y1 y2 y3 y4 y5) (spec_l2Word.l0 (k + 1) y0 y1 y2 y3 y4 y5))
  | 0 => fun _ _ _ _ _ _ r h => by simp [spec_l2Word.l0] at h
  | k + 1 => by
    have ih0 := spec_l2Word.mono_l k
    · intro y0 y1 y2 y3 y4 y5
      unfold spec_l2Word.l0
      repeat' first
      | (with_reducible exact ih0 _ _ _ _ _ _)
      | (with_reducible exact LeO.refl _)
      | (with_reducible exact LeO.none _)
      | (with_reducible refine LeO.ite ?_ ?_)
      | (with_reducible refine LeO.bind ?_ (fun _ => ?_))
      | exact ih0 _ _ _ _ _ _
      | exact LeO.none _
      | refine LeO.ite ?_ ?_
      | refine LeO.bind ?_ (fun _ => ?_)
theorem spec_l2Word.mono : ∀ a0 a1 a2 a3 k, LeO (spec_l2Word.f k a0 a1 a2 a3) (spec_l2Word.f (k + 1) a0 a1 a2 a3) := by
  intro a0 a1 a2 a3 k
  have ih0 := spec_l2Word.mono_l k
  unfold spec_l2Word.f
  repeat' first
      | (with_reducible exact ih0 _ _ _ _ _ _)
      | (with_reducible exact LeO.refl _)
      | (with_reducible exact LeO.none _)
      | (with_reducible refine LeO.ite ?_ ?_)
      | (with_reducible refine LeO.bind ?_ (fun _ => ?_))
      | exact ih0 _ _ _ _ _ _
      | exact LeO.none _
      | refine LeO.ite ?_ ?_
      | refine LeO.bind ?_ (fun _ => ?_)
set_option maxHeartbeats 8000000 in
set_option maxRecDepth 100000 in
theorem spec_l2Word.calls (k : Nat) (g : Nat) (s0_0 : List Int) (s0_1 : Int) (s0_2 : Int) (a1 : Int) (r1 : ByteArray) (r2 : Int) (r3 : Int) (w0 w : World) (hI : IsS93 w0 w g s0_0 s0_1 s0_2) (hB : Below w0.heap.size w0 w) (h : spec_l2Word.f k s0_0 s0_1 s0_2 a1 = some (r1, r2, r3)) :
    Calls Try.prog 65 #[.pointer (some ⟨g, 0, none⟩), .int .i64 a1] w fun e w' => e = .returned (.string r1) ∧ IsS93 w0 w' g s0_0 r2 r3 ∧ Below w0.heap.size w0 w' ∧ KeepBut w w' g none := by
  have HI0 := am_ hI
  have HK := am_ (KeepBut.refl w g none)
  have HL := am_ hB.size
  clear hI
  have HW0 := am_ hB.size
  have HB := am_ hB
  clear hB
  have H : ((spec_l1Below.f s0_0 s0_1 s0_2 (wrap64 (a1 + 1))).bind fun bt960 => (spec_l2Word.l0 k (⟨#[]⟩ : ByteArray) bt960.1 0 s0_0 bt960.2.1 bt960.2.2)) = some (r1, r2, r3) := h
  clear h
  replace H := Option.bind_eq_some_iff.mp H
  obtain ⟨⟨aq, aS, aT⟩, A30, H⟩ := H
  have A3 := am_ A30
  clear A30
  have H' := am_ H
  clear H
  go_enter Try.func65, Try.ntmps65
  go_wp2_with (first | ((with_reducible refine gate_callee (f := 62) rfl ?_); refine gL_ (some 11) Try.func62 #[.pointer (some ⟨g, 0, none⟩), .int .i64 (wrap64 (a1 + 1))] ?_; (with_reducible refine (spec_l1Below.calls g s0_0 s0_1 s0_2 (wrap64 (a1 + 1)) aq aS aT w0 _ ?side1 ?side2 A3.out).mono ?_); (case side1 => exact zp49_2_ HI0.out); (case side2 => exact zp49_0_ HB.out (IsS93.ge HI0.out)); rintro e w4 ⟨rfl, hi, hb, hk⟩; refine ⟨_, rfl, ?_⟩; have n0_ := am_ (KeepBut.trans (k0_ HK.out) hk (.inl rfl)); have n1_ := am_ (hb); have n2_ := am_ (hi); clear HK; clear HB; clear HI0; have HK := n0_; have HB := n1_; have HI0 := n2_; clear n0_ n1_ n2_; (try clear hb); (try clear hb2); (try clear hk); (try clear hi)))
  go_loopg [5, 7] k (fun kq v5 v7 w' => ∃ (aj : ByteArray) (an : Int) (af : Int) (ag : Int), v5 = .string aj ∧ v7 = .int .i64 an ∧ Aside0 (spec_l2Word.l0 kq aj aq an s0_0 af ag = some (r1, r2, r3)) ∧ Aside0 (kq ≤ k) ∧ Aside0 (IsS93 w0 w' g s0_0 af ag) ∧ Aside0 (KeepBut w w' g none) ∧ Aside0 (Below w0.heap.size w0 w'))
  case atStart => exact ⟨((⟨#[]⟩ : ByteArray)), (0), (aS), (aT), (by first | rfl | (simp; done) | (simp [*]; done)), (by first | rfl | (simp; done) | (simp [*]; done)), H', ⟨Nat.le_refl _⟩, ⟨by exact zp49_2_ HI0.out⟩, ⟨by exact zp49_3_ HK.out⟩, ⟨by exact zp49_0_ HB.out (IsS93.ge HI0.out)⟩⟩
  case round =>
    clear H'
    try clear p2
    obtain ⟨aj, an, af, ag, rfl, rfl, HA, HK1, HI0, HK, HB⟩ := hrel
    cases gk with
    | zero => exact absurd HA.out (by simp [spec_l2Word.l0])
    | succ k1 =>
      have H := HA.out
      clear HA
      simp only [spec_l2Word.l0] at H
      by_cases c5 : an < aq
      · rw [if_pos c5] at H
        have c5b0 : decide (an < aq) = true := decide_eq_true c5
        clear c5
        obtain ⟨aF, hy963⟩ : ∃ y_ : List ByteArray, y_ = (([(⟨#[97]⟩ : ByteArray), (⟨#[98]⟩ : ByteArray), (⟨#[97]⟩ : ByteArray), (⟨#[98]⟩ : ByteArray), (⟨#[99]⟩ : ByteArray)] : List ByteArray)) := ⟨_, rfl⟩
        replace H : ((spec_l1Pick.f s0_0 af ag aF).bind fun bt966 => (if aj.size + bt966.1.size ≤ 9223372036854775807 then (spec_l2Word.l0 k1 (aj ++ bt966.1) aq (wrap64 (an + 1)) s0_0 bt966.2.1 bt966.2.2) else (none))) = some (r1, r2, r3) := by first | (rw [hy963]; with_reducible exact H) | (have H2_ := (Option.bind_some _ _).symm.trans H; rw [hy963]; with_reducible exact H2_) | (have H2_ := (Option.bind_some _ _).symm.trans H; with_reducible exact H2_) | with_reducible exact H | (rw [hy963]; exact H) | exact H
        have aL := am_ hy963
        clear hy963
        replace H := Option.bind_eq_some_iff.mp H
        obtain ⟨⟨aw, aU, aV⟩, A60, H⟩ := H
        have A6 := am_ A60
        clear A60
        by_cases c7 : aj.size + aw.size ≤ 9223372036854775807
        · rw [if_pos c7] at H
          have c7b0 := eq_true c7
          have c7b1 : decide (aj.size + aw.size ≤ 9223372036854775807) = true := decide_eq_true c7
          try have c7b2 : (9223372036854775807 < aj.size + aw.size) = False := eq_false (Nat.not_lt.2 c7)
          have H' := am_ H
          clear H
          go_wp2_with (first | ((with_reducible refine gate_dst (N := 19) rfl ?_); refine Kd.R_lit Kd.string _ 9 ?hg (N := 19) ?hd (xs := ([(⟨#[97]⟩ : ByteArray), (⟨#[98]⟩ : ByteArray), (⟨#[97]⟩ : ByteArray), (⟨#[98]⟩ : ByteArray), (⟨#[99]⟩ : ByteArray)] : List ByteArray)) (inner := [.string (⟨#[97]⟩ : ByteArray), .string (⟨#[98]⟩ : ByteArray), .string (⟨#[97]⟩ : ByteArray), .string (⟨#[98]⟩ : ByteArray), .string (⟨#[99]⟩ : ByteArray)]) (ok := fun _ => True) (okp := fun _ => True) ?hr ?hp (fun _ hk => hk) trivial (Below.refl _ _) (Nat.le_refl _) (by simp) ?_; (case hd => rfl); (case hg => rfl); (case hr => first | (go_simp; done) | (go_simp; rfl)); (case hp => exact (Reps.one (show Kd.M Kd.string _ _ _ (⟨#[97]⟩ : ByteArray) [.string (⟨#[97]⟩ : ByteArray)] from rfl) (Reps.one (show Kd.M Kd.string _ _ _ (⟨#[98]⟩ : ByteArray) [.string (⟨#[98]⟩ : ByteArray)] from rfl) (Reps.one (show Kd.M Kd.string _ _ _ (⟨#[97]⟩ : ByteArray) [.string (⟨#[97]⟩ : ByteArray)] from rfl) (Reps.one (show Kd.M Kd.string _ _ _ (⟨#[98]⟩ : ByteArray) [.string (⟨#[98]⟩ : ByteArray)] from rfl) (Reps.one (show Kd.M Kd.string _ _ _ (⟨#[99]⟩ : ByteArray) [.string (⟨#[99]⟩ : ByteArray)] from rfl) (Reps.none _ _))))))); intro bn w8 ho9 hb hg_ hnew_; clear hg_ hnew_; (first | rw [← aL.out] at ho9 | (simp only [Int.reduceToNat] at ho9; rw [← aL.out] at ho9)); have n0_ := am_ (Kd.R_lower ho9 (keep_size (w := w) (g := g) (row := none) (k0_ HK.out))); have n1_ := am_ (IsS93.below (zp49_2_ HI0.out) hb); have n2_ := am_ (KeepBut.trans (k0_ HK.out) (KeepBut.of_below hb g none) (.inl rfl)); have n3_ := am_ (below_step (b1_ HB.out (IsS93.ge HI0.out)) hb); clear HI0; clear HK; clear HB; have ak := n0_; have HI0 := n1_; have HK := n2_; have HB := n3_; clear n0_ n1_ n2_ n3_; clear hb ho9; obtain ⟨aA, aB, aE⟩ := Kd.R_slice ak.out; subst aE) | ((with_reducible refine gate_callee (f := 60) rfl ?_); refine gL_ (some 20) Try.func60 #[.pointer (some ⟨g, 0, none⟩), .slice aA aF.length aB] ?_; (with_reducible refine (spec_l1Pick.calls g s0_0 af ag _ _ aF aw aU aV w0 _ ?side1 ?side2 ?side3 ?side4 ?side5 A6.out).mono ?_); (case side1 => exact zp49_2_ HI0.out); (case side2 => exact zp49_0_ HB.out (IsS93.ge HI0.out)); (case side3 => exact rc_ ((Kd.R_reads' ak.out).2.2)); (case side4 => exact (Kd.R_reads' ak.out).2.1); (case side5 => exact far_slice (IsS93.own_ne HI0.out ak.out (by decide))); rintro e w11 ⟨rfl, hi, hb, hk⟩; refine ⟨_, rfl, ?_⟩; have n0_ := am_ (Kd.R_mono (Kd.R_keep (IsS93.apart (show IsS93 w0 _ g s0_0 af ag from by exact zp49_2_ HI0.out) (rr_ ak.out) (by decide)) hk (fun _ h => h.2)) (fun _ h => h.1)); have n1_ := am_ (KeepBut.trans (k0_ HK.out) hk (.inl rfl)); have n2_ := am_ (hb); have n3_ := am_ (hi); clear ak; clear HK; clear HB; clear HI0; have ak := n0_; have HK := n1_; have HB := n2_; have HI0 := n3_; clear n0_ n1_ n2_ n3_; (try clear hb); (try clear hb2); (try clear hk); (try clear hi)))
          go_roundg k1
          case measure => have := HK1.out; omega
          case rel => exact ⟨(aj ++ aw), (wrap64 (an + 1)), (aU), (aV), (by first | rfl | (simp; done) | (simp [*]; done)), (by first | rfl | (simp; done) | (simp [*]; done)), H', ⟨by have := HK1.out; omega⟩, ⟨by exact zp49_2_ HI0.out⟩, ⟨by exact zp49_3_ HK.out⟩, ⟨by exact zp49_0_ HB.out (IsS93.ge HI0.out)⟩⟩
        · rw [if_neg c7] at H
          exact absurd H (by simp)
      · rw [if_neg c5] at H
        have c5b0 : decide (an < aq) = false := decide_eq_false c5
        clear c5
        simp only [Option.some.injEq, Prod.mk.injEq] at H
        obtain ⟨rfl, rfl, rfl⟩ := H
        go_wp2
        go_ret
        exact ⟨by first | rfl | (simp [errW_none, errW_some] <;> rfl) | (simp [*, errW_none, errW_some] <;> rfl), by exact zp49_2_ HI0.out, by exact zp49_0_ HB.out (IsS93.ge HI0.out), by exact zp49_3_ HK.out⟩
def spec_l2Any.f (k : Nat) (s0_0 : List Int) (s0_1 : Int) (s0_2 : Int) : Option (ByteArray × Int × Int) := (spec_l2Word.f k s0_0 s0_1 s0_2 6).bind fun bt969 => ((spec_l1Pick.f s0_0 bt969.2.1 bt969.2.2 (([(⟨#[]⟩ : ByteArray), (⟨#[97]⟩ : ByteArray), (⟨#[97, 98, 99]⟩ : ByteArray), (⟨#[99, 99]⟩ : ByteArray), (⟨#[97, 98, 100]⟩ : ByteArray), (⟨#[65]⟩ : ByteArray), (⟨#[99, 99, 99, 99, 99, 99, 99, 99, 99, 99, 99, 99, 99, 99, 99, 99, 99, 99, 99, 99, 99, 99, 99, 99, 99, 99, 99, 99, 99, 99]⟩ : ByteArray), (⟨#[97, 97, 97, 97, 97, 97, 97, 97, 97, 97, 97, 97, 97, 97, 97, 97, 97, 97, 97, 97, 97, 97, 97, 97, 97, 97, 97, 97, 97, 97, 97]⟩ : ByteArray), (⟨#[97, 99, 99]⟩ : ByteArray), bt969.1] : List ByteArray))).bind fun bt975 => (some (bt975.1, bt975.2.1, bt975.2.2)))
theorem spec_l2Any.mono : ∀ a0 a1 a2 k, LeO (spec_l2Any.f k a0 a1 a2) (spec_l2Any.f (k + 1) a0 a1 a2) := by
  intro a0 a1 a2 k
  unfold spec_l2Any.f
  repeat' first
      | (with_reducible exact spec_l2Word.mono _ _ _ _ _)
      | (with_reducible exact LeO.refl _)
      | (with_reducible exact LeO.none _)
      | (with_reducible refine LeO.ite ?_ ?_)
      | (with_reducible refine LeO.bind ?_ (fun _ => ?_))
      | exact spec_l2Word.mono _ _ _ _ _
      | exact LeO.none _
      | refine LeO.ite ?_ ?_
      | refine LeO.bind ?_ (fun _ => ?_)
set_option maxHeartbeats 8000000 in
set_option maxRecDepth 100000 in
theorem spec_l2Any.calls (k : Nat) (g : Nat) (s0_0 : List Int) (s0_1 : Int) (s0_2 : Int) (r1 : ByteArray) (r2 : Int) (r3 : Int) (w0 w : World) (hI : IsS93 w0 w g s0_0 s0_1 s0_2) (hB : Below w0.heap.size w0 w) (h : spec_l2Any.f k s0_0 s0_1 s0_2 = some (r1, r2, r3)) :
    Calls Try.prog 64 #[.pointer (some ⟨g, 0, none⟩)] w fun e w' => e = .returned (.string r1) ∧ IsS93 w0 w' g s0_0 r2 r3 ∧ Below w0.heap.size w0 w' ∧ KeepBut w w' g none := by
  have HI0 := am_ hI
  have HK := am_ (KeepBut.refl w g none)
  have HL := am_ hB.size
  clear hI
  have HW0 := am_ hB.size
  have HB := am_ hB
  clear hB
  have H : ((spec_l2Word.f k s0_0 s0_1 s0_2 6).bind fun bt969 => ((spec_l1Pick.f s0_0 bt969.2.1 bt969.2.2 (([(⟨#[]⟩ : ByteArray), (⟨#[97]⟩ : ByteArray), (⟨#[97, 98, 99]⟩ : ByteArray), (⟨#[99, 99]⟩ : ByteArray), (⟨#[97, 98, 100]⟩ : ByteArray), (⟨#[65]⟩ : ByteArray), (⟨#[99, 99, 99, 99, 99, 99, 99, 99, 99, 99, 99, 99, 99, 99, 99, 99, 99, 99, 99, 99, 99, 99, 99, 99, 99, 99, 99, 99, 99, 99]⟩ : ByteArray), (⟨#[97, 97, 97, 97, 97, 97, 97, 97, 97, 97, 97, 97, 97, 97, 97, 97, 97, 97, 97, 97, 97, 97, 97, 97, 97, 97, 97, 97, 97, 97, 97]⟩ : ByteArray), (⟨#[97, 99, 99]⟩ : ByteArray), bt969.1] : List ByteArray))).bind fun bt975 => (some (bt975.1, bt975.2.1, bt975.2.2)))) = some (r1, r2, r3) := h
  clear h
  replace H := Option.bind_eq_some_iff.mp H
  obtain ⟨⟨ar, aC, aD⟩, A20, H⟩ := H
  have A2 := am_ A20
  clear A20
  obtain ⟨aG, hy972⟩ : ∃ y_ : List ByteArray, y_ = (([(⟨#[]⟩ : ByteArray), (⟨#[97]⟩ : ByteArray), (⟨#[97, 98, 99]⟩ : ByteArray), (⟨#[99, 99]⟩ : ByteArray), (⟨#[97, 98, 100]⟩ : ByteArray), (⟨#[65]⟩ : ByteArray), (⟨#[99, 99, 99, 99, 99, 99, 99, 99, 99, 99, 99, 99, 99, 99, 99, 99, 99, 99, 99, 99, 99, 99, 99, 99, 99, 99, 99, 99, 99, 99]⟩ : ByteArray), (⟨#[97, 97, 97, 97, 97, 97, 97, 97, 97, 97, 97, 97, 97, 97, 97, 97, 97, 97, 97, 97, 97, 97, 97, 97, 97, 97, 97, 97, 97, 97, 97]⟩ : ByteArray), (⟨#[97, 99, 99]⟩ : ByteArray), ar] : List ByteArray)) := ⟨_, rfl⟩
  replace H : ((spec_l1Pick.f s0_0 aC aD aG).bind fun bt975 => (some (bt975.1, bt975.2.1, bt975.2.2))) = some (r1, r2, r3) := by first | (rw [hy972]; with_reducible exact H) | (have H2_ := (Option.bind_some _ _).symm.trans H; rw [hy972]; with_reducible exact H2_) | (have H2_ := (Option.bind_some _ _).symm.trans H; with_reducible exact H2_) | with_reducible exact H | (rw [hy972]; exact H) | exact H
  have aM := am_ hy972
  clear hy972
  replace H := Option.bind_eq_some_iff.mp H
  obtain ⟨⟨aW, aX, aY⟩, A30, H⟩ := H
  replace H : (some (aW, aX, aY)) = some (r1, r2, r3) := H
  have A3 := am_ A30
  clear A30
  simp only [Option.some.injEq, Prod.mk.injEq] at H
  obtain ⟨rfl, rfl, rfl⟩ := H
  go_enter Try.func64, Try.ntmps64
  go_wp2_with (first | ((with_reducible refine gate_callee (f := 65) rfl ?_); refine gL_ (some 5) Try.func65 #[.pointer (some ⟨g, 0, none⟩), .int .i64 6] ?_; (with_reducible refine (spec_l2Word.calls k g s0_0 s0_1 s0_2 6 ar aC aD w0 _ ?side1 ?side2 A2.out).mono ?_); (case side1 => exact zp49_2_ HI0.out); (case side2 => exact zp49_0_ HB.out (IsS93.ge HI0.out)); rintro e w4 ⟨rfl, hi, hb, hk⟩; refine ⟨_, rfl, ?_⟩; have n0_ := am_ (KeepBut.trans (k0_ HK.out) hk (.inl rfl)); have n1_ := am_ (hb); have n2_ := am_ (hi); clear HK; clear HB; clear HI0; have HK := n0_; have HB := n1_; have HI0 := n2_; clear n0_ n1_ n2_; (try clear hb); (try clear hb2); (try clear hk); (try clear hi)) | ((with_reducible refine gate_dst (N := 6) rfl ?_); refine Kd.R_lit Kd.string _ 9 ?hg (N := 6) ?hd (xs := ([(⟨#[]⟩ : ByteArray), (⟨#[97]⟩ : ByteArray), (⟨#[97, 98, 99]⟩ : ByteArray), (⟨#[99, 99]⟩ : ByteArray), (⟨#[97, 98, 100]⟩ : ByteArray), (⟨#[65]⟩ : ByteArray), (⟨#[99, 99, 99, 99, 99, 99, 99, 99, 99, 99, 99, 99, 99, 99, 99, 99, 99, 99, 99, 99, 99, 99, 99, 99, 99, 99, 99, 99, 99, 99]⟩ : ByteArray), (⟨#[97, 97, 97, 97, 97, 97, 97, 97, 97, 97, 97, 97, 97, 97, 97, 97, 97, 97, 97, 97, 97, 97, 97, 97, 97, 97, 97, 97, 97, 97, 97]⟩ : ByteArray), (⟨#[97, 99, 99]⟩ : ByteArray), ar] : List ByteArray)) (inner := [.string (⟨#[]⟩ : ByteArray), .string (⟨#[97]⟩ : ByteArray), .string (⟨#[97, 98, 99]⟩ : ByteArray), .string (⟨#[99, 99]⟩ : ByteArray), .string (⟨#[97, 98, 100]⟩ : ByteArray), .string (⟨#[65]⟩ : ByteArray), .string (⟨#[99, 99, 99, 99, 99, 99, 99, 99, 99, 99, 99, 99, 99, 99, 99, 99, 99, 99, 99, 99, 99, 99, 99, 99, 99, 99, 99, 99, 99, 99]⟩ : ByteArray), .string (⟨#[97, 97, 97, 97, 97, 97, 97, 97, 97, 97, 97, 97, 97, 97, 97, 97, 97, 97, 97, 97, 97, 97, 97, 97, 97, 97, 97, 97, 97, 97, 97]⟩ : ByteArray), .string (⟨#[97, 99, 99]⟩ : ByteArray), .string ar]) (ok := fun _ => True) (okp := fun _ => True) ?hr ?hp (fun _ hk => hk) trivial (Below.refl _ _) (Nat.le_refl _) (by simp) ?_; (case hd => rfl); (case hg => rfl); (case hr => first | (go_simp; done) | (go_simp; rfl)); (case hp => exact (Reps.one (show Kd.M Kd.string _ _ _ (⟨#[]⟩ : ByteArray) [.string (⟨#[]⟩ : ByteArray)] from rfl) (Reps.one (show Kd.M Kd.string _ _ _ (⟨#[97]⟩ : ByteArray) [.string (⟨#[97]⟩ : ByteArray)] from rfl) (Reps.one (show Kd.M Kd.string _ _ _ (⟨#[97, 98, 99]⟩ : ByteArray) [.string (⟨#[97, 98, 99]⟩ : ByteArray)] from rfl) (Reps.one (show Kd.M Kd.string _ _ _ (⟨#[99, 99]⟩ : ByteArray) [.string (⟨#[99, 99]⟩ : ByteArray)] from rfl) (Reps.one (show Kd.M Kd.string _ _ _ (⟨#[97, 98, 100]⟩ : ByteArray) [.string (⟨#[97, 98, 100]⟩ : ByteArray)] from rfl) (Reps.one (show Kd.M Kd.string _ _ _ (⟨#[65]⟩ : ByteArray) [.string (⟨#[65]⟩ : ByteArray)] from rfl) (Reps.one (show Kd.M Kd.string _ _ _ (⟨#[99, 99, 99, 99, 99, 99, 99, 99, 99, 99, 99, 99, 99, 99, 99, 99, 99, 99, 99, 99, 99, 99, 99, 99, 99, 99, 99, 99, 99, 99]⟩ : ByteArray) [.string (⟨#[99, 99, 99, 99, 99, 99, 99, 99, 99, 99, 99, 99, 99, 99, 99, 99, 99, 99, 99, 99, 99, 99, 99, 99, 99, 99, 99, 99, 99, 99]⟩ : ByteArray)] from rfl) (Reps.one (show Kd.M Kd.string _ _ _ (⟨#[97, 97, 97, 97, 97, 97, 97, 97, 97, 97, 97, 97, 97, 97, 97, 97, 97, 97, 97, 97, 97, 97, 97, 97, 97, 97, 97, 97, 97, 97, 97]⟩ : ByteArray) [.string (⟨#[97, 97, 97, 97, 97, 97, 97, 97, 97, 97, 97, 97, 97, 97, 97, 97, 97, 97, 97, 97, 97, 97, 97, 97, 97, 97, 97, 97, 97, 97, 97]⟩ : ByteArray)] from rfl) (Reps.one (show Kd.M Kd.string _ _ _ (⟨#[97, 99, 99]⟩ : ByteArray) [.string (⟨#[97, 99, 99]⟩ : ByteArray)] from rfl) (Reps.one (show Kd.M Kd.string _ _ _ ar [.string ar] from rfl) (Reps.none _ _)))))))))))); intro bo w5 ho6 hb hg_ hnew_; clear hg_ hnew_; (first | rw [← aM.out] at ho6 | (simp only [Int.reduceToNat] at ho6; rw [← aM.out] at ho6)); have n0_ := am_ (Kd.R_lower ho6 (keep_size (w := w) (g := g) (row := none) (k0_ HK.out))); have n1_ := am_ (IsS93.below (zp49_2_ HI0.out) hb); have n2_ := am_ (KeepBut.trans (k0_ HK.out) (KeepBut.of_below hb g none) (.inl rfl)); have n3_ := am_ (below_step (b1_ HB.out (IsS93.ge HI0.out)) hb); clear HI0; clear HK; clear HB; have al := n0_; have HI0 := n1_; have HK := n2_; have HB := n3_; clear n0_ n1_ n2_ n3_; clear hb ho6; obtain ⟨Ao7, co7, eo7⟩ := Kd.R_slice al.out; subst eo7) | ((with_reducible refine gate_callee (f := 60) rfl ?_); refine gL_ (some 7) Try.func60 #[.pointer (some ⟨g, 0, none⟩), .slice Ao7 aG.length co7] ?_; (with_reducible refine (spec_l1Pick.calls g s0_0 aC aD _ _ aG aW aX aY w0 _ ?side1 ?side2 ?side3 ?side4 ?side5 A3.out).mono ?_); (case side1 => exact zp49_2_ HI0.out); (case side2 => exact zp49_0_ HB.out (IsS93.ge HI0.out)); (case side3 => exact rc_ ((Kd.R_reads' al.out).2.2)); (case side4 => exact (Kd.R_reads' al.out).2.1); (case side5 => exact far_slice (IsS93.own_ne HI0.out al.out (by decide))); rintro e w8 ⟨rfl, hi, hb, hk⟩; refine ⟨_, rfl, ?_⟩; have n0_ := am_ (Kd.R_mono (Kd.R_keep (IsS93.apart (show IsS93 w0 _ g s0_0 aC aD from by exact zp49_2_ HI0.out) (rr_ al.out) (by decide)) hk (fun _ h => h.2)) (fun _ h => h.1)); have n1_ := am_ (KeepBut.trans (k0_ HK.out) hk (.inl rfl)); have n2_ := am_ (hb); have n3_ := am_ (hi); clear al; clear HK; clear HB; clear HI0; have al := n0_; have HK := n1_; have HB := n2_; have HI0 := n3_; clear n0_ n1_ n2_ n3_; (try clear hb); (try clear hb2); (try clear hk); (try clear hi)))
  go_ret
  exact ⟨by first | rfl | (simp [errW_none, errW_some] <;> rfl) | (simp [*, errW_none, errW_some] <;> rfl), by exact zp49_2_ HI0.out, by exact zp49_0_ HB.out (IsS93.ge HI0.out), by exact zp49_3_ HK.out⟩
end Go.Proofs.Ytldgkgdgcfllmaa.P
end
section
namespace Go.Proofs.Ytldgkgdgcfllmaa.P
open Go.RowKit Go.Proofs.YtldgkgdgcfllmaaW.PrintWords Go.Proofs.YtldgkgdgcfllmaaW.PrintLast Go.Proofs.YtldgkgdgcfllmaaW.PrintMore
attribute [local go_sem] max2_int min2_int max_two min_two max_three min_three max_four min_four
set_option linter.unusedVariables false
set_option linter.unusedSimpArgs false
def spec_DrawMatchRegex.f (k : Nat) (l0 : List Int) : Option (Int × ByteArray × (List (S29)) × ByteArray) := (spec_l1New.f k l0).bind fun bt979 => ((spec_l1Below.f bt979.1 bt979.2.1 bt979.2.2 4).bind fun bt983 => ((spec_l3Draw.f k bt979.1 bt983.2.1 bt983.2.2 (wrap64 (1 + bt983.1))).bind fun bt986 => ((spec_l1Once.f bt979.1 bt986.2.2.2.1 bt986.2.2.2.2 12).bind fun bt994 => (if bt994.1 = true then ((spec_l3Bent.f k bt979.1 bt994.2.1 bt994.2.2).bind fun bt997 => ((spec_l2Any.f k bt979.1 bt997.2.2.2.1 bt997.2.2.2.2).bind fun bt1004 => (some (bt997.1, bt997.2.1, bt997.2.2.1, bt1004.1)))) else ((spec_l2Word.f k bt979.1 bt994.2.1 bt994.2.2 5).bind fun bt1007 => (some (bt986.1, bt986.2.1, bt986.2.2.1, bt1007.1)))))))
theorem spec_DrawMatchRegex.mono : ∀ a0 k, LeO (spec_DrawMatchRegex.f k a0) (spec_DrawMatchRegex.f (k + 1) a0) := by
 intro a0 k
 unfold spec_DrawMatchRegex.f
 repeat' first
   | (with_reducible exact spec_l1New.mono _ _)
   | (with_reducible exact spec_l2Any.mono _ _ _ _)
   | (with_reducible exact spec_l2Word.mono _ _ _ _ _)
   | (with_reducible exact spec_l3Bent.mono _ _ _ _)
   | (with_reducible exact spec_l3Draw.mono _ _ _ _ _)
   | (with_reducible exact LeO.refl _)
   | (with_reducible exact LeO.none _)
   | (with_reducible refine LeO.ite ?_ ?_)
   | (with_reducible refine LeO.bind ?_ (fun _ => ?_))
   | exact spec_l1New.mono _ _
   | exact spec_l2Any.mono _ _ _ _
   | exact spec_l2Word.mono _ _ _ _ _
   | exact spec_l3Bent.mono _ _ _ _
   | exact spec_l3Draw.mono _ _ _ _ _
   | exact LeO.none _
   | refine LeO.ite ?_ ?_
   | refine LeO.bind ?_ (fun _ => ?_)
theorem zp50_0_ {p q g1 : Prop} (h : p) (h1 : g1) (c : p → g1 → q := by intro h_ h1_; repeat (first | (with_reducible first | exact h_ | apply IsS93.alloc | apply IsS93.drewN | apply IsS93.drew | apply IsS93.set_1 | apply IsS93.set_2 | refine IsS93.far ?_ h1_ _) | exact h_)) : q := c h h1
theorem zp50_1_ {p q g1 g2 : Prop} (h : p) (h1 : g1) (h2 : g2) (c : p → g1 → g2 → q := by intro h_ h1_ h2_; repeat (first | (with_reducible first | exact h_ | apply below_alloc | apply pw_below_drewN | apply below_drew1 | refine below_set ?_ h1_ | refine below_set ?_ h2_) | exact h_)) : q := c h h1 h2
theorem zp50_2_ {p q g1 g2 : Prop} (h : p) (h1 : g1) (h2 : g2) (c : p → g1 → g2 → q := by intro h_ h1_ h2_; repeat (first | (with_reducible first | exact h_ | apply IsS93.alloc | apply IsS93.drewN | apply IsS93.drew | apply IsS93.set_1 | apply IsS93.set_2 | refine IsS93.far ?_ h1_ _ | refine IsS93.far ?_ h2_ _) | exact h_)) : q := c h h1 h2
theorem zp50_3_ {p q g1 g2 g3 : Prop} (h : p) (h1 : g1) (h2 : g2) (h3 : g3) (c : p → g1 → g2 → g3 → q := by intro h_ h1_ h2_ h3_; repeat (first | (with_reducible first | exact h_ | apply below_alloc | apply pw_below_drewN | apply below_drew1 | refine below_set ?_ h1_ | refine below_set ?_ h2_ | refine below_set ?_ h3_) | exact h_)) : q := c h h1 h2 h3
set_option maxHeartbeats 8000000 in
set_option maxRecDepth 100000 in
theorem spec_DrawMatchRegex.calls (k : Nat) (A0 : Option Addr) (c0 : Nat) (l0 : List Int) (r1 : Int) (r2 : ByteArray) (r3 : List (S29)) (r4 : ByteArray) (w : World) (hr0 : Kd.C (Kd.int .u8) w A0 l0.length l0) (hc0 : l0.length ≤ c0) (h : spec_DrawMatchRegex.f k l0 = some (r1, r2, r3, r4)) :
  Calls Try.prog 35 #[.slice A0 l0.length c0] w fun e w' => ∃ v2_ : Value, e = .returned (.tuple #[.agg #[.int .i64 r1, .string r2, v2_], .string r4]) ∧ Kd.N k29 29 w' w.heap.size (fun k_ => (w.heap.size ≤ k_)) v2_ r3 ∧ Below w.heap.size w w' := by
 have hu29 := Try.underlying29
 have HR0 := am_ hr0
 have HC0 := am_ hc0
 clear hr0 hc0
 have HB := am_ (Below.refl w.heap.size w)
 have H : ((spec_l1New.f k l0).bind fun bt979 => ((spec_l1Below.f bt979.1 bt979.2.1 bt979.2.2 4).bind fun bt983 => ((spec_l3Draw.f k bt979.1 bt983.2.1 bt983.2.2 (wrap64 (1 + bt983.1))).bind fun bt986 => ((spec_l1Once.f bt979.1 bt986.2.2.2.1 bt986.2.2.2.2 12).bind fun bt994 => (if bt994.1 = true then ((spec_l3Bent.f k bt979.1 bt994.2.1 bt994.2.2).bind fun bt997 => ((spec_l2Any.f k bt979.1 bt997.2.2.2.1 bt997.2.2.2.2).bind fun bt1004 => (some (bt997.1, bt997.2.1, bt997.2.2.1, bt1004.1)))) else ((spec_l2Word.f k bt979.1 bt994.2.1 bt994.2.2 5).bind fun bt1007 => (some (bt986.1, bt986.2.1, bt986.2.2.1, bt1007.1)))))))) = some (r1, r2, r3, r4) := h
 clear h
 replace H := Option.bind_eq_some_iff.mp H
 obtain ⟨⟨ao, aG, aH⟩, A20, H⟩ := H
 have A2 := am_ A20
 clear A20
 replace H := Option.bind_eq_some_iff.mp H
 obtain ⟨⟨az, aI, aJ⟩, A30, H⟩ := H
 have A3 := am_ A30
 clear A30
 replace H := Option.bind_eq_some_iff.mp H
 obtain ⟨⟨am, ap, aq, au, av⟩, A40, H⟩ := H
 have A4 := am_ A40
 clear A40
 replace H := Option.bind_eq_some_iff.mp H
 obtain ⟨⟨aZ, aA, aB⟩, A50, H⟩ := H
 have A5 := am_ A50
 clear A50
 by_cases c6 : aZ = true
 ·subst c6
  have H1 : ((spec_l3Bent.f k ao aA aB).bind fun bt997 => ((spec_l2Any.f k ao bt997.2.2.2.1 bt997.2.2.2.2).bind fun bt1004 => (some (bt997.1, bt997.2.1, bt997.2.2.1, bt1004.1)))) = some (r1, r2, r3, r4) := by rw [if_pos rfl] at H; exact H
  clear H
  have H := H1
  clear H1
  replace H := Option.bind_eq_some_iff.mp H
  obtain ⟨⟨aC, aF, aK, aL, aM⟩, A70, H⟩ := H
  have A7 := am_ A70
  clear A70
  replace H := Option.bind_eq_some_iff.mp H
  obtain ⟨⟨aN, aS, aT⟩, A80, H⟩ := H
  replace H : (some (aC, aF, aK, aN)) = some (r1, r2, r3, r4) := H
  have A8 := am_ A80
  clear A80
  simp only [Option.some.injEq, Prod.mk.injEq] at H
  obtain ⟨rfl, rfl, rfl, rfl⟩ := H
  go_enter Try.func35, Try.ntmps35
  go_wp2_with (first | ((with_reducible refine gate_dst (N := 2) rfl ?_); refine box_event ?hg (N := 2) ?hd (cs := #[.int .i64 0, .string (⟨#[]⟩ : ByteArray), .slice none 0 0]) (t := 29) ?hr ?_; (case hd => rfl); (case hg => rfl); (case hr => first | (go_simp; done) | (go_simp; rfl)); intro ab hg w9 hbox hb; replace aa := am_ (hbox); replace aU := am_ ((by rw [hg]; exact (below_size (b0_ HB.out)) : w.heap.size ≤ ab)); replace ai := am_ ((by rw [hg]; exact (below_size (b0_ HB.out)) : w.heap.size ≤ ab)); replace HB := am_ (below_step (b0_ HB.out) hb); clear hb hbox hg) | ((with_reducible refine gate_callee (f := 58) rfl ?_); refine gL_ (some 7) Try.func58 #[.slice A0 l0.length c0] ?_; (with_reducible refine (spec_l1New.calls k _ _ l0 ao aG aH w _ ?side1 ?side2 ?side3 A2.out).mono ?_); (case side1 => repeat (first | (with_reducible first | exact HB.out | apply below_alloc | apply pw_below_drewN | apply below_drew1 | refine below_set ?_ ai.out) | exact HB.out)); (case side2 => exact HR0.out); (case side3 => exact HC0.out); rintro e w10 ⟨g982, rfl, hi, hb, hb2⟩; refine ⟨_, rfl, ?_⟩; have n0_ := am_ (blk_below (rb_ aa.out) hb2); have n1_ := am_ (hb); have n2_ := am_ (hi); have n3_ := am_ (IsS93.ne_blk hi (blk_below (rb_ aa.out) hb2) (by decide)); have n4_ := am_ (Ne.symm (IsS93.ne_blk hi (blk_below (rb_ aa.out) hb2) (by decide))); clear aa; clear HB; have aa := n0_; have HB := n1_; have HI982 := n2_; have af := n3_; have ak := n4_; clear n0_ n1_ n2_ n3_ n4_; (try clear hb); (try clear hb2); (try clear hk); (try clear hi)) | ((with_reducible refine gate_callee (f := 62) rfl ?_); refine gL_ (some 10) Try.func62 #[.pointer (some ⟨g982, 0, none⟩), .int .i64 4] ?_; (with_reducible refine (spec_l1Below.calls g982 ao aG aH 4 az aI aJ w _ ?side1 ?side2 A3.out).mono ?_); (case side1 => exact zp50_0_ HI982.out af.out); (case side2 => exact zp50_1_ HB.out (IsS93.ge HI982.out) ai.out); rintro e w11 ⟨rfl, hi, hb, hk⟩; refine ⟨_, rfl, ?_⟩; have n0_ := am_ (KeepBut.blk hk (g' := ab) (o := .cells #[.int .i64 0, .string (⟨#[]⟩ : ByteArray), .slice none 0 0] 29 (0, 0)) (rb_ aa.out) ak.out (by simp)); have n1_ := am_ (hb); have n2_ := am_ (hi); clear aa; clear HB; clear HI982; have aa := n0_; have HB := n1_; have HI982 := n2_; clear n0_ n1_ n2_; (try clear hb); (try clear hb2); (try clear hk); (try clear hi)) | ((with_reducible refine gate_callee (f := 61) rfl ?_); refine gL_ (some 12) Try.func61 #[.pointer (some ⟨g982, 0, none⟩), .int .i64 (wrap64 (1 + az))] ?_; (with_reducible refine (spec_l3Draw.calls k g982 ao aI aJ (wrap64 (1 + az)) am ap aq au av w _ ?side1 ?side2 A4.out).mono ?_); (case side1 => exact zp50_0_ HI982.out af.out); (case side2 => exact zp50_1_ HB.out (IsS93.ge HI982.out) ai.out); rintro e w12 ⟨ba, rfl, ho0, hi, hb, hk⟩; refine ⟨_, rfl, ?_⟩; have n0_ := am_ (KeepBut.blk hk (g' := ab) (o := .cells #[.int .i64 0, .string (⟨#[]⟩ : ByteArray), .slice none 0 0] 29 (0, 0)) (rb_ aa.out) ak.out (by simp)); have n1_ := am_ (Kd.N_lower (Kd.N_mono (ok' := fun k_ => (w.heap.size ≤ k_) ∧ k_ ≠ ab ∧ k_ ≠ g982) ho0 (fun k_ hk_ => ⟨(Nat.le_trans (below_size (b2_ HB.out (IsS93.ge HI982.out) ai.out)) hk_), (Kd.freshB (g := ab) (o := .cells #[.int .i64 0, .string (⟨#[]⟩ : ByteArray), .slice none 0 0] 29 (0, 0)) (rb_ aa.out) k_ hk_), (IsS93.fresh (zp50_0_ HI982.out af.out) k_ hk_)⟩)) (below_size (b2_ HB.out (IsS93.ge HI982.out) ai.out))); have n2_ := am_ (hb); have n3_ := am_ (hi); clear aa; clear HB; clear HI982; have aa := n0_; have ag := n1_; have HB := n2_; have HI982 := n3_; clear n0_ n1_ n2_ n3_; (try clear hb); (try clear hb2); (try clear hk); (try clear hi); (try clear ho0)) | ((with_reducible refine gate_dst (N := 5) rfl ?_); refine box_event ?hg (N := 5) ?hd (cs := #[.int .i64 0, .string (⟨#[]⟩ : ByteArray), .slice none 0 0]) (t := 29) ?hr ?_; (case hd => rfl); (case hg => rfl); (case hr => first | (go_simp; done) | (go_simp; rfl)); intro ad hg w13 hbox hb; have n0_ := am_ (Kd.N_below (Kd.N_elderB (rn_ ag.out) ad (Nat.le_of_eq hg.symm)) hb); have n1_ := am_ (blk_below (rb_ aa.out) hb); have n2_ := am_ (IsS93.below (zp50_0_ HI982.out af.out) hb); have n3_ := am_ (below_step (b2_ HB.out (IsS93.ge HI982.out) ai.out) hb); have n4_ := am_ (hbox); have n5_ := am_ ((by rw [hg]; exact (below_size (b2_ HB.out (IsS93.ge HI982.out) ai.out)) : w.heap.size ≤ ad)); have n6_ := am_ ((by rw [hg]; exact (below_size (b2_ HB.out (IsS93.ge HI982.out) ai.out)) : w.heap.size ≤ ad)); have n7_ := am_ ((by rw [hg]; exact Nat.ne_of_lt (blk_lt (rb_ aa.out)) : ab ≠ ad)); have n8_ := am_ ((by rw [hg]; exact Nat.ne_of_gt (blk_lt (rb_ aa.out)) : ad ≠ ab)); have n9_ := am_ ((by rw [hg]; exact Nat.ne_of_lt (IsS93.lt (show IsS93 w _ g982 ao au av from by exact zp50_0_ HI982.out af.out)) : g982 ≠ ad)); have n10_ := am_ ((by rw [hg]; exact Nat.ne_of_gt (IsS93.lt (show IsS93 w _ g982 ao au av from by exact zp50_0_ HI982.out af.out)) : ad ≠ g982)); clear ag; clear aa; clear HI982; clear HB; have ag := n0_; have aa := n1_; have HI982 := n2_; have HB := n3_; have ae := n4_; have aV := n5_; have ar := n6_; have aj := n7_; have ah := n8_; have al := n9_; have an := n10_; clear n0_ n1_ n2_ n3_ n4_ n5_ n6_ n7_ n8_ n9_ n10_; clear hb hbox hg; have bw := ah.out; have bx := aj.out; have bz := an.out; have bA := al.out; have be := ck_ (v := (.int .i64 0)) ae 0 rfl; have bf := ck_ (v := (.string (⟨#[]⟩ : ByteArray))) ae 1 rfl; have bg := ck_ (v := (.slice none 0 0)) ae 2 rfl; have bh := blk_frozen ae.out 0; have bi := blk_frozen ae.out 1; have bj := blk_frozen ae.out 2; obtain ⟨ax, ay, bb⟩ := Kd.N_slice ag.out; subst bb) | ((with_reducible refine gate_callee (f := 63) rfl ?_); refine gL_ (some 14) Try.func63 #[.pointer (some ⟨g982, 0, none⟩), .int .i64 12] ?_; (with_reducible refine (spec_l1Once.calls g982 ao au av 12 true aA aB w _ ?side1 ?side2 A5.out).mono ?_); (case side1 => exact zp50_2_ HI982.out af.out al.out); (case side2 => exact zp50_3_ HB.out (IsS93.ge HI982.out) ai.out ar.out); rintro e w18 ⟨rfl, hi, hb, hk⟩; refine ⟨_, rfl, ?_⟩; have n0_ := am_ (KeepBut.blk hk (g' := ab) (o := .cells #[.int .i64 0, .string (⟨#[]⟩ : ByteArray), .slice none 0 0] 29 (0, 0)) (by refine rb_ ?_; refine blk_far ?_ aj.out _; refine rb_ ?_; refine blk_far ?_ aj.out _; refine rb_ ?_; refine blk_far ?_ aj.out _; refine rb_ ?_; exact aa.out) ak.out (by simp)); have n1_ := am_ (Kd.N_mono (Kd.N_keep (Kd.N_mono (ok := fun k_ => ((((w.heap.size ≤ k_)) ∧ (k_ ≠ ab ∧ k_ ≠ g982)) ∧ k_ ≠ ad)) (rn_ (Kd.N_mono (Kd.N_far (p := ⟨ad, 2, none⟩) (Kd.N_far (p := ⟨ad, 1, none⟩) (Kd.N_far (p := ⟨ad, 0, none⟩) (Kd.N_mono ag.out (fun k_ hk => (⟨hk, hk.2⟩ : _ ∧ k_ ≠ ad))) (fun _ hk => hk.2) (.int .i64 am)) (fun _ hk => hk.2) (.string ap)) (fun _ hk => hk.2) (.slice ax aq.length ay)) (fun _ h_ => h_.1))) (fun k_ hk_ => (⟨hk_, hk_.1.2.2⟩ : _ ∧ k_ ≠ g982))) hk (fun _ h => h.2)) (fun _ h => h.1)); have n2_ := am_ (KeepBut.blk hk (g' := ad) (o := .cells #[.int .i64 am, .string ap, .slice ax aq.length ay] 29 (0, 0)) (by refine rb_ ?_; refine blk_put (cs := #[.int .i64 am, .string ap, .slice none 0 0]) ?_ 2 _ rfl; refine rb_ ?_; refine blk_put (cs := #[.int .i64 am, .string (⟨#[]⟩ : ByteArray), .slice none 0 0]) ?_ 1 _ rfl; refine rb_ ?_; refine blk_put (cs := #[.int .i64 0, .string (⟨#[]⟩ : ByteArray), .slice none 0 0]) ?_ 0 _ rfl; refine rb_ ?_; exact ae.out) an.out (by simp)); have n3_ := am_ (hb); have n4_ := am_ (hi); clear aa; clear ag; clear ae; clear HB; clear HI982; have aa := n0_; have ag := n1_; have ae := n2_; have HB := n3_; have HI982 := n4_; clear n0_ n1_ n2_ n3_ n4_; (try clear hb); (try clear hb2); (try clear hk); (try clear hi)) | ((with_reducible refine gate_callee (f := 57) rfl ?_); refine gL_ (some 16) Try.func57 #[.pointer (some ⟨g982, 0, none⟩)] ?_; (with_reducible refine (spec_l3Bent.calls k g982 ao aA aB aC aF aK aL aM w _ ?side1 ?side2 A7.out).mono ?_); (case side1 => exact zp50_2_ HI982.out af.out al.out); (case side2 => exact zp50_3_ HB.out (IsS93.ge HI982.out) ai.out ar.out); rintro e w19 ⟨aW, rfl, ho0, hi, hb, hk⟩; refine ⟨_, rfl, ?_⟩; have n0_ := am_ (KeepBut.blk hk (g' := ab) (o := .cells #[.int .i64 0, .string (⟨#[]⟩ : ByteArray), .slice none 0 0] 29 (0, 0)) (rb_ aa.out) ak.out (by simp)); have n1_ := am_ (Kd.N_mono (Kd.N_told (Kd.N_oldK (Kd.N_mono (ok := fun k_ => ((((w.heap.size ≤ k_)) ∧ (k_ ≠ ab ∧ k_ ≠ g982)) ∧ k_ ≠ ad)) (rn_ ag.out) (fun k_ hk_ => (⟨hk_, hk_.1.2.2⟩ : _ ∧ k_ ≠ g982))) hk) (Kd.N_base ho0)) (fun _ h_ => h_.1)); have n2_ := am_ (KeepBut.blk hk (g' := ad) (o := .cells #[.int .i64 am, .string ap, .slice ax aq.length ay] 29 (0, 0)) (rb_ ae.out) an.out (by simp)); have n3_ := am_ (Kd.N_lower (Kd.N_mono (ok' := fun k_ => (w.heap.size ≤ k_) ∧ some k_ ≠ (.slice ax aq.length ay : Value).ownBlock ∧ k_ ≠ ab ∧ k_ ≠ ad ∧ k_ ≠ g982) ho0 (fun k_ hk_ => ⟨(Nat.le_trans (below_size (b3_ HB.out (IsS93.ge HI982.out) ai.out ar.out)) hk_), (Kd.fresh' (Kd.N_lt (rn_ ag.out)) k_ hk_), (Kd.freshB (g := ab) (o := .cells #[.int .i64 0, .string (⟨#[]⟩ : ByteArray), .slice none 0 0] 29 (0, 0)) (rb_ aa.out) k_ hk_), (Kd.freshB (g := ad) (o := .cells #[.int .i64 am, .string ap, .slice ax aq.length ay] 29 (0, 0)) (rb_ ae.out) k_ hk_), (IsS93.fresh (zp50_2_ HI982.out af.out al.out) k_ hk_)⟩)) (below_size (b3_ HB.out (IsS93.ge HI982.out) ai.out ar.out))); have n4_ := am_ (hb); have n5_ := am_ (hi); clear aa; clear ag; clear ae; clear HB; clear HI982; have aa := n0_; have ag := n1_; have ae := n2_; have aw := n3_; have HB := n4_; have HI982 := n5_; clear n0_ n1_ n2_ n3_ n4_ n5_; (try clear hb); (try clear hb2); (try clear hk); (try clear hi); (try clear ho0)) | ((with_reducible refine gate_callee (f := 64) rfl ?_); refine gL_ (some 18) Try.func64 #[.pointer (some ⟨g982, 0, none⟩)] ?_; (with_reducible refine (spec_l2Any.calls k g982 ao aL aM aN aS aT w _ ?side1 ?side2 A8.out).mono ?_); (case side1 => exact zp50_2_ HI982.out af.out al.out); (case side2 => exact zp50_3_ HB.out (IsS93.ge HI982.out) ai.out ar.out); rintro e w20 ⟨rfl, hi, hb, hk⟩; refine ⟨_, rfl, ?_⟩; have n0_ := am_ (KeepBut.blk hk (g' := ab) (o := .cells #[.int .i64 0, .string (⟨#[]⟩ : ByteArray), .slice none 0 0] 29 (0, 0)) (rb_ aa.out) ak.out (by simp)); have n1_ := am_ (Kd.N_mono (Kd.N_keep (Kd.N_mono (ok := fun k_ => (((((w.heap.size ≤ k_)) ∧ (k_ ≠ ab ∧ k_ ≠ g982)) ∧ k_ ≠ ad) ∧ some k_ ≠ (aW : Value).ownBlock)) (rn_ ag.out) (fun k_ hk_ => (⟨hk_, hk_.1.1.2.2⟩ : _ ∧ k_ ≠ g982))) hk (fun _ h => h.2)) (fun _ h => h.1)); have n2_ := am_ (KeepBut.blk hk (g' := ad) (o := .cells #[.int .i64 am, .string ap, .slice ax aq.length ay] 29 (0, 0)) (rb_ ae.out) an.out (by simp)); have n3_ := am_ (Kd.N_mono (Kd.N_keep (Kd.N_mono (ok := fun k_ => (((w.heap.size ≤ k_)) ∧ (some k_ ≠ (.slice ax aq.length ay : Value).ownBlock ∧ (k_ ≠ ab ∧ (k_ ≠ ad ∧ k_ ≠ g982))))) (rn_ aw.out) (fun k_ hk_ => (⟨hk_, hk_.2.2.2.2⟩ : _ ∧ k_ ≠ g982))) hk (fun _ h => h.2)) (fun _ h => h.1)); have n4_ := am_ (hb); have n5_ := am_ (hi); clear aa; clear ag; clear ae; clear aw; clear HB; clear HI982; have aa := n0_; have ag := n1_; have ae := n2_; have aw := n3_; have HB := n4_; have HI982 := n5_; clear n0_ n1_ n2_ n3_ n4_ n5_; (try clear hb); (try clear hb2); (try clear hk); (try clear hi); have bB := ak.out; have bC := af.out; have bk := ck_ (v := (.int .i64 0)) aa 0 rfl; have bl := ck_ (v := (.string (⟨#[]⟩ : ByteArray))) aa 1 rfl; have bm := ck_ (v := (.slice none 0 0)) aa 2 rfl; have bn := blk_frozen aa.out 0; have bo := blk_frozen aa.out 1; have bp := blk_frozen aa.out 2; obtain ⟨aP, aQ, bc⟩ := Kd.N_slice aw.out; subst bc))
  refine bodyPost_ret (results_ct rfl _ _ ab 29 #[.int .i64 aC, .string aF, .slice aP aK.length aQ] (0, 0) _ rfl (by refine rb_ ?_; refine blk_put (cs := #[.int .i64 aC, .string aF, .slice none 0 0]) ?_ 2 _ rfl; refine rb_ ?_; refine blk_put (cs := #[.int .i64 aC, .string (⟨#[]⟩ : ByteArray), .slice none 0 0]) ?_ 1 _ rfl; refine rb_ ?_; refine blk_put (cs := #[.int .i64 0, .string (⟨#[]⟩ : ByteArray), .slice none 0 0]) ?_ 0 _ rfl; refine rb_ ?_; exact aa.out) Try.underlying29 rfl (by kernel_rfl)) rfl ?_
  exact ⟨_, by first | rfl | (simp [errW_none, errW_some] <;> rfl) | (simp [*, errW_none, errW_some] <;> rfl), by refine rn_ ?_; exact Kd.N_mono (Kd.N_far (p := ⟨ab, 2, none⟩) (Kd.N_far (p := ⟨ab, 1, none⟩) (Kd.N_far (p := ⟨ab, 0, none⟩) (Kd.N_mono aw.out (fun k_ hk => (⟨hk, hk.2.2.1⟩ : _ ∧ k_ ≠ ab))) (fun _ hk => hk.2) (.int .i64 aC)) (fun _ hk => hk.2) (.string aF)) (fun _ hk => hk.2) (.slice aP aK.length aQ)) (fun _ hk => hk.1.1), by exact zp50_3_ HB.out (IsS93.ge HI982.out) ai.out ar.out⟩
 ·replace c6 := Bool.eq_false_iff.mpr c6
  subst c6
  have H1 : ((spec_l2Word.f k ao aA aB 5).bind fun bt1007 => (some (am, ap, aq, bt1007.1))) = some (r1, r2, r3, r4) := by rw [if_neg (show ¬ (false = true) by decide)] at H; exact H
  clear H
  have H := H1
  clear H1
  replace H := Option.bind_eq_some_iff.mp H
  obtain ⟨⟨aO, aX, aY⟩, aR, H⟩ := H
  replace H : (some (am, ap, aq, aO)) = some (r1, r2, r3, r4) := H
  have A24 := am_ aR
  clear aR
  simp only [Option.some.injEq, Prod.mk.injEq] at H
  obtain ⟨rfl, rfl, rfl, rfl⟩ := H
  go_enter Try.func35, Try.ntmps35
  try go_wp2_with (first | ((with_reducible refine gate_dst (N := 2) rfl ?_); refine box_event ?hg (N := 2) ?hd (cs := #[.int .i64 0, .string (⟨#[]⟩ : ByteArray), .slice none 0 0]) (t := 29) ?hr ?_; (case hd => rfl); (case hg => rfl); (case hr => first | (go_simp; done) | (go_simp; rfl)); intro ab hg w25 hbox hb; replace aa := am_ (hbox); replace aU := am_ ((by rw [hg]; exact (below_size (b0_ HB.out)) : w.heap.size ≤ ab)); replace ai := am_ ((by rw [hg]; exact (below_size (b0_ HB.out)) : w.heap.size ≤ ab)); replace HB := am_ (below_step (b0_ HB.out) hb); clear hb hbox hg) | ((with_reducible refine gate_callee (f := 58) rfl ?_); refine gL_ (some 7) Try.func58 #[.slice A0 l0.length c0] ?_; (with_reducible refine (spec_l1New.calls k _ _ l0 ao aG aH w _ ?side1 ?side2 ?side3 A2.out).mono ?_); (case side1 => repeat (first | (with_reducible first | exact HB.out | apply below_alloc | apply pw_below_drewN | apply below_drew1 | refine below_set ?_ ai.out) | exact HB.out)); (case side2 => exact HR0.out); (case side3 => exact HC0.out); rintro e w26 ⟨g982, rfl, hi, hb, hb2⟩; refine ⟨_, rfl, ?_⟩; have n0_ := am_ (blk_below (rb_ aa.out) hb2); have n1_ := am_ (hb); have n2_ := am_ (hi); have n3_ := am_ (IsS93.ne_blk hi (blk_below (rb_ aa.out) hb2) (by decide)); have n4_ := am_ (Ne.symm (IsS93.ne_blk hi (blk_below (rb_ aa.out) hb2) (by decide))); clear aa; clear HB; have aa := n0_; have HB := n1_; have HI982 := n2_; have af := n3_; have ak := n4_; clear n0_ n1_ n2_ n3_ n4_; (try clear hb); (try clear hb2); (try clear hk); (try clear hi)) | ((with_reducible refine gate_callee (f := 62) rfl ?_); refine gL_ (some 10) Try.func62 #[.pointer (some ⟨g982, 0, none⟩), .int .i64 4] ?_; (with_reducible refine (spec_l1Below.calls g982 ao aG aH 4 az aI aJ w _ ?side1 ?side2 A3.out).mono ?_); (case side1 => exact zp50_0_ HI982.out af.out); (case side2 => exact zp50_1_ HB.out (IsS93.ge HI982.out) ai.out); rintro e w27 ⟨rfl, hi, hb, hk⟩; refine ⟨_, rfl, ?_⟩; have n0_ := am_ (KeepBut.blk hk (g' := ab) (o := .cells #[.int .i64 0, .string (⟨#[]⟩ : ByteArray), .slice none 0 0] 29 (0, 0)) (rb_ aa.out) ak.out (by simp)); have n1_ := am_ (hb); have n2_ := am_ (hi); clear aa; clear HB; clear HI982; have aa := n0_; have HB := n1_; have HI982 := n2_; clear n0_ n1_ n2_; (try clear hb); (try clear hb2); (try clear hk); (try clear hi)) | ((with_reducible refine gate_callee (f := 61) rfl ?_); refine gL_ (some 12) Try.func61 #[.pointer (some ⟨g982, 0, none⟩), .int .i64 (wrap64 (1 + az))] ?_; (with_reducible refine (spec_l3Draw.calls k g982 ao aI aJ (wrap64 (1 + az)) am ap aq au av w _ ?side1 ?side2 A4.out).mono ?_); (case side1 => exact zp50_0_ HI982.out af.out); (case side2 => exact zp50_1_ HB.out (IsS93.ge HI982.out) ai.out); rintro e w28 ⟨ba, rfl, ho0, hi, hb, hk⟩; refine ⟨_, rfl, ?_⟩; have n0_ := am_ (KeepBut.blk hk (g' := ab) (o := .cells #[.int .i64 0, .string (⟨#[]⟩ : ByteArray), .slice none 0 0] 29 (0, 0)) (rb_ aa.out) ak.out (by simp)); have n1_ := am_ (Kd.N_lower (Kd.N_mono (ok' := fun k_ => (w.heap.size ≤ k_) ∧ k_ ≠ ab ∧ k_ ≠ g982) ho0 (fun k_ hk_ => ⟨(Nat.le_trans (below_size (b2_ HB.out (IsS93.ge HI982.out) ai.out)) hk_), (Kd.freshB (g := ab) (o := .cells #[.int .i64 0, .string (⟨#[]⟩ : ByteArray), .slice none 0 0] 29 (0, 0)) (rb_ aa.out) k_ hk_), (IsS93.fresh (zp50_0_ HI982.out af.out) k_ hk_)⟩)) (below_size (b2_ HB.out (IsS93.ge HI982.out) ai.out))); have n2_ := am_ (hb); have n3_ := am_ (hi); clear aa; clear HB; clear HI982; have aa := n0_; have ag := n1_; have HB := n2_; have HI982 := n3_; clear n0_ n1_ n2_ n3_; (try clear hb); (try clear hb2); (try clear hk); (try clear hi); (try clear ho0)) | ((with_reducible refine gate_dst (N := 5) rfl ?_); refine box_event ?hg (N := 5) ?hd (cs := #[.int .i64 0, .string (⟨#[]⟩ : ByteArray), .slice none 0 0]) (t := 29) ?hr ?_; (case hd => rfl); (case hg => rfl); (case hr => first | (go_simp; done) | (go_simp; rfl)); intro ad hg w29 hbox hb; have n0_ := am_ (Kd.N_below (Kd.N_elderB (rn_ ag.out) ad (Nat.le_of_eq hg.symm)) hb); have n1_ := am_ (blk_below (rb_ aa.out) hb); have n2_ := am_ (IsS93.below (zp50_0_ HI982.out af.out) hb); have n3_ := am_ (below_step (b2_ HB.out (IsS93.ge HI982.out) ai.out) hb); have n4_ := am_ (hbox); have n5_ := am_ ((by rw [hg]; exact (below_size (b2_ HB.out (IsS93.ge HI982.out) ai.out)) : w.heap.size ≤ ad)); have n6_ := am_ ((by rw [hg]; exact (below_size (b2_ HB.out (IsS93.ge HI982.out) ai.out)) : w.heap.size ≤ ad)); have n7_ := am_ ((by rw [hg]; exact Nat.ne_of_lt (blk_lt (rb_ aa.out)) : ab ≠ ad)); have n8_ := am_ ((by rw [hg]; exact Nat.ne_of_gt (blk_lt (rb_ aa.out)) : ad ≠ ab)); have n9_ := am_ ((by rw [hg]; exact Nat.ne_of_lt (IsS93.lt (show IsS93 w _ g982 ao au av from by exact zp50_0_ HI982.out af.out)) : g982 ≠ ad)); have n10_ := am_ ((by rw [hg]; exact Nat.ne_of_gt (IsS93.lt (show IsS93 w _ g982 ao au av from by exact zp50_0_ HI982.out af.out)) : ad ≠ g982)); clear ag; clear aa; clear HI982; clear HB; have ag := n0_; have aa := n1_; have HI982 := n2_; have HB := n3_; have ae := n4_; have aV := n5_; have ar := n6_; have aj := n7_; have ah := n8_; have al := n9_; have an := n10_; clear n0_ n1_ n2_ n3_ n4_ n5_ n6_ n7_ n8_ n9_ n10_; clear hb hbox hg; have bD := ah.out; have bE := aj.out; have bF := an.out; have bG := al.out; have bq := ck_ (v := (.int .i64 0)) ae 0 rfl; have br := ck_ (v := (.string (⟨#[]⟩ : ByteArray))) ae 1 rfl; have bs := ck_ (v := (.slice none 0 0)) ae 2 rfl; have bt := blk_frozen ae.out 0; have bu := blk_frozen ae.out 1; have bv := blk_frozen ae.out 2; obtain ⟨aD, aE, bd⟩ := Kd.N_slice ag.out; subst bd) | ((with_reducible refine gate_callee (f := 63) rfl ?_); refine gL_ (some 14) Try.func63 #[.pointer (some ⟨g982, 0, none⟩), .int .i64 12] ?_; (with_reducible refine (spec_l1Once.calls g982 ao au av 12 false aA aB w _ ?side1 ?side2 A5.out).mono ?_); (case side1 => exact zp50_2_ HI982.out af.out al.out); (case side2 => exact zp50_3_ HB.out (IsS93.ge HI982.out) ai.out ar.out); rintro e w34 ⟨rfl, hi, hb, hk⟩; refine ⟨_, rfl, ?_⟩; have n0_ := am_ (KeepBut.blk hk (g' := ab) (o := .cells #[.int .i64 0, .string (⟨#[]⟩ : ByteArray), .slice none 0 0] 29 (0, 0)) (by refine rb_ ?_; refine blk_far ?_ aj.out _; refine rb_ ?_; refine blk_far ?_ aj.out _; refine rb_ ?_; refine blk_far ?_ aj.out _; refine rb_ ?_; exact aa.out) ak.out (by simp)); have n1_ := am_ (Kd.N_mono (Kd.N_keep (Kd.N_mono (ok := fun k_ => ((((w.heap.size ≤ k_)) ∧ (k_ ≠ ab ∧ k_ ≠ g982)) ∧ k_ ≠ ad)) (rn_ (Kd.N_mono (Kd.N_far (p := ⟨ad, 2, none⟩) (Kd.N_far (p := ⟨ad, 1, none⟩) (Kd.N_far (p := ⟨ad, 0, none⟩) (Kd.N_mono ag.out (fun k_ hk => (⟨hk, hk.2⟩ : _ ∧ k_ ≠ ad))) (fun _ hk => hk.2) (.int .i64 am)) (fun _ hk => hk.2) (.string ap)) (fun _ hk => hk.2) (.slice aD aq.length aE)) (fun _ h_ => h_.1))) (fun k_ hk_ => (⟨hk_, hk_.1.2.2⟩ : _ ∧ k_ ≠ g982))) hk (fun _ h => h.2)) (fun _ h => h.1)); have n2_ := am_ (KeepBut.blk hk (g' := ad) (o := .cells #[.int .i64 am, .string ap, .slice aD aq.length aE] 29 (0, 0)) (by refine rb_ ?_; refine blk_put (cs := #[.int .i64 am, .string ap, .slice none 0 0]) ?_ 2 _ rfl; refine rb_ ?_; refine blk_put (cs := #[.int .i64 am, .string (⟨#[]⟩ : ByteArray), .slice none 0 0]) ?_ 1 _ rfl; refine rb_ ?_; refine blk_put (cs := #[.int .i64 0, .string (⟨#[]⟩ : ByteArray), .slice none 0 0]) ?_ 0 _ rfl; refine rb_ ?_; exact ae.out) an.out (by simp)); have n3_ := am_ (hb); have n4_ := am_ (hi); clear aa; clear ag; clear ae; clear HB; clear HI982; have aa := n0_; have ag := n1_; have ae := n2_; have HB := n3_; have HI982 := n4_; clear n0_ n1_ n2_ n3_ n4_; (try clear hb); (try clear hb2); (try clear hk); (try clear hi)))
  replace ag := am_ (Kd.N_drew ag.out)
  replace aa := am_ (blk_drew aa.out)
  replace ae := am_ (blk_drew ae.out)
  replace HI982 := am_ (IsS93.drew HI982.out)
  replace HB := am_ (below_drew1 HB.out)
  refine start_ (n := 5) (S := fun w' => w'.cell? ⟨ad, 0, none⟩ = some (.int .i64 am) ∧ w'.cell? ⟨ad, 1, none⟩ = some (.string ap) ∧ w'.cell? ⟨ad, 2, none⟩ = some (.slice aD aq.length aE)) (ds := []) #[false, false, false, false, false] (by kernel_rfl) rfl rfl ⟨(blk_cell ae.out 0).trans rfl, (blk_cell ae.out 1).trans rfl, (blk_cell ae.out 2).trans rfl⟩ (fun hHeld => ?_)
  generalize w34.drew = w35 at ag aa ae HI982 HB hHeld ⊢
  refine pure_ (i := 1) (N := some 20) (v := ?_) (a' := ?_) #[false, true, false, false, false] rfl rfl (by kernel_rfl) (fun _ _ _ h => h) (Or.inl ⟨by rfl, ?_⟩) ?_ ?_
  rotate_left; (focus (intro w'; go_simp; with_reducible rfl)); rotate_left; (focus (simp only [pn_, sz_, ss_, i64_w, i32_w]; rfl))
  refine take_ (i := 0) (N := some 19) (v := ?_) (a' := ?_) #[true, true, false, false, false] rfl rfl (by kernel_rfl) (fun _ _ _ h => h) (Or.inl ⟨by rfl, ?_⟩) hHeld ?_ ?_
  rotate_left; (focus (rintro w' ⟨s0, s1, s2⟩; go_simp; with_reducible rfl)); rotate_left; (focus (simp only [pn_, sz_, ss_, i64_w, i32_w]; rfl))
  refine one_ (i := 2) (N := some 21) #[true, true, true, false, false] rfl rfl (by kernel_rfl) (by decide) (fun K hK => ?_)
  refine gO_ Try.func65 #[.pointer (some ⟨g982, 0, none⟩), .int .i64 5] ?_
  with_reducible refine (spec_l2Word.calls k g982 ao aA aB 5 aO aX aY w _ ?side1 ?side2 A24.out).mono ?_
  (case side1 => exact zp50_2_ HI982.out af.out al.out)
  (case side2 => exact zp50_3_ HB.out (IsS93.ge HI982.out) ai.out ar.out)
  rintro e w36 ⟨rfl, hi, hb, hk⟩
  refine ⟨_, rfl, ?_⟩
  replace aa := am_ (KeepBut.blk hk (g' := ab) (o := .cells #[.int .i64 0, .string (⟨#[]⟩ : ByteArray), .slice none 0 0] 29 (0, 0)) (rb_ aa.out) ak.out (by simp))
  replace ag := am_ (Kd.N_mono (Kd.N_keep (Kd.N_mono (ok := fun k_ => ((((w.heap.size ≤ k_)) ∧ (k_ ≠ ab ∧ k_ ≠ g982)) ∧ k_ ≠ ad)) (rn_ ag.out) (fun k_ hk_ => (⟨hk_, hk_.1.2.2⟩ : _ ∧ k_ ≠ g982))) hk (fun _ h => h.2)) (fun _ h => h.1))
  replace ae := am_ (KeepBut.blk hk (g' := ad) (o := .cells #[.int .i64 am, .string ap, .slice aD aq.length aE] 29 (0, 0)) (rb_ ae.out) an.out (by simp))
  replace HB := am_ (hb)
  replace HI982 := am_ (hi)
  (try clear hb)
  (try clear hb2)
  (try clear hk)
  (try clear hi)
  refine hK.out _ _ ⟨(blk_cell ae.out 0).trans rfl, (blk_cell ae.out 1).trans rfl, (blk_cell ae.out 2).trans rfl⟩ (fun hHeld => ?_)
  clear hK K
  refine norm_ (a' := ?_) ?_ ?_
  rotate_left
  ·show Act.put _ (some 21) _ = _
   simp only [pn_, sz_, ss_, i64_w, i32_w]
   rfl
  refine one_ (i := 3) (N := none) #[true, true, true, true, false] rfl rfl (by kernel_rfl) (by decide) (fun K hK => ?_)
  have hs37 : w36.cell? ⟨ab, 0, none⟩ = some (.int .i64 0) := (blk_cell aa.out 0).trans rfl
  have hfs37 := blk_frozen aa.out 0
  have hns37_1 := ah.out
  have hms37_1 := aj.out
  have hs38 : w36.cell? ⟨ab, 1, none⟩ = some (.string (⟨#[]⟩ : ByteArray)) := (blk_cell aa.out 1).trans rfl
  have hfs38 := blk_frozen aa.out 1
  have hns38_1 := ah.out
  have hms38_1 := aj.out
  have hs39 : w36.cell? ⟨ab, 2, none⟩ = some (.slice none 0 0) := (blk_cell aa.out 2).trans rfl
  have hfs39 := blk_frozen aa.out 2
  have hns39_1 := ah.out
  have hms39_1 := aj.out
  refine skip_ (w1 := ?_) (by rfl) rfl ?_ ?_
  rotate_left
  ·go_simp
   rfl
  refine hK.out _ _ ⟨((cell_far (p := ⟨ab, _, none⟩) ah.out _).trans (((cell_far (p := ⟨ab, _, none⟩) ah.out _).trans (((cell_far (p := ⟨ab, _, none⟩) ah.out _).trans (hHeld.1)))))), ((cell_far (p := ⟨ab, _, none⟩) ah.out _).trans (((cell_far (p := ⟨ab, _, none⟩) ah.out _).trans (((cell_far (p := ⟨ab, _, none⟩) ah.out _).trans (hHeld.2.1)))))), ((cell_far (p := ⟨ab, _, none⟩) ah.out _).trans (((cell_far (p := ⟨ab, _, none⟩) ah.out _).trans (((cell_far (p := ⟨ab, _, none⟩) ah.out _).trans (hHeld.2.2))))))⟩ (fun hHeld => ?_)
  clear hK K
  refine pure_ (i := 4) (N := some 3) (v := ?_) (a' := ?_) #[true, true, true, true, true] rfl rfl (by kernel_rfl) (fun _ _ _ h => h) (Or.inl ⟨by rfl, ?_⟩) ?_ ?_
  rotate_left; (focus (intro w'; go_simp; with_reducible rfl)); rotate_left; (focus (simp only [pn_, sz_, ss_, i64_w, i32_w]; rfl))
  refine done_ (by kernel_rfl) ?_
  try go_wp2
  refine bodyPost_ret (results_ct rfl _ _ ab 29 #[.int .i64 am, .string ap, .slice aD aq.length aE] (0, 0) _ rfl (by refine rb_ ?_; refine blk_put (cs := #[.int .i64 am, .string ap, .slice none 0 0]) ?_ 2 _ rfl; refine rb_ ?_; refine blk_put (cs := #[.int .i64 am, .string (⟨#[]⟩ : ByteArray), .slice none 0 0]) ?_ 1 _ rfl; refine rb_ ?_; refine blk_put (cs := #[.int .i64 0, .string (⟨#[]⟩ : ByteArray), .slice none 0 0]) ?_ 0 _ rfl; refine rb_ ?_; exact aa.out) Try.underlying29 rfl (by kernel_rfl)) rfl ?_
  exact ⟨_, by first | rfl | (simp [errW_none, errW_some] <;> rfl) | (simp [*, errW_none, errW_some] <;> rfl), by refine rn_ ?_; exact Kd.N_mono (Kd.N_far (p := ⟨ab, 2, none⟩) (Kd.N_far (p := ⟨ab, 1, none⟩) (Kd.N_far (p := ⟨ab, 0, none⟩) (Kd.N_mono ag.out (fun k_ hk => (⟨hk, hk.1.2.1⟩ : _ ∧ k_ ≠ ab))) (fun _ hk => hk.2) (.int .i64 am)) (fun _ hk => hk.2) (.string ap)) (fun _ hk => hk.2) (.slice aD aq.length aE)) (fun _ hk => hk.1.1.1), by exact zp50_3_ HB.out (IsS93.ge HI982.out) ai.out ar.out⟩
end Go.Proofs.Ytldgkgdgcfllmaa.P
end
