/- Texts of the proof of FnBoolean, put together. No condition. -/
import Derived.Test.YtogamkblkoobkaaQFnBoolean2
import Derived.Test.YtogamkblkoobkaaQFnBoolean8
import Derived.Test.YtogamkblkoobkaaQFnBoolean9
import Derived.Test.YtogamkblkoobkaaQFnBoolean7
import Derived.Test.YtogamkblkoobkaaQFnBoolean10
import Derived.Test.YtogamkblkoobkaaQFnBoolean11
import Derived.Shelf.Abstract
import Derived.Lib.Walk
import Derived.Test.YtogamkblkoobkaaQFnBoolean4
import Derived.Test.YtogamkblkoobkaaQFnBoolean3
import Derived.Test.YtogamkblkoobkaaQFnBoolean6
section
namespace Go.Proofs.Ytogamkblkoobkaa.P
open Go.RowKit Go.Proofs.YtogamkblkoobkaaW.PrintWords Go.Proofs.YtogamkblkoobkaaW.PrintLast Go.Proofs.YtogamkblkoobkaaW.PrintMore
attribute [local go_sem] max2_int min2_int max_two min_two max_three min_three max_four min_four
set_option linter.unusedVariables false
set_option linter.unusedSimpArgs false
def spec_DrawComplementDfa.f (k : Nat) (l0 : List Int) : Option (List Bool × (List (List Int))) := (spec_l1New.f k l0).bind fun bt851 => ((spec_l5Bent.f k bt851.1 bt851.2.1 bt851.2.2).bind fun bt855 => (some (bt855.1, bt855.2.1)))
theorem spec_DrawComplementDfa.mono : ∀ a0 k, LeO (spec_DrawComplementDfa.f k a0) (spec_DrawComplementDfa.f (k + 1) a0) := by
  intro a0 k
  unfold spec_DrawComplementDfa.f
  repeat' first
      | (with_reducible exact spec_l1New.mono _ _)
      | (with_reducible exact spec_l5Bent.mono _ _ _ _)
      | (with_reducible exact LeO.refl _)
      | (with_reducible exact LeO.none _)
      | (with_reducible refine LeO.ite ?_ ?_)
      | (with_reducible refine LeO.bind ?_ (fun _ => ?_))
      | exact spec_l1New.mono _ _
      | exact spec_l5Bent.mono _ _ _ _
      | exact LeO.none _
      | refine LeO.ite ?_ ?_
      | refine LeO.bind ?_ (fun _ => ?_)
set_option maxHeartbeats 8000000 in
set_option maxRecDepth 100000 in
theorem spec_DrawComplementDfa.calls (k : Nat) (A0 : Option Addr) (c0 : Nat) (l0 : List Int) (r1 : List Bool) (r2 : List (List Int)) (w : World) (hr0 : Kd.C (Kd.int .u8) w A0 l0.length l0) (hc0 : l0.length ≤ c0) (h : spec_DrawComplementDfa.f k l0 = some (r1, r2)) :
    Calls Try.prog 38 #[.slice A0 l0.length c0] w fun e w' => ∃ v0_ v1_ : Value, e = .returned (.agg #[v0_, v1_]) ∧ Kd.R Kd.bool 4 w' w.heap.size (fun _ => True) v0_ r1 ∧ Kd.S (Kd.slice 3 (Kd.int .i64)) 67 w' w.heap.size (fun _ => True) v1_ r2 ∧ Below w.heap.size w w' := by
  have hu27 := Try.underlying27
  have HR0 := am_ hr0
  have HC0 := am_ hc0
  clear hr0 hc0
  have HB := am_ (Below.refl w.heap.size w)
  have H : ((spec_l1New.f k l0).bind fun bt851 => ((spec_l5Bent.f k bt851.1 bt851.2.1 bt851.2.2).bind fun bt855 => (some (bt855.1, bt855.2.1)))) = some (r1, r2) := h
  clear h
  replace H := Option.bind_eq_some_iff.mp H
  obtain ⟨⟨am, an, ao⟩, A20, H⟩ := H
  have A2 := am_ A20
  clear A20
  replace H := Option.bind_eq_some_iff.mp H
  obtain ⟨⟨ae, ah, ap, aq⟩, A30, H⟩ := H
  replace H : (some (ae, ah)) = some (r1, r2) := H
  have A3 := am_ A30
  clear A30
  simp only [Option.some.injEq, Prod.mk.injEq] at H
  obtain ⟨rfl, rfl⟩ := H
  go_enter Try.func38, Try.ntmps38
  go_wp2_with (first | ((with_reducible refine gate_dst (N := 2) rfl ?_); refine box_event ?hg (N := 2) ?hd (cs := #[.slice none 0 0, .slice none 0 0]) (t := 27) ?hr ?_; (case hd => rfl); (case hg => rfl); (case hr => first | (go_simp; done) | (go_simp; rfl)); intro ab hg w4 hbox hb; replace aa := am_ (hbox); replace ay := am_ ((by rw [hg]; exact (below_size (b0_ HB.out)) : w.heap.size ≤ ab)); replace ad := am_ ((by rw [hg]; exact (below_size (b0_ HB.out)) : w.heap.size ≤ ab)); replace HB := am_ (below_step (b0_ HB.out) hb); clear hb hbox hg) | ((with_reducible refine gate_callee (f := 85) rfl ?_); refine gL_ (some 4) Try.func85 #[.slice A0 l0.length c0] ?_; (with_reducible refine (spec_l1New.calls k _ _ l0 am an ao w _ ?side1 ?side2 ?side3 A2.out).mono ?_); (case side1 => repeat (first | (with_reducible first | exact HB.out | apply below_alloc | apply pw_below_drewN | apply below_drew1 | refine below_set ?_ ad.out) | exact HB.out)); (case side2 => exact HR0.out); (case side3 => exact HC0.out); rintro e w5 ⟨g854, rfl, hi, hb, hb2⟩; refine ⟨_, rfl, ?_⟩; have n0_ := am_ (blk_below (rb_ aa.out) hb2); have n1_ := am_ (hb); have n2_ := am_ (hi); have n3_ := am_ (IsS125.ne_blk hi (blk_below (rb_ aa.out) hb2) (by decide)); have n4_ := am_ (Ne.symm (IsS125.ne_blk hi (blk_below (rb_ aa.out) hb2) (by decide))); clear aa; clear HB; have aa := n0_; have HB := n1_; have HI854 := n2_; have af := n3_; have ag := n4_; clear n0_ n1_ n2_ n3_ n4_; (try clear hb); (try clear hb2); (try clear hk); (try clear hi)) | ((with_reducible refine gate_callee (f := 88) rfl ?_); refine gL_ (some 5) Try.func88 #[.pointer (some ⟨g854, 0, none⟩)] ?_; (with_reducible refine (spec_l5Bent.calls k g854 am an ao ae ah ap aq w _ ?side1 ?side2 A3.out).mono ?_); (case side1 => repeat (first | (with_reducible first | exact HI854.out | apply IsS125.alloc | apply IsS125.drewN | apply IsS125.drew | apply IsS125.set_1 | apply IsS125.set_2 | refine IsS125.far ?_ af.out _) | exact HI854.out)); (case side2 => repeat (first | (with_reducible first | exact HB.out | apply below_alloc | apply pw_below_drewN | apply below_drew1 | refine below_set ?_ (IsS125.ge HI854.out) | refine below_set ?_ ad.out) | exact HB.out)); rintro e w6 ⟨az, aA, rfl, ho0, ho1, hi, hb, hk⟩; refine ⟨_, rfl, ?_⟩; have n0_ := am_ (KeepBut.blk hk (g' := ab) (o := .cells #[.slice none 0 0, .slice none 0 0] 27 (0, 0)) (rb_ aa.out) ag.out (by simp)); have n1_ := am_ (Kd.R_lower ho0 (below_size (b2_ HB.out (IsS125.ge HI854.out) ad.out))); have n2_ := am_ (Kd.S_lower ho1 (below_size (b2_ HB.out (IsS125.ge HI854.out) ad.out))); have n3_ := am_ (hb); have n4_ := am_ (hi); clear aa; clear HB; clear HI854; have aa := n0_; have ak := n1_; have al := n2_; have HB := n3_; have HI854 := n4_; clear n0_ n1_ n2_ n3_ n4_; (try clear hb); (try clear hb2); (try clear hk); (try clear hi); (try clear ho0); (try clear ho1); obtain ⟨Ao7, co7, eo7⟩ := Kd.R_slice ak.out; subst eo7; have aB := ag.out; have aC := af.out; have au := ck_ (v := (.slice none 0 0)) aa 0 rfl; have av := ck_ (v := (.slice none 0 0)) aa 1 rfl; have aw := blk_frozen aa.out 0; have ax := blk_frozen aa.out 1; obtain ⟨ai, aj, ar⟩ := Kd.S_slice al.out; subst ar))
  refine bodyPost_ret (results_cell_row rfl _ _ ab 27 #[.slice Ao7 ae.length co7, .slice ai ah.length aj] (0, 0) _ rfl (by refine rb_ ?_; refine blk_put (cs := #[.slice Ao7 ae.length co7, .slice none 0 0]) ?_ 1 _ rfl; refine rb_ ?_; refine blk_put (cs := #[.slice none 0 0, .slice none 0 0]) ?_ 0 _ rfl; refine rb_ ?_; exact aa.out) Try.underlying27 rfl (by kernel_rfl)) rfl ?_
  exact ⟨_, _, by first | rfl | (simp [errW_none, errW_some] <;> rfl) | (simp [*, errW_none, errW_some] <;> rfl), by refine rr_ ?_; exact Kd.R_mono (Kd.R_far (p := ⟨ab, 1, none⟩) (Kd.R_far (p := ⟨ab, 0, none⟩) (Kd.R_types ak.out aa.out (by decide)) (fun _ hk => hk.2) (.slice Ao7 ae.length co7)) (fun _ hk => hk.2) (.slice ai ah.length aj)) (fun _ hk => trivial), by refine rs_ ?_; exact Kd.S_mono (Kd.S_far (p := ⟨ab, 1, none⟩) (Kd.S_far (p := ⟨ab, 0, none⟩) (Kd.S_types al.out aa.out (by decide)) (fun _ hk => hk.2) (.slice Ao7 ae.length co7)) (fun _ hk => hk.2) (.slice ai ah.length aj)) (fun _ hk => trivial), by repeat (first | (with_reducible first | exact HB.out | apply below_alloc | apply pw_below_drewN | apply below_drew1 | refine below_set ?_ (IsS125.ge HI854.out) | refine below_set ?_ ad.out) | exact HB.out)⟩
end Go.Proofs.Ytogamkblkoobkaa.P
end
section
namespace Go.Proofs.Ytogamkblkoobkaa.P
open Go.RowKit Go.Proofs.YtogamkblkoobkaaW.PrintWords Go.Proofs.YtogamkblkoobkaaW.PrintLast Go.Proofs.YtogamkblkoobkaaW.PrintMore
attribute [local go_sem] max2_int min2_int max_two min_two max_three min_three max_four min_four
set_option linter.unusedVariables false
set_option linter.unusedSimpArgs false
def spec_DrawRunDfa.f (k : Nat) (l0 : List Int) : Option (List Bool × (List (List Int)) × Int × ByteArray) := (spec_l1New.f k l0).bind fun bt909 => ((spec_l5Bent.f k bt909.1 bt909.2.1 bt909.2.2).bind fun bt913 => ((spec_l1Below.f bt909.1 bt913.2.2.1 bt913.2.2.2 (wrap64 ((bt913.1.length : Int) + 2))).bind fun bt922 => ((spec_l2Any.f k bt909.1 bt922.2.1 bt922.2.2).bind fun bt925 => (some (bt913.1, bt913.2.1, wrap64 (bt922.1 - 1), bt925.1)))))
theorem spec_DrawRunDfa.mono : ∀ a0 k, LeO (spec_DrawRunDfa.f k a0) (spec_DrawRunDfa.f (k + 1) a0) := by
 intro a0 k
 unfold spec_DrawRunDfa.f
 repeat' first
   | (with_reducible exact spec_l1New.mono _ _)
   | (with_reducible exact spec_l2Any.mono _ _ _ _)
   | (with_reducible exact spec_l5Bent.mono _ _ _ _)
   | (with_reducible exact LeO.refl _)
   | (with_reducible exact LeO.none _)
   | (with_reducible refine LeO.ite ?_ ?_)
   | (with_reducible refine LeO.bind ?_ (fun _ => ?_))
   | exact spec_l1New.mono _ _
   | exact spec_l2Any.mono _ _ _ _
   | exact spec_l5Bent.mono _ _ _ _
   | exact LeO.none _
   | refine LeO.ite ?_ ?_
   | refine LeO.bind ?_ (fun _ => ?_)
def spec_DrawRunDfa.T3 : Bool × List (List Nat × List Nat) := (true, [([], []), ([], []), ([], []), ([2], [2]), ([3], [3]), ([4], [4]), ([1, 5], [1, 5]), ([6], [6]), ([], []), ([8, 6], [8]), ([0, 9, 0], [0]), ([7, 10, 0, 1, 2, 3, 4, 5, 6, 7, 10], [7]), ([9, 11, 0, 1, 2, 3, 4, 5, 6, 7, 8, 9, 10, 11], [9])])
def spec_DrawRunDfa.B3 : List Nat := [0, 0, 0, 4, 12, 28, 62, 126, 0, 382, 895, 2047, 4095]
theorem spec_DrawRunDfa.tab3 : rtab .any (opsOf Try.f41 3) = spec_DrawRunDfa.T3 := by kernel_rfl
theorem spec_DrawRunDfa.bits3 : waitsOk spec_DrawRunDfa.T3.2 spec_DrawRunDfa.B3 = true := by kernel_rfl
theorem zp52_0_ {p q g1 : Prop} (h : p) (h1 : g1) (c : p → g1 → q := by intro h_ h1_; repeat (first | (with_reducible first | exact h_ | apply IsS125.alloc | apply IsS125.drewN | apply IsS125.drew | apply IsS125.set_1 | apply IsS125.set_2 | refine IsS125.far ?_ h1_ _) | exact h_)) : q := c h h1
theorem zp52_1_ {p q g1 g2 : Prop} (h : p) (h1 : g1) (h2 : g2) (c : p → g1 → g2 → q := by intro h_ h1_ h2_; repeat (first | (with_reducible first | exact h_ | apply IsS125.alloc | apply IsS125.drewN | apply IsS125.drew | apply IsS125.set_1 | apply IsS125.set_2 | refine IsS125.far ?_ h1_ _ | refine IsS125.far ?_ h2_ _) | exact h_)) : q := c h h1 h2
theorem zp52_2_ {p q g1 g2 g3 : Prop} (h : p) (h1 : g1) (h2 : g2) (h3 : g3) (c : p → g1 → g2 → g3 → q := by intro h_ h1_ h2_ h3_; repeat (first | (with_reducible first | exact h_ | apply below_alloc | apply pw_below_drewN | apply below_drew1 | refine below_set ?_ h1_ | refine below_set ?_ h2_ | refine below_set ?_ h3_) | exact h_)) : q := c h h1 h2 h3
set_option maxHeartbeats 8000000 in
set_option maxRecDepth 100000 in
theorem spec_DrawRunDfa.calls (k : Nat) (A0 : Option Addr) (c0 : Nat) (l0 : List Int) (r1 : List Bool) (r2 : List (List Int)) (r3 : Int) (r4 : ByteArray) (w : World) (hr0 : Kd.C (Kd.int .u8) w A0 l0.length l0) (hc0 : l0.length ≤ c0) (h : spec_DrawRunDfa.f k l0 = some (r1, r2, r3, r4)) :
  Calls Try.prog 41 #[.slice A0 l0.length c0] w fun e w' => ∃ v0_ v1_ : Value, e = .returned (.tuple #[.agg #[v0_, v1_], .int .i64 r3, .string r4]) ∧ Kd.R Kd.bool 4 w' w.heap.size (fun _ => True) v0_ r1 ∧ Kd.S (Kd.slice 3 (Kd.int .i64)) 67 w' w.heap.size (fun _ => True) v1_ r2 ∧ Below w.heap.size w w' := by
 have hu27 := Try.underlying27
 have HR0 := am_ hr0
 have HC0 := am_ hc0
 clear hr0 hc0
 have HB := am_ (Below.refl w.heap.size w)
 have H : ((spec_l1New.f k l0).bind fun bt909 => ((spec_l5Bent.f k bt909.1 bt909.2.1 bt909.2.2).bind fun bt913 => ((spec_l1Below.f bt909.1 bt913.2.2.1 bt913.2.2.2 (wrap64 ((bt913.1.length : Int) + 2))).bind fun bt922 => ((spec_l2Any.f k bt909.1 bt922.2.1 bt922.2.2).bind fun bt925 => (some (bt913.1, bt913.2.1, wrap64 (bt922.1 - 1), bt925.1)))))) = some (r1, r2, r3, r4) := h
 clear h
 replace H := Option.bind_eq_some_iff.mp H
 obtain ⟨⟨au, aC, aD⟩, A20, H⟩ := H
 have A2 := am_ A20
 clear A20
 replace H := Option.bind_eq_some_iff.mp H
 obtain ⟨⟨af, ah, ax, ay⟩, A30, H⟩ := H
 have A3 := am_ A30
 clear A30
 replace H := Option.bind_eq_some_iff.mp H
 obtain ⟨⟨aE, aA, aB⟩, A40, H⟩ := H
 have A4 := am_ A40
 clear A40
 replace H := Option.bind_eq_some_iff.mp H
 obtain ⟨⟨aF, aG, aH⟩, A50, H⟩ := H
 replace H : (some (af, ah, wrap64 (aE - 1), aF)) = some (r1, r2, r3, r4) := H
 have A5 := am_ A50
 clear A50
 simp only [Option.some.injEq, Prod.mk.injEq] at H
 obtain ⟨rfl, rfl, rfl, rfl⟩ := H
 go_enter Try.func41, Try.ntmps41
 try go_wp2_with (first | ((with_reducible refine gate_dst (N := 2) rfl ?_); refine box_event ?hg (N := 2) ?hd (cs := #[.slice none 0 0, .slice none 0 0]) (t := 27) ?hr ?_; (case hd => rfl); (case hg => rfl); (case hr => first | (go_simp; done) | (go_simp; rfl)); intro ag hg w6 hbox hb; replace aa := am_ (hbox); replace aO := am_ ((by rw [hg]; exact (below_size (b0_ HB.out)) : w.heap.size ≤ ag)); replace aq := am_ ((by rw [hg]; exact (below_size (b0_ HB.out)) : w.heap.size ≤ ag)); replace HB := am_ (below_step (b0_ HB.out) hb); clear hb hbox hg) | ((with_reducible refine gate_callee (f := 85) rfl ?_); refine gL_ (some 8) Try.func85 #[.slice A0 l0.length c0] ?_; (with_reducible refine (spec_l1New.calls k _ _ l0 au aC aD w _ ?side1 ?side2 ?side3 A2.out).mono ?_); (case side1 => repeat (first | (with_reducible first | exact HB.out | apply below_alloc | apply pw_below_drewN | apply below_drew1 | refine below_set ?_ aq.out) | exact HB.out)); (case side2 => exact HR0.out); (case side3 => exact HC0.out); rintro e w7 ⟨g912, rfl, hi, hb, hb2⟩; refine ⟨_, rfl, ?_⟩; have n0_ := am_ (blk_below (rb_ aa.out) hb2); have n1_ := am_ (hb); have n2_ := am_ (hi); have n3_ := am_ (IsS125.ne_blk hi (blk_below (rb_ aa.out) hb2) (by decide)); have n4_ := am_ (Ne.symm (IsS125.ne_blk hi (blk_below (rb_ aa.out) hb2) (by decide))); clear aa; clear HB; have aa := n0_; have HB := n1_; have HI912 := n2_; have ae := n3_; have av := n4_; clear n0_ n1_ n2_ n3_ n4_; (try clear hb); (try clear hb2); (try clear hk); (try clear hi)) | ((with_reducible refine gate_callee (f := 88) rfl ?_); refine gL_ (some 10) Try.func88 #[.pointer (some ⟨g912, 0, none⟩)] ?_; (with_reducible refine (spec_l5Bent.calls k g912 au aC aD af ah ax ay w _ ?side1 ?side2 A3.out).mono ?_); (case side1 => exact zp52_0_ HI912.out ae.out); (case side2 => repeat (first | (with_reducible first | exact HB.out | apply below_alloc | apply pw_below_drewN | apply below_drew1 | refine below_set ?_ (IsS125.ge HI912.out) | refine below_set ?_ aq.out) | exact HB.out)); rintro e w8 ⟨aU, aV, rfl, ho0, ho1, hi, hb, hk⟩; refine ⟨_, rfl, ?_⟩; have n0_ := am_ (KeepBut.blk hk (g' := ag) (o := .cells #[.slice none 0 0, .slice none 0 0] 27 (0, 0)) (rb_ aa.out) av.out (by simp)); have n1_ := am_ (Kd.R_lower ho0 (below_size (b2_ HB.out (IsS125.ge HI912.out) aq.out))); have n2_ := am_ (Kd.S_lower ho1 (below_size (b2_ HB.out (IsS125.ge HI912.out) aq.out))); have n3_ := am_ (hb); have n4_ := am_ (hi); clear aa; clear HB; clear HI912; have aa := n0_; have aj := n1_; have ak := n2_; have HB := n3_; have HI912 := n4_; clear n0_ n1_ n2_ n3_ n4_; (try clear hb); (try clear hb2); (try clear hk); (try clear hi); (try clear ho0); (try clear ho1)) | ((with_reducible refine gate_dst (N := 6) rfl ?_); refine box_event ?hg (N := 6) ?hd (cs := #[.slice none 0 0, .slice none 0 0]) (t := 27) ?hr ?_; (case hd => rfl); (case hg => rfl); (case hr => first | (go_simp; done) | (go_simp; rfl)); intro ab hg w9 hbox hb; have n0_ := am_ (Kd.R_below (rr_ aj.out) hb); have n1_ := am_ (Kd.S_below (rs_ ak.out) hb); have n2_ := am_ (blk_below (rb_ aa.out) hb); have n3_ := am_ (IsS125.below (zp52_0_ HI912.out ae.out) hb); have n4_ := am_ (below_step (b2_ HB.out (IsS125.ge HI912.out) aq.out) hb); have n5_ := am_ (hbox); have n6_ := am_ ((by rw [hg]; exact (below_size (b2_ HB.out (IsS125.ge HI912.out) aq.out)) : w.heap.size ≤ ab)); have n7_ := am_ ((by rw [hg]; exact (below_size (b2_ HB.out (IsS125.ge HI912.out) aq.out)) : w.heap.size ≤ ab)); have n8_ := am_ ((by rw [hg]; exact Nat.ne_of_lt (blk_lt (rb_ aa.out)) : ag ≠ ab)); have n9_ := am_ ((by rw [hg]; exact Nat.ne_of_gt (blk_lt (rb_ aa.out)) : ab ≠ ag)); have n10_ := am_ ((by rw [hg]; exact Nat.ne_of_lt (IsS125.lt (show IsS125 w _ g912 au ax ay from by exact zp52_0_ HI912.out ae.out)) : g912 ≠ ab)); have n11_ := am_ ((by rw [hg]; exact Nat.ne_of_gt (IsS125.lt (show IsS125 w _ g912 au ax ay from by exact zp52_0_ HI912.out ae.out)) : ab ≠ g912)); clear aj; clear ak; clear aa; clear HI912; clear HB; have aj := n0_; have ak := n1_; have aa := n2_; have HI912 := n3_; have HB := n4_; have ad := n5_; have aP := n6_; have az := n7_; have ar := n8_; have an := n9_; have ai := n10_; have aw := n11_; clear n0_ n1_ n2_ n3_ n4_ n5_ n6_ n7_ n8_ n9_ n10_ n11_; clear hb hbox hg; obtain ⟨al, am, aI⟩ := Kd.R_slice aj.out; subst aI; have aQ := an.out; have aR := ar.out; have aS := aw.out; have aT := ai.out; have aK := ck_ (v := (.slice none 0 0)) ad 0 rfl; have aL := ck_ (v := (.slice none 0 0)) ad 1 rfl; have aM := blk_frozen ad.out 0; have aN := blk_frozen ad.out 1; obtain ⟨ao, ap, aJ⟩ := Kd.S_slice ak.out; subst aJ))
 have n0_ : Aside0 (Kd.R Kd.bool 4 ((w9.setCell ⟨ab, 0, none⟩ (.slice al af.length am)).setCell ⟨ab, 1, none⟩ (.slice ao ah.length ap)) w.heap.size (fun _ => True) (.slice al af.length am) af) := ⟨by refine rr_ ?_; exact Kd.R_mono (Kd.R_far (p := ⟨ab, 1, none⟩) (Kd.R_far (p := ⟨ab, 0, none⟩) (Kd.R_types aj.out ad.out (by decide)) (fun _ hk => hk.2) (.slice al af.length am)) (fun _ hk => hk.2) (.slice ao ah.length ap)) (fun _ hk => trivial)⟩
 have n1_ : Aside0 (Kd.S (Kd.slice 3 (Kd.int .i64)) 67 ((w9.setCell ⟨ab, 0, none⟩ (.slice al af.length am)).setCell ⟨ab, 1, none⟩ (.slice ao ah.length ap)) w.heap.size (fun _ => True) (.slice ao ah.length ap) ah) := ⟨by refine rs_ ?_; exact Kd.S_mono (Kd.S_far (p := ⟨ab, 1, none⟩) (Kd.S_far (p := ⟨ab, 0, none⟩) (Kd.S_types ak.out ad.out (by decide)) (fun _ hk => hk.2) (.slice al af.length am)) (fun _ hk => hk.2) (.slice ao ah.length ap)) (fun _ hk => trivial)⟩
 have n2_ : Aside0 (((w9.setCell ⟨ab, 0, none⟩ (.slice al af.length am)).setCell ⟨ab, 1, none⟩ (.slice ao ah.length ap)).heap[ag]? = some (.cells #[.slice none 0 0, .slice none 0 0] 27 (0, 0))) := ⟨by refine rb_ ?_; refine blk_far ?_ ar.out _; refine rb_ ?_; refine blk_far ?_ ar.out _; refine rb_ ?_; exact aa.out⟩
 have n3_ : Aside0 (((w9.setCell ⟨ab, 0, none⟩ (.slice al af.length am)).setCell ⟨ab, 1, none⟩ (.slice ao ah.length ap)).heap[ab]? = some (.cells #[.slice al af.length am, .slice ao ah.length ap] 27 (0, 0))) := ⟨by refine rb_ ?_; refine blk_put (cs := #[.slice al af.length am, .slice none 0 0]) ?_ 1 _ rfl; refine rb_ ?_; refine blk_put (cs := #[.slice none 0 0, .slice none 0 0]) ?_ 0 _ rfl; refine rb_ ?_; exact ad.out⟩
 have n4_ : Aside0 (IsS125 w ((w9.setCell ⟨ab, 0, none⟩ (.slice al af.length am)).setCell ⟨ab, 1, none⟩ (.slice ao ah.length ap)) g912 au ax ay) := ⟨by exact zp52_1_ HI912.out ae.out ai.out⟩
 have n5_ : Aside0 (Below w.heap.size w ((w9.setCell ⟨ab, 0, none⟩ (.slice al af.length am)).setCell ⟨ab, 1, none⟩ (.slice ao ah.length ap))) := ⟨by exact zp52_2_ HB.out (IsS125.ge HI912.out) aq.out az.out⟩
 (try clear aj)
 (try clear ak)
 (try clear aa)
 (try clear ad)
 (try clear HI912)
 (try clear HB)
 generalize ((w9.setCell ⟨ab, 0, none⟩ (.slice al af.length am)).setCell ⟨ab, 1, none⟩ (.slice ao ah.length ap)) = w15 at n0_ n1_ n2_ n3_ n4_ n5_ ⊢
 have aj := n0_; have ak := n1_; have aa := n2_; have ad := n3_; have HI912 := n4_; have HB := n5_
 clear n0_ n1_ n2_ n3_ n4_ n5_
 replace aj := am_ (Kd.R_drew aj.out)
 replace ak := am_ (Kd.S_drew ak.out)
 replace aa := am_ (blk_drew aa.out)
 replace ad := am_ (blk_drew ad.out)
 replace HI912 := am_ (IsS125.drew HI912.out)
 replace HB := am_ (below_drew1 HB.out)
 refine start_ (n := 13) (S := fun w' => w'.cell? ⟨ab, 0, none⟩ = some (.slice al af.length am) ∧ w'.cell? ⟨ab, 1, none⟩ = some (.slice ao ah.length ap)) (ds := []) (bl 13 0) (by kernel_rfl) rfl rfl ⟨(blk_cell ad.out 0).trans rfl, (blk_cell ad.out 1).trans rfl⟩ (fun hHeld => ?_); refine with_tabW spec_DrawRunDfa.tab3 spec_DrawRunDfa.bits3 (fun HT_ HW_ => ?_)
 generalize w15.drew = w16 at aj ak aa ad HI912 HB hHeld ⊢
 refine pu_ 1 12 (bl 13 2) HT_ ?_
 refine pu_ 2 13 (bl 13 6) HT_ ?_
 refine pu_ 8 19 (bl 13 262) HT_ ?_
 refine tk_ 0 11 (bl 13 263) HT_ HW_ hHeld ?_
 refine tk_ 3 14 (bl 13 271) HT_ HW_ hHeld ?_
 refine pu_ 4 15 (bl 13 287) HT_ ?_
 refine pu_ 5 16 (bl 13 319) HT_ ?_
 refine on_ 6 (some 17) (bl 13 383) HT_ (fun K hK => ?_)
 refine gO_ Try.func107 #[.pointer (some ⟨g912, 0, none⟩), .int .i64 (wrap64 ((af.length : Int) + 2))] ?_
 with_reducible refine (spec_l1Below.calls g912 au ax ay (wrap64 ((af.length : Int) + 2)) aE aA aB w _ ?side1 ?side2 A4.out).mono ?_
 (case side1 => exact zp52_1_ HI912.out ae.out ai.out)
 (case side2 => exact zp52_2_ HB.out (IsS125.ge HI912.out) aq.out az.out)
 rintro e w17 ⟨rfl, hi, hb, hk⟩
 refine ⟨_, rfl, ?_⟩
 replace aa := am_ (KeepBut.blk hk (g' := ag) (o := .cells #[.slice none 0 0, .slice none 0 0] 27 (0, 0)) (rb_ aa.out) av.out (by simp))
 replace aj := am_ (Kd.R_mono (Kd.R_keep (IsS125.apart (show IsS125 w _ g912 au ax ay from by exact zp52_1_ HI912.out ae.out ai.out) (rr_ aj.out) (by decide)) hk (fun _ h => h.2)) (fun _ h => h.1))
 replace ak := am_ (Kd.S_mono (Kd.S_keep (IsS125.apartS (show IsS125 w _ g912 au ax ay from by exact zp52_1_ HI912.out ae.out ai.out) (rs_ ak.out) (by decide)) hk (fun _ h => h.2)) (fun _ h => h.1))
 replace ad := am_ (KeepBut.blk hk (g' := ab) (o := .cells #[.slice al af.length am, .slice ao ah.length ap] 27 (0, 0)) (rb_ ad.out) aw.out (by simp))
 replace HB := am_ (hb)
 replace HI912 := am_ (hi)
 (try clear hb)
 (try clear hb2)
 (try clear hk)
 (try clear hi)
 refine hK.out _ _ ⟨(blk_cell ad.out 0).trans rfl, (blk_cell ad.out 1).trans rfl⟩ (fun hHeld => ?_)
 clear hK K
 refine norm_ (a' := ?_) ?_ ?_
 rotate_left
 ·show Act.put _ (some 17) _ = _
  simp only [pn_, sz_, ss_, i64_w, i32_w]
  rfl
 refine pu_ 7 18 (bl 13 511) HT_ ?_
 refine on_ 9 (some 20) (bl 13 1023) HT_ (fun K hK => ?_)
 refine gO_ Try.func108 #[.pointer (some ⟨g912, 0, none⟩)] ?_
 with_reducible refine (spec_l2Any.calls k g912 au aA aB aF aG aH w _ ?side1 ?side2 A5.out).mono ?_
 (case side1 => exact zp52_1_ HI912.out ae.out ai.out)
 (case side2 => exact zp52_2_ HB.out (IsS125.ge HI912.out) aq.out az.out)
 rintro e w18 ⟨rfl, hi, hb, hk⟩
 refine ⟨_, rfl, ?_⟩
 replace aa := am_ (KeepBut.blk hk (g' := ag) (o := .cells #[.slice none 0 0, .slice none 0 0] 27 (0, 0)) (rb_ aa.out) av.out (by simp))
 replace aj := am_ (Kd.R_mono (Kd.R_keep (IsS125.apart (show IsS125 w _ g912 au aA aB from by exact zp52_1_ HI912.out ae.out ai.out) (rr_ aj.out) (by decide)) hk (fun _ h => h.2)) (fun _ h => h.1))
 replace ak := am_ (Kd.S_mono (Kd.S_keep (IsS125.apartS (show IsS125 w _ g912 au aA aB from by exact zp52_1_ HI912.out ae.out ai.out) (rs_ ak.out) (by decide)) hk (fun _ h => h.2)) (fun _ h => h.1))
 replace ad := am_ (KeepBut.blk hk (g' := ab) (o := .cells #[.slice al af.length am, .slice ao ah.length ap] 27 (0, 0)) (rb_ ad.out) aw.out (by simp))
 replace HB := am_ (hb)
 replace HI912 := am_ (hi)
 (try clear hb)
 (try clear hb2)
 (try clear hk)
 (try clear hi)
 refine hK.out _ _ ⟨(blk_cell ad.out 0).trans rfl, (blk_cell ad.out 1).trans rfl⟩ (fun hHeld => ?_)
 clear hK K
 refine norm_ (a' := ?_) ?_ ?_
 rotate_left
 ·show Act.put _ (some 20) _ = _
  simp only [pn_, sz_, ss_, i64_w, i32_w]
  rfl
 refine on_ 10 none (bl 13 2047) HT_ (fun K hK => ?_)
 have hs19 : w18.cell? ⟨ag, 0, none⟩ = some (.slice none 0 0) := (blk_cell aa.out 0).trans rfl
 have hfs19 := blk_frozen aa.out 0
 have hns19_1 := an.out
 have hms19_1 := ar.out
 have hs20 : w18.cell? ⟨ag, 1, none⟩ = some (.slice none 0 0) := (blk_cell aa.out 1).trans rfl
 have hfs20 := blk_frozen aa.out 1
 have hns20_1 := an.out
 have hms20_1 := ar.out
 refine skip_ (w1 := ?_) (by rfl) rfl ?_ ?_
 rotate_left
 ·go_simp
  rfl
 refine hK.out _ _ ⟨((cell_far (p := ⟨ag, _, none⟩) an.out _).trans (((cell_far (p := ⟨ag, _, none⟩) an.out _).trans (hHeld.1)))), ((cell_far (p := ⟨ag, _, none⟩) an.out _).trans (((cell_far (p := ⟨ag, _, none⟩) an.out _).trans (hHeld.2))))⟩ (fun hHeld => ?_)
 clear hK K
 refine pu_ 11 3 (bl 13 4095) HT_ ?_
 refine pu_ 12 4 (bl 13 8191) HT_ ?_
 refine done_ (done_of HT_.out (by kernel_rfl)) ?_
 try go_wp2
 refine bodyPost_ret (results_ctt rfl _ _ ag 27 #[.slice al af.length am, .slice ao ah.length ap] (0, 0) _ rfl (by refine rb_ ?_; refine blk_put (cs := #[.slice al af.length am, .slice none 0 0]) ?_ 1 _ rfl; refine rb_ ?_; refine blk_put (cs := #[.slice none 0 0, .slice none 0 0]) ?_ 0 _ rfl; refine rb_ ?_; exact aa.out) Try.underlying27 rfl (by kernel_rfl)) rfl ?_
 exact ⟨_, _, by first | rfl | (simp [errW_none, errW_some] <;> rfl) | (simp [*, errW_none, errW_some] <;> rfl), by refine rr_ ?_; exact Kd.R_mono (Kd.R_far (p := ⟨ag, 1, none⟩) (Kd.R_far (p := ⟨ag, 0, none⟩) (Kd.R_types aj.out aa.out (by decide)) (fun _ hk => hk.2) (.slice al af.length am)) (fun _ hk => hk.2) (.slice ao ah.length ap)) (fun _ hk => trivial), by refine rs_ ?_; exact Kd.S_mono (Kd.S_far (p := ⟨ag, 1, none⟩) (Kd.S_far (p := ⟨ag, 0, none⟩) (Kd.S_types ak.out aa.out (by decide)) (fun _ hk => hk.2) (.slice al af.length am)) (fun _ hk => hk.2) (.slice ao ah.length ap)) (fun _ hk => trivial), by exact zp52_2_ HB.out (IsS125.ge HI912.out) aq.out az.out⟩
end Go.Proofs.Ytogamkblkoobkaa.P
end
section
namespace Go.Proofs.Ytogamkblkoobkaa.Can
open Go.RowKit Go.Proofs.Ytogamkblkoobkaa Go.Proofs.Ytogamkblkoobkaa.P Go.Proofs.Ytogamkblkoobkaa.Wk Go.Proofs.Ytogamkblkoobkaa.Lg Go.Proofs.Ytogamkblkoobkaa.Pl Go.Proofs.Ytogamkblkoobkaa.Mp Go.Proofs.Ytogamkblkoobkaa.Bf Go.Proofs.Ytogamkblkoobkaa.Mn Go.Proofs.YtogamkblkoobkaaW.PrintWords Go.Proofs.YtogamkblkoobkaaW.PrintLast Go.Proofs.YtogamkblkoobkaaW.PrintMore
set_option linter.unusedVariables false
set_option linter.unusedSimpArgs false
theorem acc_lang {a : List Bool} {n : List (List Int)} {s : ByteArray} (hv : validD a n = true) (hs : word s = true) : accOf a n s = lang a n 0 (toF (bytesOf s)) := by
  have hl : lets (bytesOf s) = true := by
    unfold word at hs
    exact (Bool.and_eq_true_iff.1 hs).1
  unfold accOf
  rw [hv, hs, Bool.true_and, Bool.true_and]
  exact (run_toF _ _ hl).symm
theorem pd_acc {a b : List Bool} {n m : List (List Int)} {k : Int} (h : (pdR a n b m k).2.2 = true) : (k = 6 ∨ k = 7) ∧ ∀ s, word s = true → accOf (pdR a n b m k).1 (pdR a n b m k).2.1 s = bothB k (accOf a n s) (accOf b m s) := by
  by_cases hc : (validD a n = true ∧ validD b m = true) ∧ (k = 6 ∨ k = 7)
  · obtain ⟨⟨hv, hw⟩, hk⟩ := hc
    refine ⟨hk, fun s hs => ?_⟩
    obtain ⟨q, he, hx, hau, hq⟩ := pd_some (kind := k) hv hw
    have e2 := hau.lang (fun x w => bothB k (run a n w x.1) (run b m w x.2)) (dom := fun _ => True) trivial (fun _ _ _ _ => trivial) (fun x _ => rfl) (fun x _ k w => rfl)
    have hpd : pdR a n b m k = fitD q.2.1 q.2.2 := by
      unfold pdR
      rw [if_pos ⟨⟨hv, hw⟩, hk⟩, hx]
    rw [hpd] at h ⊢
    have hfit : fitD q.2.1 q.2.2 = ((minD q.2.1 q.2.2 0).1, (minD q.2.1 q.2.2 0).2, true) ∧ (minD q.2.1 q.2.2 0).1.length ≤ 40 := by
      unfold fitD at h ⊢
      by_cases hl : (minD q.2.1 q.2.2 0).1.length ≤ 40
      · rw [if_pos hl]
        exact ⟨rfl, hl⟩
      · rw [if_neg hl] at h
        cases h
    rw [hfit.1]
    obtain ⟨c1, c2, c3⟩ := (min_can (fits_rows hau.rows.2) (st := 0) (by have := hau.rows.1; omega)).facts
    rw [acc_lang (valid_of c1 hfit.2 c2) hs, acc_lang hv hs, acc_lang hw hs]
    show lang (minD q.2.1 q.2.2 0).1 (minD q.2.1 q.2.2 0).2 0 _ = _
    rw [c3, e2]
    rfl
  · unfold pdR at h
    rw [if_neg hc] at h
    cases h
theorem cm_acc {a : List Bool} {n : List (List Int)} {s : ByteArray} (hv : validD a n = true) (hs : word s = true) : accOf (cmOf a n).1 (cmOf a n).2 s = !accOf a n s := by
  obtain ⟨g1, g2, g3⟩ := validD_facts hv
  have hmin : minOf a n = minD a n 0 := by unfold minOf; rw [if_pos hv]
  have hc := (min_can (fits_valid hv) (st := 0) (by omega)).compl
  obtain ⟨c1, c2, c3⟩ := hc.facts
  have hl : (flip (minD a n 0)).1.length ≤ 40 := by
    have := (cmOf_len a n).1
    unfold cmOf at this
    rwa [hmin] at this
  unfold cmOf
  rw [hmin, acc_lang (valid_of c1 hl c2) hs, acc_lang hv hs, c3]
  rfl
section
variable (l0 : List Int) (h1 : l0.length ≤ 140737488351232)
include h1
theorem draw_product : ∃ a n b m k, Ev (fun r => spec_DrawProductDfa.f r l0) (a, n, b, m, k) ∧ (a.length ≤ 6 ∧ n.length ≤ 6) ∧ b.length ≤ 6 ∧ m.length ≤ 6 := by
  obtain ⟨r, hr⟩ := new l0 h1
  obtain ⟨a, n, i1, g1, hev, a1, a2, a3, a4, c1⟩ := draw l0 h1 0 r (cur0 l0) 4 (by omega) (by omega)
  obtain ⟨b, m, i2, g2, hev2, b1, b2, b3, b4, c2⟩ := draw l0 h1 i1 g1 c1 4 (by omega) (by omega)
  obtain ⟨x, i3, g3, e, c3⟩ := once l0 h1 i2 g2 c2 12 (by omega) (by omega)
  by_cases hx : x = true
  · obtain ⟨b', m', i4, g4, hev4, d1, d2, d3, c4⟩ := bent l0 h1 i3 g3 c3
    obtain ⟨k, i5, g5, e5, m5, c5⟩ := pickInt l0 h1 i4 g4 c4 [6, 7, 6, 7, 9] (by simp) (by simp)
    refine ⟨a, n, b', m', k, ?_, ⟨by omega, by omega⟩, d1, d2⟩
    simp only [spec_DrawProductDfa.f]
    refine Ev.bind hr (Ev.bind hev (Ev.bind hev2 ?_))
    simp only [e, Option.bind_some, if_pos hx]
    refine Ev.bind hev4 ?_
    simp only [e5, Option.bind_some]
    exact Ev.now _
  · obtain ⟨k, i5, g5, e5, m5, c5⟩ := pickInt l0 h1 i3 g3 c3 [6, 7, 6, 7, 9] (by simp) (by simp)
    refine ⟨a, n, b, m, k, ?_, ⟨by omega, by omega⟩, by omega, by omega⟩
    simp only [spec_DrawProductDfa.f]
    refine Ev.bind hr (Ev.bind hev (Ev.bind hev2 ?_))
    simp only [e, Option.bind_some, if_neg hx, e5]
    exact Ev.now _
theorem draw_complement : ∃ a n, Ev (fun r => spec_DrawComplementDfa.f r l0) (a, n) ∧ a.length ≤ 6 ∧ n.length ≤ 6 := by
  obtain ⟨r, hr⟩ := new l0 h1
  obtain ⟨b, m, i2, g2, hev2, b1, b2, b3, c3⟩ := bent l0 h1 0 r (cur0 l0)
  refine ⟨b, m, ?_, b1, b2⟩
  simp only [spec_DrawComplementDfa.f]
  exact Ev.bind hr (Ev.bind hev2 (Ev.now _))
theorem draw_run : ∃ a n q s, Ev (fun r => spec_DrawRunDfa.f r l0) (a, n, q, s) ∧ (a.length ≤ 6 ∧ n.length ≤ 6) ∧ s.size ≤ 31 := by
  obtain ⟨r, hr⟩ := new l0 h1
  obtain ⟨b, m, i2, g2, hev2, b1, b2, b3, c3⟩ := bent l0 h1 0 r (cur0 l0)
  obtain ⟨x, i3, g3, e3, m1, m2, c4⟩ := below l0 h1 i2 g2 c3 (b.length + 2) (by omega) (by omega)
  obtain ⟨s, i4, g4, e4, s4, c5⟩ := drawAny l0 h1 i3 g3 c4
  refine ⟨b, m, wrap64 (x - 1), s, ?_, ⟨b1, b2⟩, s4⟩
  simp only [spec_DrawRunDfa.f]
  refine Ev.bind hr (Ev.bind hev2 ?_)
  have ew : wrap64 ((b.length : Int) + 2) = (b.length : Int) + 2 := w64 (by omega) (by omega)
  simp only [ew, e3, Option.bind_some]
  refine Ev.bind e4 ?_
  exact Ev.now _
end
end Go.Proofs.Ytogamkblkoobkaa.Can
end
section
namespace Go.Proofs.Ytogamkblkoobkaa
open Go.RowKit Go.Shelf Go.Proofs.Ytogamkblkoobkaa.P Go.Proofs.YtogamkblkoobkaaW.PrintWords Go.Proofs.YtogamkblkoobkaaW.PrintLast Go.Proofs.YtogamkblkoobkaaW.PrintMore
set_option linter.unusedVariables false
structure Pc where
  P : World → List Nat → Prop
  mv : ∀ {w w' : World} {fp : List Nat}, P w fp → (∀ k ∈ fp, w'.heap[k]? = w.heap[k]?) → P w' fp
  lt : ∀ {w : World} {fp : List Nat}, P w fp → ∀ k ∈ fp, k < w.heap.size
def SlF (w : World) : List Pc → List Nat → Prop
  | [], fp => fp = []
  | p :: ps, fp => ∃ f1 f2, fp = f1 ++ f2 ∧ p.P w f1 ∧ SlF w ps f2
structure Sl (w0 w : World) (ps : List Pc) : Prop where
  bel : Below w0.heap.size w0 w
  own : ∃ fp, SlF w ps fp ∧ fp.Nodup ∧ ∀ k ∈ fp, w0.heap.size ≤ k
section
variable {w0 w w' w1 : World} {ps qs : List Pc} {p q : Pc} {fp : List Nat} {i j : Nat}
theorem SlF.mv : ∀ {ps : List Pc} {fp : List Nat}, SlF w ps fp → (∀ k ∈ fp, w'.heap[k]? = w.heap[k]?) → SlF w' ps fp
  | [], _, h, _ => h
  | p :: ps, _, ⟨f1, f2, e, h1, h2⟩, hm => ⟨f1, f2, e, p.mv h1 (fun k hk => hm k (by rw [e]; exact List.mem_append_left _ hk)), SlF.mv h2 (fun k hk => hm k (by rw [e]; exact List.mem_append_right _ hk))⟩
theorem SlF.lt : ∀ {ps : List Pc} {fp : List Nat}, SlF w ps fp → ∀ k ∈ fp, k < w.heap.size
  | [], _, h, k, hk => by rw [h] at hk; cases hk
  | p :: ps, _, ⟨f1, f2, e, h1, h2⟩, k, hk => by
    rw [e] at hk
    rcases List.mem_append.1 hk with hk | hk
    · exact p.lt h1 k hk
    · exact SlF.lt h2 k hk
theorem SlF.app : ∀ {ps : List Pc} {f g : List Nat}, SlF w ps f → SlF w qs g → SlF w (ps ++ qs) (f ++ g)
  | [], _, _, h, h2 => by rw [h]; exact h2
  | p :: ps, _, g, ⟨f1, f2, e, h1, h2⟩, h3 => ⟨f1, f2 ++ g, by rw [e, List.append_assoc], h1, SlF.app h2 h3⟩
theorem SlF.take : ∀ {ps : List Pc} {f : List Nat} (n : Nat), SlF w ps f → ∃ g, SlF w (ps.take n) g ∧ List.Sublist g f
  | ps, f, 0, h => ⟨[], rfl, List.nil_sublist _⟩
  | [], _, n + 1, h => ⟨[], rfl, List.nil_sublist _⟩
  | p :: ps, _, n + 1, ⟨f1, f2, e, h1, h2⟩ => by
    obtain ⟨g, h3, h4⟩ := SlF.take n h2
    exact ⟨f1 ++ g, ⟨f1, g, rfl, h1, h3⟩, by rw [e]; exact List.Sublist.append_left h4 _⟩
theorem SlF.at_ : ∀ {ps : List Pc} {i : Nat} {fp : List Nat}, SlF w ps fp → ps[i]? = some p →
    ∃ f fr, p.P w f ∧ fp.Perm (f ++ fr) ∧ ∀ (w' : World) (q : Pc) (f' : List Nat), (∀ k ∈ fr, w'.heap[k]? = w.heap[k]?) → q.P w' f' → ∃ fp', SlF w' (ps.set i q) fp' ∧ fp'.Perm (f' ++ fr)
  | [], i, _, _, h => by cases i <;> cases h
  | r :: ps, 0, _, ⟨f1, f2, e, h1, h2⟩, h => by
    obtain rfl := Option.some.inj h
    exact ⟨f1, f2, h1, by rw [e], fun w' q f' hk hq => ⟨f' ++ f2, ⟨f', f2, rfl, hq, SlF.mv h2 hk⟩, List.Perm.refl _⟩⟩
  | r :: ps, i + 1, _, ⟨f1, f2, e, h1, h2⟩, h => by
    obtain ⟨f, fr, h3, h4, h5⟩ := SlF.at_ h2 (by simpa using h)
    refine ⟨f, f1 ++ fr, h3, ?_, fun w' q f' hk hq => ?_⟩
    · rw [e]
      exact (List.Perm.append_left f1 h4).trans (by rw [← List.append_assoc, ← List.append_assoc]; exact List.Perm.append_right fr List.perm_append_comm)
    · obtain ⟨g, h6, h7⟩ := h5 w' q f' (fun k hk' => hk k (List.mem_append_right _ hk')) hq
      refine ⟨f1 ++ g, ⟨f1, g, rfl, r.mv h1 (fun k hk' => hk k (List.mem_append_left _ hk')), h6⟩, ?_⟩
      exact (List.Perm.append_left f1 h7).trans (by rw [← List.append_assoc, ← List.append_assoc]; exact List.Perm.append_right fr List.perm_append_comm)
theorem Sl.start (w : World) : Sl w w [] := ⟨Below.refl _ _, [], rfl, List.nodup_nil, fun k hk => by cases hk⟩
theorem Sl.only (H : Sl w0 w ps) (hb : Below w.heap.size w w') : Sl w0 w' ps := by
  obtain ⟨fp, h1, h2, h3⟩ := H.own
  exact ⟨below_then H.bel H.bel.size hb, fp, SlF.mv h1 (fun k hk => hb.block k (SlF.lt h1 k hk)), h2, h3⟩
theorem Sl.drew (H : Sl w0 w ps) : Sl w0 w.drew ps := H.only (below_drew1 (Below.refl _ _))
theorem Sl.call (H : Sl w0 w ps) (K : Sl w w' qs) : Sl w0 w' (ps ++ qs) := by
  obtain ⟨fp, h1, h2, h3⟩ := H.own
  obtain ⟨gp, g1, g2, g3⟩ := K.own
  refine ⟨below_then H.bel H.bel.size K.bel, fp ++ gp, SlF.app (SlF.mv h1 (fun k hk => K.bel.block k (SlF.lt h1 k hk))) g1, List.nodup_append.2 ⟨h2, g2, fun a ha b hb e => ?_⟩, fun k hk => ?_⟩
  · have := SlF.lt h1 a ha
    have := g3 b hb
    omega
  · rcases List.mem_append.1 hk with hk | hk
    · exact h3 k hk
    · exact Nat.le_trans H.bel.size (g3 k hk)
theorem Sl.pre (H : Sl w0 w ps) (n : Nat) : Sl w0 w (ps.take n) := by
  obtain ⟨fp, h1, h2, h3⟩ := H.own
  obtain ⟨g, h4, h5⟩ := SlF.take n h1
  exact ⟨H.bel, g, h4, h2.sublist h5, fun k hk => h3 k (h5.subset hk)⟩
theorem Sl.opn (H : Sl w0 w ps) (i : Nat) (hi : ps[i]? = some p) : ∃ f, p.P w f ∧ f.Nodup ∧ (∀ k ∈ f, w0.heap.size ≤ k) ∧ ∀ (w' : World) (q : Pc) (f' : List Nat), Below w0.heap.size w0 w' → q.P w' f' → f'.Nodup → (∀ k ∈ f', k ∈ f ∨ w.heap.size ≤ k) → (∀ k, k < w.heap.size → k ∉ f → w'.heap[k]? = w.heap[k]?) → Sl w0 w' (ps.set i q) := by
  obtain ⟨fp, h1, h2, h3⟩ := H.own
  obtain ⟨f, fr, h4, h5, h6⟩ := SlF.at_ h1 hi
  have hn := (List.Perm.nodup_iff h5).1 h2
  obtain ⟨n1, n2, n3⟩ := List.nodup_append.1 hn
  have hlt : ∀ k ∈ fr, k < w.heap.size := fun k hk => SlF.lt h1 k (h5.mem_iff.2 (List.mem_append_right _ hk))
  refine ⟨f, h4, n1, fun k hk => h3 k (h5.mem_iff.2 (List.mem_append_left _ hk)), fun w' q f' hb hq hd hf hk => ?_⟩
  obtain ⟨gp, g1, g2⟩ := h6 w' q f' (fun k hkr => hk k (hlt k hkr) (fun hkf => n3 k hkf k hkr rfl)) hq
  refine ⟨hb, gp, g1, (List.Perm.nodup_iff g2).2 (List.nodup_append.2 ⟨hd, n2, fun a ha b hb' e => ?_⟩), fun k hk' => ?_⟩
  · subst e
    rcases hf a ha with hf | hf
    · exact n3 a hf a hb' rfl
    · exact absurd (hlt a hb') (by omega)
  · rcases List.mem_append.1 (g2.mem_iff.1 hk') with hk' | hk'
    · rcases hf k hk' with hf | hf
      · exact h3 k (h5.mem_iff.2 (List.mem_append_left _ hf))
      · exact Nat.le_trans H.bel.size hf
    · exact h3 k (h5.mem_iff.2 (List.mem_append_right _ hk'))
theorem Sl.upd (H : Sl w0 w ps) (i : Nat) (hi : ps[i]? = some p) (hb : Below w0.heap.size w0 w')
    (h : ∀ f, p.P w f → f.Nodup → (∀ k ∈ f, w0.heap.size ≤ k) → ∃ f', q.P w' f' ∧ f'.Nodup ∧ (∀ k ∈ f', k ∈ f ∨ w.heap.size ≤ k) ∧ ∀ k, k < w.heap.size → k ∉ f → w'.heap[k]? = w.heap[k]?) : Sl w0 w' (ps.set i q) := by
  obtain ⟨f, h1, h2, h3, h4⟩ := H.opn i hi
  obtain ⟨f', k1, k2, k3, k4⟩ := h f h1 h2 h3
  exact h4 w' q f' hb k1 k2 k3 k4
def emp : Pc := ⟨fun _ fp => fp = [], fun h _ => h, fun h k hk => by rw [h] at hk; cases hk⟩
theorem Sl.get (H : Sl w0 w ps) (i : Nat) (hi : ps[i]? = some p) : ∃ f, p.P w f ∧ f.Nodup ∧ ∀ k ∈ f, w0.heap.size ≤ k := by
  obtain ⟨fp, h1, h2, h3⟩ := H.own
  obtain ⟨f, fr, h4, h5, _⟩ := SlF.at_ h1 hi
  exact ⟨f, h4, (List.nodup_append.1 ((List.Perm.nodup_iff h5).1 h2)).1, fun k hk => h3 k (h5.mem_iff.2 (List.mem_append_left _ hk))⟩
theorem Sl.drop (H : Sl w0 w ps) (i : Nat) (hi : ps[i]? = some p) : Sl w0 w (ps.set i emp) :=
  H.upd i hi H.bel (fun f hp hn _ => ⟨[], rfl, List.nodup_nil, (fun k hk => by cases hk), fun _ _ _ => rfl⟩)
theorem Sl.one (H : Sl w0 w ps) (i : Nat) (hi : ps[i]? = some p := by rfl) : Sl w0 w [p] := by
  obtain ⟨f, h1, h2, h3⟩ := H.get i hi
  exact ⟨H.bel, f ++ [], ⟨f, [], rfl, h1, rfl⟩, by simpa using h2, by simpa using h3⟩
def bx (g : Nat) (cs : Array Value) (t : TypeId) : Pc := ⟨fun w fp => fp = [g] ∧ w.heap[g]? = some (.cells cs t (0, 0)), fun ⟨e, h⟩ hm => ⟨e, (hm g (by rw [e]; exact List.mem_singleton.2 rfl)).trans h⟩, fun ⟨e, h⟩ k hk => by
  rw [e] at hk
  rw [List.mem_singleton.1 hk]
  exact blk_lt h⟩
theorem Sl.blk (H : Sl w0 w ps) (i : Nat) {g : Nat} {cs : Array Value} {t : TypeId} (hi : ps[i]? = some (bx g cs t)) : w.heap[g]? = some (.cells cs t (0, 0)) := by
  obtain ⟨f, ⟨_, h⟩, _⟩ := H.get i hi
  exact h
theorem Sl.new (H : Sl w0 w ps) (cs : Array Value) (t : TypeId) : Sl w0 (w.alloc (.cells cs t (0, 0))) (ps ++ [bx w.heap.size cs t]) :=
  H.call ⟨below_alloc (Below.refl _ _) _, [w.heap.size], ⟨[w.heap.size], [], by simp, ⟨rfl, blk_new _ _⟩, rfl⟩, by simp, by simp⟩
theorem Sl.put (H : Sl w0 w ps) (i : Nat) {g : Nat} {cs : Array Value} {t : TypeId} (hi : ps[i]? = some (bx g cs t)) (j : Nat) (u : Value) : Sl w0 (w.setCell ⟨g, j, none⟩ u) (ps.set i (bx g (cs.setIfInBounds j u) t)) := by
  obtain ⟨f, ⟨e, h⟩, _, hg⟩ := H.get i hi
  refine H.upd i hi (below_set H.bel (hg g (by rw [e]; exact List.mem_singleton.2 rfl))) (fun f hp hn _ => ⟨[g], ⟨rfl, blk_set h j u⟩, by simp, fun k hk => Or.inl (by rw [hp.1]; exact hk), fun k _ hk => Below.heap_setCell w ⟨g, j, none⟩ u k (fun e => hk (by rw [hp.1, e]; exact List.mem_singleton.2 rfl))⟩)
theorem Sl.f1 (H : Sl w0 w ps) (i : Nat) {g : Nat} {x : Value} {t : TypeId} (hi : ps[i]? = some (bx g #[x] t) := by rfl) : w.cell? ⟨g, 0, none⟩ = some x ∧ w.frozen? ⟨g, 0, none⟩ = false := by
  have h := H.blk i hi
  exact ⟨blk_cell h 0, blk_frozen h 0⟩
theorem Sl.f2 (H : Sl w0 w ps) (i : Nat) {g : Nat} {x y : Value} {t : TypeId} (hi : ps[i]? = some (bx g #[x, y] t) := by rfl) : (w.cell? ⟨g, 0, none⟩ = some x ∧ w.frozen? ⟨g, 0, none⟩ = false) ∧ w.cell? ⟨g, 1, none⟩ = some y ∧ w.frozen? ⟨g, 1, none⟩ = false := by
  have h := H.blk i hi
  exact ⟨⟨blk_cell h 0, blk_frozen h 0⟩, blk_cell h 1, blk_frozen h 1⟩
theorem Sl.f3 (H : Sl w0 w ps) (i : Nat) {g : Nat} {x y z : Value} {t : TypeId} (hi : ps[i]? = some (bx g #[x, y, z] t) := by rfl) : (w.cell? ⟨g, 0, none⟩ = some x ∧ w.frozen? ⟨g, 0, none⟩ = false) ∧ (w.cell? ⟨g, 1, none⟩ = some y ∧ w.frozen? ⟨g, 1, none⟩ = false) ∧ w.cell? ⟨g, 2, none⟩ = some z ∧ w.frozen? ⟨g, 2, none⟩ = false := by
  have h := H.blk i hi
  exact ⟨⟨blk_cell h 0, blk_frozen h 0⟩, ⟨blk_cell h 1, blk_frozen h 1⟩, blk_cell h 2, blk_frozen h 2⟩
theorem sb_ {w w' : World} {p q : Prop} (hb : Below w.heap.size w w') (h : p) (c : Below w.heap.size w w' → p → q := by intro hb_ h_; (repeat (refine And.intro (pw_cell_below hb_ h_.1) ?_; replace h_ := h_.2)); exact pw_cell_below hb_ h_) : q := c hb h
end
section
variable {P : Program} {ops : Array Oper} {rest : List Oper} {o : Oper} {a : Act} {Q : Exit → Act → World → Prop} {Kc : Act → World → Prop} {w0 W : World} {ps : List Pc}
theorem nw_ (H : Sl w0 W ps) (N : Tmp) (cs : Array Value) (t : TypeId) (hd : o.dst = some N)
    (h : ∀ g w1, Sl w0 w1 (ps ++ [bx g cs t]) → wpList P ops Q rest (a.put o.dst (.pointer (some ⟨g, 0, none⟩))) w1) (hgd : o.guard = none := by rfl)
    (hrun : (execOp a.eval o).run P W = .ok (.value (.pointer (some ⟨W.heap.size, 0, none⟩))) (W.alloc (.cells cs t (0, 0))) := by first | (go_simp; done) | (go_simp; rfl)) : wpList P ops Q (o :: rest) a W :=
  Kd.event_run hgd hrun (h _ _ (H.new cs t))
end
end Go.Proofs.Ytogamkblkoobkaa
end
section
namespace Go.Proofs.Ytogamkblkoobkaa
open Go.RowKit Go.Shelf Go.Proofs.Ytogamkblkoobkaa.P Go.Proofs.YtogamkblkoobkaaW.PrintWords Go.Proofs.YtogamkblkoobkaaW.PrintLast Go.Proofs.YtogamkblkoobkaaW.PrintMore
set_option linter.unusedVariables false
theorem lt_same {w w' : World} {k : Nat} (h : k < w.heap.size) (e : w'.heap[k]? = w.heap[k]?) : k < w'.heap.size := by
  rw [Array.getElem?_eq_getElem h] at e
  exact (Array.getElem?_eq_some_iff.1 e).1
def rwP {α : Type} (d : Kd α) (e : Nat) (v : Value) (xs : List α) : Pc := ⟨fun w fp => Kd.R d e w 0 (fun k => k ∈ fp) v xs ∧ ∀ k ∈ fp, k < w.heap.size,
  fun ⟨h, hl⟩ hm => ⟨Kd.R_step h (fun k hk _ => hm k hk), fun k hk => lt_same (hl k hk) (hm k hk)⟩, fun ⟨_, hl⟩ => hl⟩
section
variable {w0 w w1 : World} {ps : List Pc} {α : Type} {d : Kd α} {e e' : Nat} {ok : Nat → Prop} {v u : Value} {xs S : List α} {M : List (List α)}
theorem Sl.newR (H : Sl w0 w ps) (hb : Below w.heap.size w w1) (ho : Kd.R d e w1 w.heap.size ok v xs) : Sl w0 w1 (ps ++ [rwP d e v xs]) := by
  have hs := hb.size
  refine H.call ⟨hb, List.range' w.heap.size (w1.heap.size - w.heap.size) ++ [], ⟨_, [], rfl, ⟨Kd.R_lower (Kd.R_mono (Kd.R_bound ho) (fun k hk => ?_)) (Nat.zero_le _), fun k hk => ?_⟩, rfl⟩, ?_, fun k hk => ?_⟩
  · rw [List.mem_range'_1]
    have := hk.2.1
    have := hk.2.2.1
    omega
  · rw [List.mem_range'_1] at hk
    omega
  · rw [List.append_nil]; exact List.nodup_range'
  · rw [List.append_nil, List.mem_range'_1] at hk
    exact hk.1
theorem Sl.rd (H : Sl w0 w ps) (i : Nat) (hi : ps[i]? = some (rwP d e v xs) := by rfl) (hM : ∀ w ok x cs, d.M w 0 ok x cs → d.M w w0.heap.size ok x cs := by exact fun _ _ _ _ h => h) : Kd.R d e w w0.heap.size (fun _ => True) v xs ∧ ∃ A c, v = .slice A xs.length c ∧ xs.length ≤ c ∧ Kd.C d w A xs.length xs := by
  obtain ⟨f, ⟨h, hl⟩, hn, hg⟩ := H.get i hi
  have hr := Kd.R_reads h
  refine ⟨Kd.R_mono (?_ : Kd.R d e w w0.heap.size (fun k => k ∈ f) v xs) (fun _ _ => trivial), hr⟩
  exact Kd.R_raise hM h (fun k hk => hg k (h.1 k hk))
theorem Sl.rd_c {A : Option Addr} {n c : Nat} (H : Sl w0 w ps) (i : Nat) (hi : ps[i]? = some (rwP d e (.slice A n c) xs) := by rfl) : Kd.C d w A xs.length xs := by
  obtain ⟨f, ⟨h, hl⟩, hn, hg⟩ := H.get i hi
  exact (Kd.R_reads' h).2.2
theorem Sl.grown {q : Pc} {f : List Nat} {row : Option Nat} {i : Nat} (hb : ∀ k ∈ f, w0.heap.size ≤ k) (hn : f.Nodup) (hlt : ∀ k ∈ f, k < w.heap.size) (B : Below w0.heap.size w0 w) (hback : ∀ (w' : World) (q : Pc) (f' : List Nat), Below w0.heap.size w0 w' → q.P w' f' → f'.Nodup → (∀ k ∈ f', k ∈ f ∨ w.heap.size ≤ k) → (∀ k, k < w.heap.size → k ∉ f → w'.heap[k]? = w.heap[k]?) → Sl w0 w' (ps.set i q))
    (hg : w.grownBy w1 row) (hr : ∀ k, row = some k → k ∈ f) (hq : q.P w1 (f ++ List.range' w.heap.size (w1.heap.size - w.heap.size))) : Sl w0 w1 (ps.set i q) := by
  refine hback w1 q _ (B.grown hg B.size (fun k hk => hb k (hr k hk))) hq (List.nodup_append.2 ⟨hn, List.nodup_range', fun a ha b hb' e => ?_⟩) (fun k hk => ?_) (fun k hk hkf => hg.block k hk (fun e => hkf (hr k e.symm)))
  · rw [List.mem_range'_1] at hb'
    have := hlt a ha
    omega
  · rcases List.mem_append.1 hk with hk | hk
    · exact Or.inl hk
    · rw [List.mem_range'_1] at hk
      exact Or.inr hk.1
end
section
variable {P : Program} {ops : Array Oper} {rest : List Oper} {o : Oper} {a : Act} {Q : Exit → Act → World → Prop} {Kc : Act → World → Prop} {w0 W : World} {ps : List Pc} {α : Type} {d : Kd α} {e e' : TypeId} {v u : Value} {xs L : List α} {M : List (List α)}
end
theorem Sl.nz {w0 w : World} {ps qs : List Pc} (H : Sl w0 w ps) (e : ps = qs := by simp only [List.cons_append, List.nil_append, List.set_cons_zero, List.set_cons_succ]; rfl) : Sl w0 w qs := e ▸ H
end Go.Proofs.Ytogamkblkoobkaa
end
section
namespace Go.Proofs.Ytogamkblkoobkaa.P
open Go.RowKit Go.Proofs.YtogamkblkoobkaaW.PrintWords Go.Proofs.YtogamkblkoobkaaW.PrintLast Go.Proofs.YtogamkblkoobkaaW.PrintMore
attribute [local go_sem] max2_int min2_int max_two min_two max_three min_three max_four min_four
set_option linter.unusedVariables false
set_option linter.unusedSimpArgs false
end Go.Proofs.Ytogamkblkoobkaa.P
end
section
namespace Go.Proofs.Ytogamkblkoobkaa
open Go.RowKit Go.Shelf Go.Proofs.Ytogamkblkoobkaa.P Go.Proofs.Ytogamkblkoobkaa.Wk Go.Proofs.YtogamkblkoobkaaW.PrintWords Go.Proofs.YtogamkblkoobkaaW.PrintLast Go.Proofs.YtogamkblkoobkaaW.PrintMore
set_option linter.unusedVariables false
def dvP (b : Nat) (v0 v1 : Value) (xs : List Bool) (xss : List (List Int)) : Pc := ⟨fun w fp => Kd.R Kd.bool 4 w b (fun k => k ∈ fp) v0 xs ∧ Kd.S (Kd.slice 3 (Kd.int .i64)) 67 w b (fun k => k ∈ fp) v1 xss ∧ ∀ k ∈ fp, k < w.heap.size,
  fun ⟨h, g, hl⟩ hm => ⟨Kd.R_step h (fun k hk _ => hm k hk), Kd.S_step g (fun k hk _ => hm k hk), fun k hk => lt_same (hl k hk) (hm k hk)⟩, fun ⟨_, _, hl⟩ => hl⟩
section
variable {w0 w w1 : World} {ps : List Pc} {ok0 ok1 : Nat → Prop} {v0 v1 : Value} {xs : List Bool} {xss : List (List Int)} {b : Nat}
theorem Sl.newD (H : Sl w0 w ps) (hb : Below w.heap.size w w1) (h0 : Kd.R Kd.bool 4 w1 w.heap.size ok0 v0 xs) (h1 : Kd.S (Kd.slice 3 (Kd.int .i64)) 67 w1 w.heap.size ok1 v1 xss) : Sl w0 w1 (ps ++ [dvP w0.heap.size v0 v1 xs xss]) := by
  have hs := hb.size
  have hin : ∀ k, w.heap.size ≤ k → k < w1.heap.size → k ∈ List.range' w.heap.size (w1.heap.size - w.heap.size) := fun k h1 h2 => by
    rw [List.mem_range'_1]
    omega
  refine H.call ⟨hb, List.range' w.heap.size (w1.heap.size - w.heap.size) ++ [], ⟨_, [], rfl, ⟨Kd.R_lower (Kd.R_mono (Kd.R_bound h0) (fun k hk => hin k hk.2.1 hk.2.2.1)) H.bel.size, Kd.S_lower (Kd.S_mono (Kd.S_bound h1) (fun k hk => hin k hk.2.1 hk.2.2.1)) H.bel.size, fun k hk => ?_⟩, rfl⟩, ?_, fun k hk => ?_⟩
  · rw [List.mem_range'_1] at hk
    omega
  · rw [List.append_nil]; exact List.nodup_range'
  · rw [List.append_nil, List.mem_range'_1] at hk
    exact hk.1
theorem Sl.dv (H : Sl w0 w ps) (i : Nat) (hi : ps[i]? = some (dvP b v0 v1 xs xss) := by rfl) : ∃ A0 c0 A1 c1, v0 = .slice A0 xs.length c0 ∧ v1 = .slice A1 xss.length c1 ∧ xs.length ≤ c0 ∧ xss.length ≤ c1 := by
  obtain ⟨f, ⟨h, g, hl⟩, hn, hg⟩ := H.get i hi
  obtain ⟨A0, c0, e0, h0, _⟩ := Kd.R_reads h
  obtain ⟨A1, c1, e1, h1, _⟩ := Kd.S_reads g
  exact ⟨A0, c0, A1, c1, e0, e1, h0, h1⟩
theorem Sl.dv0 {A : Option Addr} {n c : Nat} (H : Sl w0 w ps) (i : Nat) (hi : ps[i]? = some (dvP b (.slice A n c) v1 xs xss) := by rfl) : Kd.C Kd.bool w A xs.length xs := by
  obtain ⟨f, ⟨h, g, hl⟩, hn, hg⟩ := H.get i hi
  exact (Kd.R_reads' h).2.2
theorem Sl.dv1 {A : Option Addr} {n c : Nat} (H : Sl w0 w ps) (i : Nat) (hi : ps[i]? = some (dvP b v0 (.slice A n c) xs xss) := by rfl) : Kd.C (Kd.slice 3 (Kd.int .i64)) w A xss.length xss := by
  obtain ⟨f, ⟨h, g, hl⟩, hn, hg⟩ := H.get i hi
  exact (Kd.S_reads' g).2.2
end
section
variable {P : Program} {ops : Array Oper} {rest : List Oper} {o : Oper} {a : Act} {Q : Exit → Act → World → Prop} {w0 W : World} {ps : List Pc}
theorem p2_ (H : Sl w0 W ps) (p : Tmp) (i : Nat) {g : Nat} {x y x' y' : Value} {t t' : TypeId} {q : Operand} (ho : o.op = .store t' (.tmp p) q)
    (h : ∀ w1, Sl w0 w1 (ps.set i (bx g #[x', y'] t)) → wpList P ops Q rest a w1) (hi : ps[i]? = some (bx g #[x, y] t) := by rfl)
    (hrun : (execOp a.eval o).run P W = .ok .skip ((W.setCell ⟨g, 0, none⟩ x').setCell ⟨g, 1, none⟩ y') := by first | (go_simp; done) | (go_simp; rfl)) (hgd : o.guard = none := by rfl) (hN : o.dst = none := by rfl) : wpList P ops Q (o :: rest) a W := by
  refine wpList_plain hgd fun K hK => ?_
  unfold Oper.wp
  rw [hrun]
  show K (a.put o.dst undef) _
  rw [hN]
  have hl := (List.getElem?_eq_some_iff.1 hi).1
  have h1 := H.put i hi 0 x'
  have h2 := h1.put i (by rw [List.getElem?_set_self hl]) 1 y'
  rw [List.set_set] at h2
  exact hK _ _ (h _ h2)
end
end Go.Proofs.Ytogamkblkoobkaa
end
section
namespace Go.Proofs.Ytogamkblkoobkaa.Wu
open Go.RowKit Go.Proofs.Ytogamkblkoobkaa.P Go.Proofs.Ytogamkblkoobkaa.Pl Go.Proofs.YtogamkblkoobkaaW.PrintWords Go.Proofs.YtogamkblkoobkaaW.PrintLast Go.Proofs.YtogamkblkoobkaaW.PrintMore
set_option linter.unusedVariables false
set_option linter.unusedSimpArgs false
def pc (j : Nat) : ByteArray := (⟨#[97, 98, 99]⟩ : ByteArray).extract j (j + 1)
def three (w : ByteArray) : List ByteArray := [w ++ pc 0, w ++ pc 1, w ++ pc 2]
def longer (l : List ByteArray) : List ByteArray := l.flatMap three
def wordsN : Nat → List ByteArray
  | 0 => [⟨#[]⟩]
  | n + 1 => longer (wordsN n)
theorem len_longer (l : List ByteArray) : (longer l).length = 3 * l.length := by
  induction l with
  | nil => rfl
  | cons a t ih => simp only [longer, List.flatMap_cons, List.length_append, three, List.length_cons, List.length_nil] at ih ⊢; omega
theorem size_pc (j : Nat) (h : j < 3) : (pc j).size = 1 := by
  match j, h with
  | 0, _ => rfl
  | 1, _ => rfl
  | 2, _ => rfl
theorem size_longer {l : List ByteArray} {m : Nat} (h : ∀ w ∈ l, w.size = m) : ∀ w ∈ longer l, w.size = m + 1 := by
  intro w hw
  simp only [longer, List.mem_flatMap, three, List.mem_cons, List.not_mem_nil, or_false] at hw
  obtain ⟨x, hx, rfl | rfl | rfl⟩ := hw <;> simp only [ByteArray.size_append, h x hx] <;> rfl
theorem size_words (n : Nat) : ∀ w ∈ wordsN n, w.size = n := by
  induction n with
  | zero => intro w hw; simp only [wordsN, List.mem_singleton] at hw; subst hw; rfl
  | succ n ih => exact size_longer ih
theorem len_words (n : Nat) : (wordsN n).length = 3 ^ n := by
  induction n with
  | zero => rfl
  | succ n ih => rw [wordsN, len_longer, ih, Nat.pow_succ]; omega
theorem spec_words_l2 (n : Int) (l : List ByteArray) (r : Int) (i : Nat) (out : List ByteArray) (res : List ByteArray) (hi : i < l.length) (hsz : l[i].size ≤ 1000) (ho : out.length ≤ 1000000) (hll : l.length ≤ 1000000)
    (h : Ev (fun k => spec_WordsOfLength.l1 k n l r (out ++ three l[i]) ((i + 1 : Nat) : Int)) res) : Ev (fun k => spec_WordsOfLength.l2 k n l r out i 0) res := by
  have w0 : wrap64 ((0 : Int) + 1) = 1 := by unfold wrap64; omega
  have w1 : wrap64 ((1 : Int) + 1) = 2 := by unfold wrap64; omega
  have w2 : wrap64 ((2 : Int) + 1) = 3 := by unfold wrap64; omega
  have p0 : (⟨#[97, 98, 99]⟩ : ByteArray).extract (0 : Int).toNat (1 : Int).toNat = pc 0 := rfl
  have p1 : (⟨#[97, 98, 99]⟩ : ByteArray).extract (1 : Int).toNat (2 : Int).toNat = pc 1 := rfl
  have p2 : (⟨#[97, 98, 99]⟩ : ByteArray).extract (2 : Int).toNat (3 : Int).toNat = pc 2 := rfl
  refine next ?_
  simp only [spec_WordsOfLength.l2, if_pos (show (0 : Int) < 3 by omega), if_pos (show (0 : Int) ≤ i by omega), if_pos (show (i : Int) < (l.length : Int) by omega), if_pos (show (0 : Int) ≤ 0 by omega), w0, if_pos (show (0 : Int) ≤ 1 by omega), if_pos (show (1 : Int) ≤ 3 by omega), p0, rdOf_get _ l i hi, size_pc 0 (by omega), if_pos (show l[i].size + 1 ≤ 9223372036854775807 by omega), if_pos (show out.length < 8796093022208 by omega)]
  refine next ?_
  simp only [spec_WordsOfLength.l2, if_pos (show (1 : Int) < 3 by omega), if_pos (show (0 : Int) ≤ i by omega), if_pos (show (i : Int) < (l.length : Int) by omega), if_pos (show (0 : Int) ≤ 1 by omega), w1, if_pos (show (1 : Int) ≤ 2 by omega), if_pos (show (2 : Int) ≤ 3 by omega), p1, rdOf_get _ l i hi, size_pc 1 (by omega), if_pos (show l[i].size + 1 ≤ 9223372036854775807 by omega), List.length_append, List.length_cons, List.length_nil, if_pos (show out.length + (0 + 1) < 8796093022208 by omega)]
  refine next ?_
  simp only [spec_WordsOfLength.l2, if_pos (show (2 : Int) < 3 by omega), if_pos (show (0 : Int) ≤ i by omega), if_pos (show (i : Int) < (l.length : Int) by omega), if_pos (show (0 : Int) ≤ 2 by omega), w2, if_pos (show (2 : Int) ≤ 3 by omega), if_pos (show (3 : Int) ≤ 3 by omega), p2, rdOf_get _ l i hi, size_pc 2 (by omega), if_pos (show l[i].size + 1 ≤ 9223372036854775807 by omega), List.length_append, List.length_cons, List.length_nil, if_pos (show out.length + (0 + 1) + (0 + 1) < 8796093022208 by omega)]
  refine next ?_
  simp only [spec_WordsOfLength.l2, if_neg (show ¬ (3 : Int) < 3 by omega)]
  have e : out ++ [l[i] ++ pc 0] ++ [l[i] ++ pc 1] ++ [l[i] ++ pc 2] = out ++ three l[i] := by simp [three]
  rw [e]
  rw [up1 (by omega)]
  exact h
theorem spec_words_l1 (n : Int) (l : List ByteArray) (r : Int) (hsz : ∀ w ∈ l, w.size ≤ 1000) (hll : l.length ≤ 100000) (res : List ByteArray) (h : Ev (fun k => spec_WordsOfLength.l0 k n (longer l) (wrap64 (r + 1))) res) :
    ∀ (d i : Nat) (out : List ByteArray), i + d = l.length → out = longer (l.take i) → Ev (fun k => spec_WordsOfLength.l1 k n l r out i) res := by
  intro d
  induction d with
  | zero =>
    intro i out hd ho
    refine next ?_
    simp only [spec_WordsOfLength.l1, if_neg (show ¬ (i : Int) < (l.length : Int) by omega)]
    rw [ho, List.take_of_length_le (by omega)]
    exact h
  | succ d ih =>
    intro i out hd ho
    have hi : i < l.length := by omega
    refine next ?_
    simp only [spec_WordsOfLength.l1, if_pos (show (i : Int) < (l.length : Int) by omega)]
    refine spec_words_l2 n l r i out res hi (hsz _ (List.getElem_mem _)) (by rw [ho, len_longer, List.length_take]; omega) (by omega) ?_
    refine ih (i + 1) _ (by omega) ?_
    rw [ho, List.take_succ_eq_append_getElem hi]
    simp only [longer, List.flatMap_append, List.flatMap_cons, List.flatMap_nil, List.append_nil]
theorem spec_words_l0 (n : Nat) (hn : n ≤ 5) : ∀ (d i : Nat), i + d = n → Ev (fun k => spec_WordsOfLength.l0 k n (wordsN i) i) (wordsN n) := by
  intro d
  induction d with
  | zero =>
    intro i h
    refine next ?_
    simp only [spec_WordsOfLength.l0, if_neg (show ¬ (i : Int) < (n : Int) by omega)]
    have : i = n := by omega
    subst this
    exact Ev.now _
  | succ d ih =>
    intro i h
    have hlen : (wordsN i).length ≤ 100000 := by
      rw [len_words]
      have : 3 ^ i ≤ 3 ^ 5 := Nat.pow_le_pow_right (by omega) (by omega)
      omega
    refine next ?_
    simp only [spec_WordsOfLength.l0, if_pos (show (i : Int) < (n : Int) by omega)]
    refine spec_words_l1 n (wordsN i) i (fun w hw => by rw [size_words i w hw]; omega) hlen _ ?_ (wordsN i).length 0 [] (by omega) rfl
    rw [up1 (by omega)]
    exact ih (i + 1) (by omega)
theorem spec_words (n : Int) : Ev (fun k => spec_WordsOfLength.f k n) (if 0 ≤ n ∧ n ≤ 5 then wordsN n.toNat else []) := by
  simp only [spec_WordsOfLength.f, spec_l1In.f]
  by_cases h0 : 0 ≤ n
  · by_cases h5 : n ≤ 5
    · simp only [ge_iff_le, if_pos h0, Option.bind_some, h5, decide_true, if_true, h0, true_and]
      obtain ⟨m, rfl⟩ := Int.eq_ofNat_of_zero_le h0
      rw [Int.toNat_natCast]
      exact spec_words_l0 m (by omega) m 0 (by omega)
    · simp only [ge_iff_le, if_pos h0, Option.bind_some, h5, decide_false, if_neg Bool.false_ne_true, h0, true_and, if_false]
      exact Ev.now _
  · simp only [ge_iff_le, if_neg h0, Option.bind_some, h0, false_and, if_false, if_neg Bool.false_ne_true]
    exact Ev.now _
def upto : Nat → List ByteArray
  | 0 => wordsN 0
  | n + 1 => upto n ++ wordsN (n + 1)
def before : Nat → List ByteArray
  | 0 => []
  | n + 1 => upto n
theorem before_next (i : Nat) : before i ++ wordsN i = upto i := by cases i <;> rfl
theorem len_upto (n : Nat) (hn : n ≤ 5) : (upto n).length ≤ 1000 ∧ (before n).length ≤ 1000 := by
  match n, hn with
  | 0, _ => decide +kernel
  | 1, _ => decide +kernel
  | 2, _ => decide +kernel
  | 3, _ => decide +kernel
  | 4, _ => decide +kernel
  | 5, _ => decide +kernel
theorem spec_upto_l0 (n : Int) (m : Nat) (hm : (m : Int) = min n 5) : ∀ (d i : Nat), i + d = m + 1 → Ev (fun k => spec_WordsUpTo.l0 k n (before i) i) (upto m) := by
  intro d
  induction d with
  | zero =>
    intro i h
    have e : i = m + 1 := by omega
    subst e
    refine next ?_
    by_cases h1 : ((m + 1 : Nat) : Int) ≤ n
    · simp only [spec_WordsUpTo.l0, if_pos h1, if_neg (show ¬ ((m + 1 : Nat) : Int) ≤ 5 by omega)]
      exact Ev.now _
    · simp only [spec_WordsUpTo.l0, if_neg h1]
      exact Ev.now _
  | succ d ih =>
    intro i h
    refine next ?_
    simp only [spec_WordsUpTo.l0, if_pos (show (i : Int) ≤ n by omega), if_pos (show (i : Int) ≤ 5 by omega), up1 (show i < 9223372036854775807 by omega)]
    refine Ev.bind (spec_words i) ?_
    rw [if_pos (by omega), Int.toNat_natCast]
    have hl := (len_upto i (by omega)).1
    rw [← before_next, List.length_append] at hl
    simp only [if_pos (show (before i).length + (wordsN i).length < 8796093022208 by omega), before_next]
    exact ih (i + 1) (by omega)
theorem spec_upto (n : Int) : Ev (fun k => spec_WordsUpTo.f k n) (if n < 0 then [] else upto (min n 5).toNat) := by
  simp only [spec_WordsUpTo.f]
  by_cases h : n < 0
  · rw [if_pos h]
    refine next ?_
    simp only [spec_WordsUpTo.l0, if_neg (show ¬ (0 : Int) ≤ n by omega)]
    exact Ev.now _
  · rw [if_neg h]
    exact spec_upto_l0 n (min n 5).toNat (by omega) ((min n 5).toNat + 1) 0 (by omega)
theorem lets_longer {l : List ByteArray} (h : ∀ w ∈ l, lets (bytesOf w) = true) : ∀ w ∈ longer l, lets (bytesOf w) = true := by
  intro w hw
  simp only [longer, List.mem_flatMap, three, List.mem_cons, List.not_mem_nil, or_false] at hw
  have hb : ∀ a b : ByteArray, bytesOf (a ++ b) = bytesOf a ++ bytesOf b := fun a b => by simp [bytesOf, ByteArray.data_append]
  have hp : ∀ j, j < 3 → lets (bytesOf (pc j)) = true := fun j hj => by
    match j, hj with
    | 0, _ => rfl
    | 1, _ => rfl
    | 2, _ => rfl
  have ha : ∀ a b : ByteArray, lets (bytesOf a) = true → lets (bytesOf b) = true → lets (bytesOf (a ++ b)) = true := fun a b h1 h2 => by
    rw [hb]
    unfold lets at h1 h2 ⊢
    rw [List.all_append, h1, h2]
    rfl
  obtain ⟨x, hx, rfl | rfl | rfl⟩ := hw
  · exact ha _ _ (h x hx) (hp 0 (by omega))
  · exact ha _ _ (h x hx) (hp 1 (by omega))
  · exact ha _ _ (h x hx) (hp 2 (by omega))
theorem lets_words (n : Nat) : ∀ w ∈ wordsN n, lets (bytesOf w) = true := by
  induction n with
  | zero => intro w hw; simp only [wordsN, List.mem_singleton] at hw; subst hw; rfl
  | succ n ih => exact lets_longer ih
theorem upto_words (n : Nat) : ∀ w ∈ upto n, lets (bytesOf w) = true ∧ w.size ≤ n := by
  induction n with
  | zero => intro w hw; exact ⟨lets_words 0 w hw, by rw [size_words 0 w hw]; omega⟩
  | succ n ih =>
    intro w hw
    rcases List.mem_append.mp hw with hw | hw
    · obtain ⟨h1, h2⟩ := ih w hw
      exact ⟨h1, by omega⟩
    · exact ⟨lets_words _ w hw, by rw [size_words _ w hw]; omega⟩
end Go.Proofs.Ytogamkblkoobkaa.Wu
end
section
namespace Go.Proofs.Ytogamkblkoobkaa.P
open Go.RowKit Go.Proofs.YtogamkblkoobkaaW.PrintWords Go.Proofs.YtogamkblkoobkaaW.PrintLast Go.Proofs.YtogamkblkoobkaaW.PrintMore
attribute [local go_sem] max2_int min2_int max_two min_two max_three min_three max_four min_four
set_option linter.unusedVariables false
set_option linter.unusedSimpArgs false
end Go.Proofs.Ytogamkblkoobkaa.P
end
section
namespace Go.Proofs.Ytogamkblkoobkaa.P
open Go.RowKit Go.Proofs.YtogamkblkoobkaaW.PrintWords Go.Proofs.YtogamkblkoobkaaW.PrintLast Go.Proofs.YtogamkblkoobkaaW.PrintMore
attribute [local go_sem] max2_int min2_int max_two min_two max_three min_three max_four min_four
set_option linter.unusedVariables false
set_option linter.unusedSimpArgs false
def spec_l5Ints.l0 : Nat → List Int → List Int → Int → Option (Bool)
  | 0, _, _, _ => none
  | k + 1, x0, x1, x5 => if x5 < (x0.length : Int) then (if 0 ≤ x5 then (if x5 < (x1.length : Int) then (if (rd x0 x5) = (rd x1 x5) then (spec_l5Ints.l0 k x0 x1 (wrap64 (x5 + 1))) else (some false)) else (none)) else (none)) else (some true)
def spec_l5Ints.f (k : Nat) (l0 : List Int) (l1 : List Int) : Option (Bool) := if (l0.length : Int) = (l1.length : Int) then (spec_l5Ints.l0 k l0 l1 0) else (some false)
theorem spec_l5Ints.mono_l : ∀ k, (∀ y0 y1 y2, LeO (spec_l5Ints.l0 k y0 y1 y2) (spec_l5Ints.l0 (k + 1) y0 y1 y2))
  | 0 => fun _ _ _ r h => by simp [spec_l5Ints.l0] at h
  | k + 1 => by
    have ih0 := spec_l5Ints.mono_l k
    · intro y0 y1 y2
      unfold spec_l5Ints.l0
      repeat' first
      | (with_reducible exact ih0 _ _ _)
      | (with_reducible exact LeO.refl _)
      | (with_reducible exact LeO.none _)
      | (with_reducible refine LeO.ite ?_ ?_)
      | (with_reducible refine LeO.bind ?_ (fun _ => ?_))
      | exact ih0 _ _ _
      | exact LeO.none _
      | refine LeO.ite ?_ ?_
      | refine LeO.bind ?_ (fun _ => ?_)
theorem spec_l5Ints.mono : ∀ a0 a1 k, LeO (spec_l5Ints.f k a0 a1) (spec_l5Ints.f (k + 1) a0 a1) := by
  intro a0 a1 k
  have ih0 := spec_l5Ints.mono_l k
  unfold spec_l5Ints.f
  repeat' first
      | (with_reducible exact ih0 _ _ _)
      | (with_reducible exact LeO.refl _)
      | (with_reducible exact LeO.none _)
      | (with_reducible refine LeO.ite ?_ ?_)
      | (with_reducible refine LeO.bind ?_ (fun _ => ?_))
      | exact ih0 _ _ _
      | exact LeO.none _
      | refine LeO.ite ?_ ?_
      | refine LeO.bind ?_ (fun _ => ?_)
set_option maxHeartbeats 8000000 in
set_option maxRecDepth 100000 in
theorem spec_l5Ints.calls (k : Nat) (A0 : Option Addr) (c0 : Nat) (l0 : List Int) (A1 : Option Addr) (c1 : Nat) (l1 : List Int) (r : Bool) (w : World) (hr0 : Kd.C (Kd.int .i64) w A0 l0.length l0) (hc0 : l0.length ≤ c0) (hr1 : Kd.C (Kd.int .i64) w A1 l1.length l1) (hc1 : l1.length ≤ c1) (h : spec_l5Ints.f k l0 l1 = some r) :
    Calls Try.prog 93 #[.slice A0 l0.length c0, .slice A1 l1.length c1] w fun e w' => e = .returned (.bool r) ∧ Drawn0 w w' := by
  have HR0 := am_ hr0
  have HC0 := am_ hc0
  clear hr0 hc0
  have HR1 := am_ hr1
  have HC1 := am_ hc1
  clear hr1 hc1
  have H : (if (l0.length : Int) = (l1.length : Int) then (spec_l5Ints.l0 k l0 l1 0) else (some false)) = some r := h
  clear h
  by_cases c3 : (l0.length : Int) = (l1.length : Int)
  · rw [if_pos c3] at H
    have c3b0 : ((l0.length : Int) == (l1.length : Int)) = true := beq_iff_eq.mpr c3
    have c3b1 : ((l0.length : Int) != (l1.length : Int)) = false := bne_eq_false_iff_eq.mpr c3
    have c3b2 : (l0.length == l1.length) = true := by first | simpa using c3 | (simp at c3 ⊢; omega)
    clear c3
    have H' := am_ H
    clear H
    go_enter Try.func93, Try.ntmps93
    go_wp2
    repeat (go_quiet (fail); try go_wp2)
    go_loopg [5] k (fun kq v5 w' => ∃ (aa : Int), v5 = .int .i64 aa ∧ Aside0 (spec_l5Ints.l0 kq l0 l1 aa = some r) ∧ Aside0 (kq ≤ k) ∧ Drawn0 w w')
    case atStart => exact ⟨(0), (by first | rfl | (simp; done) | (simp [*]; done)), H', ⟨Nat.le_refl _⟩, by repeat (first | exact Drawn0.refl _ | apply Drawn0.step)⟩
    case round =>
      clear H'
      try clear c1
      try clear p2
      try clear c3
      try clear c3b0
      try clear c3b1
      try clear c3b2
      obtain ⟨aa, rfl, HA, HK1, ⟨m1, rfl⟩⟩ := hrel
      cases gk with
      | zero => exact absurd HA.out (by simp [spec_l5Ints.l0])
      | succ k1 =>
        have H := HA.out
        clear HA
        simp only [spec_l5Ints.l0] at H
        by_cases c4 : aa < (l0.length : Int)
        · rw [if_pos c4] at H
          have c4b0 : decide (aa < (l0.length : Int)) = true := decide_eq_true c4
          clear c4
          by_cases c5 : 0 ≤ aa
          · rw [if_pos c5] at H
            have c5b0 : decide (0 ≤ aa) = true := decide_eq_true c5
            clear c5
            by_cases c6 : aa < (l1.length : Int)
            · rw [if_pos c6] at H
              have c6b0 : decide (aa < (l1.length : Int)) = true := decide_eq_true c6
              clear c6
              by_cases c7 : (rd l0 aa) = (rd l1 aa)
              · rw [if_pos c7] at H
                have c7b0 : ((rd l0 aa) == (rd l1 aa)) = true := beq_iff_eq.mpr c7
                have c7b1 : ((rd l0 aa) != (rd l1 aa)) = false := bne_eq_false_iff_eq.mpr c7
                clear c7
                have H' := am_ H
                clear H
                have p400 : 0 ≤ (aa : Int) := of_decide_eq_true ah_
                have q400 : aa < (l0.length : Int) := of_decide_eq_true ah_
                obtain ⟨bF, e400, bk⟩ := Kd.at_int HR0.out aa p400 q400
                cases e400
                replace p400 := eq_true p400
                replace q400 := eq_true q400
                have p401 : 0 ≤ (aa : Int) := of_decide_eq_true ah_
                have q401 : aa < (l1.length : Int) := of_decide_eq_true ah_
                obtain ⟨bG, e401, bm⟩ := Kd.at_int HR1.out aa p401 q401
                cases e401
                replace p401 := eq_true p401
                replace q401 := eq_true q401
                go_wp2
                repeat (go_quiet (fail); try go_wp2)
                go_roundg k1
                case measure => have := HK1.out; omega
                case rel => exact ⟨(wrap64 (aa + 1)), (by first | rfl | (simp; done) | (simp [*]; done)), H', ⟨by have := HK1.out; omega⟩, by repeat (first | exact Drawn0.refl _ | apply Drawn0.step)⟩
              · rw [if_neg c7] at H
                have c7b0 : ((rd l0 aa) == (rd l1 aa)) = false := beq_eq_false_iff_ne.mpr c7
                have c7b1 : ((rd l0 aa) != (rd l1 aa)) = true := bne_iff_ne.mpr c7
                obtain rfl := Option.some.inj H
                simp only [Option.some.injEq, Prod.mk.injEq] at H
                obtain ⟨rfl⟩ := H
                have p400 : 0 ≤ (aa : Int) := of_decide_eq_true ah_
                have q400 : aa < (l0.length : Int) := of_decide_eq_true ah_
                obtain ⟨bF, e400, bk⟩ := Kd.at_int HR0.out aa p400 q400
                cases e400
                replace p400 := eq_true p400
                replace q400 := eq_true q400
                have p401 : 0 ≤ (aa : Int) := of_decide_eq_true ah_
                have q401 : aa < (l1.length : Int) := of_decide_eq_true ah_
                obtain ⟨bG, e401, bm⟩ := Kd.at_int HR1.out aa p401 q401
                cases e401
                replace p401 := eq_true p401
                replace q401 := eq_true q401
                go_wp2
                repeat (go_quiet (fail); try go_wp2)
                go_ret
                exact ⟨by first | rfl | (simp; done) | (simp [*]; done), by repeat (first | exact Drawn0.refl _ | apply Drawn0.step)⟩
            · rw [if_neg c6] at H
              exact absurd H (by simp)
          · rw [if_neg c5] at H
            exact absurd H (by simp)
        · rw [if_neg c4] at H
          have c4b0 : decide (aa < (l0.length : Int)) = false := decide_eq_false c4
          clear c4
          obtain rfl := Option.some.inj H
          simp only [Option.some.injEq, Prod.mk.injEq] at H
          obtain ⟨rfl⟩ := H
          go_wp2
          repeat (go_quiet (fail); try go_wp2)
          go_ret
          exact ⟨by first | rfl | (simp; done) | (simp [*]; done), by repeat (first | exact Drawn0.refl _ | apply Drawn0.step)⟩
  · rw [if_neg c3] at H
    have c3b0 : ((l0.length : Int) == (l1.length : Int)) = false := beq_eq_false_iff_ne.mpr c3
    have c3b1 : ((l0.length : Int) != (l1.length : Int)) = true := bne_iff_ne.mpr c3
    have c3b2 : (l0.length == l1.length) = false := by first | simpa using c3 | (simp at c3 ⊢; omega)
    obtain rfl := Option.some.inj H
    simp only [Option.some.injEq, Prod.mk.injEq] at H
    obtain ⟨rfl⟩ := H
    go_enter Try.func93, Try.ntmps93
    go_wp2
    repeat (go_quiet (fail); try go_wp2)
    go_ret
    exact ⟨by first | rfl | (simp; done) | (simp [*]; done), by repeat (first | exact Drawn0.refl _ | apply Drawn0.step)⟩
end Go.Proofs.Ytogamkblkoobkaa.P
end
section
namespace Go.Proofs.Ytogamkblkoobkaa.Pl
open Go.RowKit Go.Proofs.Ytogamkblkoobkaa.P Go.Proofs.YtogamkblkoobkaaW.PrintWords Go.Proofs.YtogamkblkoobkaaW.PrintLast Go.Proofs.YtogamkblkoobkaaW.PrintMore Wk Rk
set_option linter.unusedVariables false
set_option linter.unusedSimpArgs false
theorem spec_ints_l0 (a b : List Int) (hl : a.length = b.length) (hn : a.length ≤ 1048576) : ∀ d i : Nat, i + d = a.length → Ev (fun k => spec_l5Ints.l0 k a b i) (decide (a.drop i = b.drop i)) := by
  intro d
  induction d with
  | zero =>
    intro i h
    refine next ?_
    simp only [spec_l5Ints.l0, if_neg (show ¬ (i : Int) < (a.length : Int) by omega)]
    exact ev_some (by rw [List.drop_eq_nil_of_le (by omega), List.drop_eq_nil_of_le (by omega)]; simp)
  | succ d ih =>
    intro i h
    refine next ?_
    have ha : i < a.length := by omega
    have hb : i < b.length := by omega
    have e : (a.drop i = b.drop i) ↔ (a[i] = b[i] ∧ a.drop (i + 1) = b.drop (i + 1)) := by
      rw [List.drop_eq_getElem_cons ha, List.drop_eq_getElem_cons hb]
      exact List.cons_eq_cons
    simp only [spec_l5Ints.l0, if_pos (show (i : Int) < (a.length : Int) by omega), if_pos (show (0 : Int) ≤ i by omega), if_pos (show (i : Int) < (b.length : Int) by omega), rd_get a i ha, rd_get b i hb]
    by_cases he : a[i] = b[i]
    · simp only [if_pos he, up1 (show i < 9223372036854775807 by omega)]
      exact ev_eq (ih (i + 1) (by omega)) (decide_eq_decide.mpr (by rw [e]; exact ⟨fun x => ⟨he, x⟩, fun x => x.2⟩))
    · simp only [if_neg he]
      exact ev_some (by rw [eq_comm, decide_eq_false_iff_not, e]; exact fun x => he x.1)
theorem spec_ints (a b : List Int) (hn : a.length ≤ 1048576) : Ev (fun k => spec_l5Ints.f k a b) (decide (a = b)) := by
  simp only [spec_l5Ints.f]
  by_cases h : a.length = b.length
  · simp only [if_pos (show (a.length : Int) = (b.length : Int) by omega)]
    exact spec_ints_l0 a b h hn a.length 0 (by omega)
  · simp only [if_neg (show ¬ (a.length : Int) = (b.length : Int) by omega)]
    exact ev_some (by simp; intro e; exact h (by rw [e]))
end Go.Proofs.Ytogamkblkoobkaa.Pl
end
section
namespace Go.Proofs.Ytogamkblkoobkaa.P
open Go.RowKit Go.Proofs.YtogamkblkoobkaaW.PrintWords Go.Proofs.YtogamkblkoobkaaW.PrintLast Go.Proofs.YtogamkblkoobkaaW.PrintMore
attribute [local go_sem] max2_int min2_int max_two min_two max_three min_three max_four min_four
set_option linter.unusedVariables false
set_option linter.unusedSimpArgs false
mutual
def spec_EqualDfa.j0 : Nat → Bool → List Bool → List (List Int) → List Bool → List (List Int) → Option (Bool)
  | 0, _, _, _, _, _ => none
  | k + 1, x22, al, am, an, ao => if x22 = true then (some false) else (spec_EqualDfa.l0 k 0 al am an ao)
def spec_EqualDfa.l0 : Nat → Int → List Bool → List (List Int) → List Bool → List (List Int) → Option (Bool)
  | 0, _, _, _, _, _ => none
  | k + 1, x5, al, am, an, ao => if x5 < (al.length : Int) then (if 0 ≤ x5 then (if x5 < (an.length : Int) then (if ((rdOf false al x5) != (rdOf false an x5)) = true then (some false) else (spec_EqualDfa.l0 k (wrap64 (x5 + 1)) al am an ao)) else (none)) else (none)) else (spec_EqualDfa.l1 k 0 al am an ao)
def spec_EqualDfa.l1 : Nat → Int → List Bool → List (List Int) → List Bool → List (List Int) → Option (Bool)
  | 0, _, _, _, _, _ => none
  | k + 1, x6, al, am, an, ao => if x6 < (am.length : Int) then (if 0 ≤ x6 then (if x6 < (ao.length : Int) then ((spec_l5Ints.f k (rd_L1 am x6) (rd_L1 ao x6)).bind fun aQ => (if aQ = true then (spec_EqualDfa.l1 k (wrap64 (x6 + 1)) al am an ao) else (some false))) else (none)) else (none)) else (some true)
end
def spec_EqualDfa.f (k : Nat) (l0_0 : List Bool) (l0_1 : List (List Int)) (l1_0 : List Bool) (l1_1 : List (List Int)) : Option (Bool) := if (l0_0.length : Int) = (l1_0.length : Int) then (spec_EqualDfa.j0 k ((l0_1.length : Int) != (l1_1.length : Int)) l0_0 l0_1 l1_0 l1_1) else (spec_EqualDfa.j0 k true l0_0 l0_1 l1_0 l1_1)
theorem spec_EqualDfa.mono_l : ∀ k, (∀ y0 y1 y2 y3 y4, LeO (spec_EqualDfa.j0 k y0 y1 y2 y3 y4) (spec_EqualDfa.j0 (k + 1) y0 y1 y2 y3 y4)) ∧ (∀ y0 y1 y2 y3 y4, LeO (spec_EqualDfa.l0 k y0 y1 y2 y3 y4) (spec_EqualDfa.l0 (k + 1) y0 y1 y2 y3 y4)) ∧ (∀ y0 y1 y2 y3 y4, LeO (spec_EqualDfa.l1 k y0 y1 y2 y3 y4) (spec_EqualDfa.l1 (k + 1) y0 y1 y2 y3 y4))
 | 0 => ⟨fun _ _ _ _ _ r h => by simp [spec_EqualDfa.j0] at h, fun _ _ _ _ _ r h => by simp [spec_EqualDfa.l0] at h, fun _ _ _ _ _ r h => by simp [spec_EqualDfa.l1] at h⟩
 | k + 1 => by
  obtain ⟨ih0, ih1, ih2⟩ := spec_EqualDfa.mono_l k
  refine ⟨?_, ?_, ?_⟩
  ·intro y0 y1 y2 y3 y4
   unfold spec_EqualDfa.j0
   repeat' first
   | (with_reducible exact ih0 _ _ _ _ _)
   | (with_reducible exact ih1 _ _ _ _ _)
   | (with_reducible exact ih2 _ _ _ _ _)
   | (with_reducible exact spec_l5Ints.mono _ _ _)
   | (with_reducible exact LeO.refl _)
   | (with_reducible exact LeO.none _)
   | (with_reducible refine LeO.ite ?_ ?_)
   | (with_reducible refine LeO.bind ?_ (fun _ => ?_))
   | exact ih0 _ _ _ _ _
   | exact ih1 _ _ _ _ _
   | exact ih2 _ _ _ _ _
   | exact spec_l5Ints.mono _ _ _
   | exact LeO.none _
   | refine LeO.ite ?_ ?_
   | refine LeO.bind ?_ (fun _ => ?_)
  ·intro y0 y1 y2 y3 y4
   unfold spec_EqualDfa.l0
   repeat' first
   | (with_reducible exact ih0 _ _ _ _ _)
   | (with_reducible exact ih1 _ _ _ _ _)
   | (with_reducible exact ih2 _ _ _ _ _)
   | (with_reducible exact spec_l5Ints.mono _ _ _)
   | (with_reducible exact LeO.refl _)
   | (with_reducible exact LeO.none _)
   | (with_reducible refine LeO.ite ?_ ?_)
   | (with_reducible refine LeO.bind ?_ (fun _ => ?_))
   | exact ih0 _ _ _ _ _
   | exact ih1 _ _ _ _ _
   | exact ih2 _ _ _ _ _
   | exact spec_l5Ints.mono _ _ _
   | exact LeO.none _
   | refine LeO.ite ?_ ?_
   | refine LeO.bind ?_ (fun _ => ?_)
  ·intro y0 y1 y2 y3 y4
   unfold spec_EqualDfa.l1
   repeat' first
   | (with_reducible exact ih0 _ _ _ _ _)
   | (with_reducible exact ih1 _ _ _ _ _)
   | (with_reducible exact ih2 _ _ _ _ _)
   | (with_reducible exact spec_l5Ints.mono _ _ _)
   | (with_reducible exact LeO.refl _)
   | (with_reducible exact LeO.none _)
   | (with_reducible refine LeO.ite ?_ ?_)
   | (with_reducible refine LeO.bind ?_ (fun _ => ?_))
   | exact ih0 _ _ _ _ _
   | exact ih1 _ _ _ _ _
   | exact ih2 _ _ _ _ _
   | exact spec_l5Ints.mono _ _ _
   | exact LeO.none _
   | refine LeO.ite ?_ ?_
   | refine LeO.bind ?_ (fun _ => ?_)
theorem spec_EqualDfa.mono : ∀ a0 a1 a2 a3 k, LeO (spec_EqualDfa.f k a0 a1 a2 a3) (spec_EqualDfa.f (k + 1) a0 a1 a2 a3) := by
 intro a0 a1 a2 a3 k
 obtain ⟨ih0, ih1, ih2⟩ := spec_EqualDfa.mono_l k
 unfold spec_EqualDfa.f
 repeat' first
   | (with_reducible exact ih0 _ _ _ _ _)
   | (with_reducible exact ih1 _ _ _ _ _)
   | (with_reducible exact ih2 _ _ _ _ _)
   | (with_reducible exact spec_l5Ints.mono _ _ _)
   | (with_reducible exact LeO.refl _)
   | (with_reducible exact LeO.none _)
   | (with_reducible refine LeO.ite ?_ ?_)
   | (with_reducible refine LeO.bind ?_ (fun _ => ?_))
   | exact ih0 _ _ _ _ _
   | exact ih1 _ _ _ _ _
   | exact ih2 _ _ _ _ _
   | exact spec_l5Ints.mono _ _ _
   | exact LeO.none _
   | refine LeO.ite ?_ ?_
   | refine LeO.bind ?_ (fun _ => ?_)
theorem zp43_0_ {p q g1 g2 : Prop} (h : p) (h1 : g1) (h2 : g2) (c : p → g1 → g2 → q := by intro h_ h1_ h2_; repeat (first | (with_reducible first | exact h_ | apply below_alloc | apply pw_below_drewN | apply below_drew1 | refine below_set ?_ h1_ | refine below_set ?_ h2_) | exact h_)) : q := c h h1 h2
set_option maxHeartbeats 8000000 in
set_option maxRecDepth 100000 in
theorem spec_EqualDfa.calls (k : Nat) (A0_0 : Option Addr) (c0_0 : Nat) (l0_0 : List Bool) (A0_1 : Option Addr) (c0_1 : Nat) (l0_1 : List (List Int)) (A1_0 : Option Addr) (c1_0 : Nat) (l1_0 : List Bool) (A1_1 : Option Addr) (c1_1 : Nat) (l1_1 : List (List Int)) (r : Bool) (w : World) (hr0_0 : Kd.C Kd.bool w A0_0 l0_0.length l0_0) (hc0_0 : l0_0.length ≤ c0_0) (hr0_1 : Kd.C (Kd.slice 3 (Kd.int .i64)) w A0_1 l0_1.length l0_1) (hc0_1 : l0_1.length ≤ c0_1) (hr1_0 : Kd.C Kd.bool w A1_0 l1_0.length l1_0) (hc1_0 : l1_0.length ≤ c1_0) (hr1_1 : Kd.C (Kd.slice 3 (Kd.int .i64)) w A1_1 l1_1.length l1_1) (hc1_1 : l1_1.length ≤ c1_1) (h : spec_EqualDfa.f k l0_0 l0_1 l1_0 l1_1 = some r) :
  Calls Try.prog 32 #[.agg #[.slice A0_0 l0_0.length c0_0, .slice A0_1 l0_1.length c0_1], .agg #[.slice A1_0 l1_0.length c1_0, .slice A1_1 l1_1.length c1_1]] w fun e w' => e = .returned (.bool r) ∧ Below w.heap.size w w' := by
 have hu27 := Try.underlying27
 have aR := am_ hr0_0
 have bR := am_ hc0_0
 clear hr0_0 hc0_0
 have aS := am_ hr0_1
 have bS := am_ hc0_1
 clear hr0_1 hc0_1
 have aT := am_ hr1_0
 have bT := am_ hc1_0
 clear hr1_0 hc1_0
 have aU := am_ hr1_1
 have bU := am_ hc1_1
 clear hr1_1 hc1_1
 have HB := am_ (Below.refl w.heap.size w)
 have H : (if (l0_0.length : Int) = (l1_0.length : Int) then (spec_EqualDfa.j0 k ((l0_1.length : Int) != (l1_1.length : Int)) l0_0 l0_1 l1_0 l1_1) else (spec_EqualDfa.j0 k true l0_0 l0_1 l1_0 l1_1)) = some r := h
 clear h
 have HC3 := am_ H
 clear H
 go_enter Try.func32, Try.ntmps32
 go_upto_region 1 with (first | ((with_reducible refine gate_dst (N := 2) rfl ?_); (try (refine gate_guard (by rfl) ?_; dsimp only)); refine box_event ?hg (N := 2) ?hd (cs := #[.slice A0_0 l0_0.length c0_0, .slice A0_1 l0_1.length c0_1]) (t := 27) ?hr ?_; (case hd => rfl); (case hg => rfl); (case hr => first | (go_simp; done) | (go_simp; rfl)); intro ai hg w4 hbox hb; replace aa := am_ (hbox); replace aV := am_ ((by rw [hg]; exact (below_size (b0_ HB.out)) : w.heap.size ≤ ai)); replace af := am_ ((by rw [hg]; exact (below_size (b0_ HB.out)) : w.heap.size ≤ ai)); replace HB := am_ (below_step (b0_ HB.out) hb); clear hb hbox hg) | ((with_reducible refine gate_dst (N := 3) rfl ?_); (try (refine gate_guard (by rfl) ?_; dsimp only)); refine box_event ?hg (N := 3) ?hd (cs := #[.slice A1_0 l1_0.length c1_0, .slice A1_1 l1_1.length c1_1]) (t := 27) ?hr ?_; (case hd => rfl); (case hg => rfl); (case hr => first | (go_simp; done) | (go_simp; rfl)); intro aj hg w5 hbox hb; have n0_ := am_ (blk_below (rb_ aa.out) hb); have n1_ := am_ (below_step (b1_ HB.out af.out) hb); have n2_ := am_ (hbox); have n3_ := am_ ((by rw [hg]; exact (below_size (b1_ HB.out af.out)) : w.heap.size ≤ aj)); have n4_ := am_ ((by rw [hg]; exact (below_size (b1_ HB.out af.out)) : w.heap.size ≤ aj)); have n5_ := am_ ((by rw [hg]; exact Nat.ne_of_lt (blk_lt (rb_ aa.out)) : ai ≠ aj)); have n6_ := am_ ((by rw [hg]; exact Nat.ne_of_gt (blk_lt (rb_ aa.out)) : aj ≠ ai)); clear aa; clear HB; have aa := n0_; have HB := n1_; have ab := n2_; have aW := n3_; have ak := n4_; have ag := n5_; have ah := n6_; clear n0_ n1_ n2_ n3_ n4_ n5_ n6_; clear hb hbox hg))
 repeat (go_quiet (first | ((with_reducible refine gate_dst (N := 2) rfl ?_); (try (refine gate_guard (by rfl) ?_; dsimp only)); refine box_event ?hg (N := 2) ?hd (cs := #[.slice A0_0 l0_0.length c0_0, .slice A0_1 l0_1.length c0_1]) (t := 27) ?hr ?_; (case hd => rfl); (case hg => rfl); (case hr => first | (go_simp; done) | (go_simp; rfl)); intro ai hg w4 hbox hb; replace aa := am_ (hbox); replace aV := am_ ((by rw [hg]; exact (below_size (b0_ HB.out)) : w.heap.size ≤ ai)); replace af := am_ ((by rw [hg]; exact (below_size (b0_ HB.out)) : w.heap.size ≤ ai)); replace HB := am_ (below_step (b0_ HB.out) hb); clear hb hbox hg) | ((with_reducible refine gate_dst (N := 3) rfl ?_); (try (refine gate_guard (by rfl) ?_; dsimp only)); refine box_event ?hg (N := 3) ?hd (cs := #[.slice A1_0 l1_0.length c1_0, .slice A1_1 l1_1.length c1_1]) (t := 27) ?hr ?_; (case hd => rfl); (case hg => rfl); (case hr => first | (go_simp; done) | (go_simp; rfl)); intro aj hg w5 hbox hb; have n0_ := am_ (blk_below (rb_ aa.out) hb); have n1_ := am_ (below_step (b1_ HB.out af.out) hb); have n2_ := am_ (hbox); have n3_ := am_ ((by rw [hg]; exact (below_size (b1_ HB.out af.out)) : w.heap.size ≤ aj)); have n4_ := am_ ((by rw [hg]; exact (below_size (b1_ HB.out af.out)) : w.heap.size ≤ aj)); have n5_ := am_ ((by rw [hg]; exact Nat.ne_of_lt (blk_lt (rb_ aa.out)) : ai ≠ aj)); have n6_ := am_ ((by rw [hg]; exact Nat.ne_of_gt (blk_lt (rb_ aa.out)) : aj ≠ ai)); clear aa; clear HB; have aa := n0_; have HB := n1_; have ab := n2_; have aW := n3_; have ak := n4_; have ag := n5_; have ah := n6_; clear n0_ n1_ n2_ n3_ n4_ n5_ n6_; clear hb hbox hg)); go_upto_region 1 with (first | ((with_reducible refine gate_dst (N := 2) rfl ?_); (try (refine gate_guard (by rfl) ?_; dsimp only)); refine box_event ?hg (N := 2) ?hd (cs := #[.slice A0_0 l0_0.length c0_0, .slice A0_1 l0_1.length c0_1]) (t := 27) ?hr ?_; (case hd => rfl); (case hg => rfl); (case hr => first | (go_simp; done) | (go_simp; rfl)); intro ai hg w4 hbox hb; replace aa := am_ (hbox); replace aV := am_ ((by rw [hg]; exact (below_size (b0_ HB.out)) : w.heap.size ≤ ai)); replace af := am_ ((by rw [hg]; exact (below_size (b0_ HB.out)) : w.heap.size ≤ ai)); replace HB := am_ (below_step (b0_ HB.out) hb); clear hb hbox hg) | ((with_reducible refine gate_dst (N := 3) rfl ?_); (try (refine gate_guard (by rfl) ?_; dsimp only)); refine box_event ?hg (N := 3) ?hd (cs := #[.slice A1_0 l1_0.length c1_0, .slice A1_1 l1_1.length c1_1]) (t := 27) ?hr ?_; (case hd => rfl); (case hg => rfl); (case hr => first | (go_simp; done) | (go_simp; rfl)); intro aj hg w5 hbox hb; have n0_ := am_ (blk_below (rb_ aa.out) hb); have n1_ := am_ (below_step (b1_ HB.out af.out) hb); have n2_ := am_ (hbox); have n3_ := am_ ((by rw [hg]; exact (below_size (b1_ HB.out af.out)) : w.heap.size ≤ aj)); have n4_ := am_ ((by rw [hg]; exact (below_size (b1_ HB.out af.out)) : w.heap.size ≤ aj)); have n5_ := am_ ((by rw [hg]; exact Nat.ne_of_lt (blk_lt (rb_ aa.out)) : ai ≠ aj)); have n6_ := am_ ((by rw [hg]; exact Nat.ne_of_gt (blk_lt (rb_ aa.out)) : aj ≠ ai)); clear aa; clear HB; have aa := n0_; have HB := n1_; have ab := n2_; have aW := n3_; have ak := n4_; have ag := n5_; have ah := n6_; clear n0_ n1_ n2_ n3_ n4_ n5_ n6_; clear hb hbox hg)))
 (try simp only [Act.put, List.setIfInBounds_toArray, List.set_cons_zero, List.set_cons_succ])
 go_cut [22] (fun v22 wc => ∃ (kq : Nat) (aH : Bool), v22 = .bool aH ∧ Aside0 (spec_EqualDfa.j0 kq aH l0_0 l0_1 l1_0 l1_1 = some r) ∧ Aside0 (kq ≤ k) ∧ Aside0 (wc.heap[ai]? = some (.cells #[(.slice A0_0 l0_0.length c0_0), (.slice A0_1 l0_1.length c0_1)] 27 (0, 0))) ∧ Aside0 (wc.heap[aj]? = some (.cells #[(.slice A1_0 l1_0.length c1_0), (.slice A1_1 l1_1.length c1_1)] 27 (0, 0))) ∧ Aside0 (Below w.heap.size w wc))
 case first =>
  have H := HC3.out
  clear HC3
  by_cases c6 : (l0_0.length : Int) = (l1_0.length : Int)
  ·rw [if_pos c6] at H
   have c6b0 : ((l0_0.length : Int) == (l1_0.length : Int)) = true := beq_iff_eq.mpr c6
   have c6b1 : ((l0_0.length : Int) != (l1_0.length : Int)) = false := bne_eq_false_iff_eq.mpr c6
   have c6b2 : (l0_0.length == l1_0.length) = true := by first | simpa using c6 | (simp at c6 ⊢; omega)
   clear c6
   (first | rw [c6b0] | (simp only [i64_w, i32_w]; rw [c6b0]) | skip)
   have H' := am_ H
   clear H
   have cj := ag.out
   have ck := ah.out
   have aI := ck_ (v := (.slice A0_0 l0_0.length c0_0)) aa 0 rfl
   have aJ := ck_ (v := (.slice A0_1 l0_1.length c0_1)) aa 1 rfl
   have aK := blk_frozen aa.out 0
   have aL := blk_frozen aa.out 1
   have aM := ck_ (v := (.slice A1_0 l1_0.length c1_0)) ab 0 rfl
   have aN := ck_ (v := (.slice A1_1 l1_1.length c1_1)) ab 1 rfl
   have aO := blk_frozen ab.out 0
   have aP := blk_frozen ab.out 1
   go_wp2
   repeat (go_quiet (fail); try go_wp2)
   go_meet
   case rel => exact ⟨_, (((l0_1.length : Int) != (l1_1.length : Int))), (by first | rfl | (simp; done) | (simp [*]; done)), H', ⟨by first | omega | exact Nat.le_refl _⟩, ⟨by refine rb_ ?_; exact aa.out⟩, ⟨by refine rb_ ?_; exact ab.out⟩, ⟨by exact zp43_0_ HB.out af.out ak.out⟩⟩
  ·rw [if_neg c6] at H
   have c6b0 : ((l0_0.length : Int) == (l1_0.length : Int)) = false := beq_eq_false_iff_ne.mpr c6
   have c6b1 : ((l0_0.length : Int) != (l1_0.length : Int)) = true := bne_iff_ne.mpr c6
   have c6b2 : (l0_0.length == l1_0.length) = false := by first | simpa using c6 | (simp at c6 ⊢; omega)
   (first | rw [c6b0] | (simp only [i64_w, i32_w]; rw [c6b0]) | skip)
   have H' := am_ H
   clear H
   have bV := ag.out
   have bW := ah.out
   have az := ck_ (v := (.slice A0_0 l0_0.length c0_0)) aa 0 rfl
   have aA := ck_ (v := (.slice A0_1 l0_1.length c0_1)) aa 1 rfl
   have aB := blk_frozen aa.out 0
   have aC := blk_frozen aa.out 1
   have aD := ck_ (v := (.slice A1_0 l1_0.length c1_0)) ab 0 rfl
   have aE := ck_ (v := (.slice A1_1 l1_1.length c1_1)) ab 1 rfl
   have aF := blk_frozen ab.out 0
   have aG := blk_frozen ab.out 1
   go_wp2
   repeat (go_quiet (fail); try go_wp2)
   go_meet
   case rel => exact ⟨_, (true), (by first | rfl | (simp; done) | (simp [*]; done)), H', ⟨by first | omega | exact Nat.le_refl _⟩, ⟨by refine rb_ ?_; exact aa.out⟩, ⟨by refine rb_ ?_; exact ab.out⟩, ⟨by exact zp43_0_ HB.out af.out ak.out⟩⟩
 case rest =>
  clear HC3
  try clear c1
  try clear p2
  try clear c3
  try clear c6
  try clear c6b0
  try clear c6b1
  try clear c6b2
  try clear c7
  try clear c10
  try clear az
  try clear aA
  try clear aD
  try clear aE
  try clear aI
  try clear aJ
  try clear aM
  try clear aN
  try clear aB
  try clear aC
  try clear aF
  try clear aG
  try clear aK
  try clear aL
  try clear aO
  try clear aP
  obtain ⟨kq, aH, rfl, HA, HJ2, aa, ab, HB⟩ := hcut
  cases kq with
  | zero => exact absurd HA.out (by simp [spec_EqualDfa.j0])
  | succ kj2 =>
   have H := HA.out
   clear HA
   simp only [spec_EqualDfa.j0] at H
   by_cases c13 : aH = true
   ·subst c13
    have H1 : (some false) = some r := by rw [if_pos rfl] at H; exact H
    clear H
    have H := H1
    clear H1
    obtain rfl := Option.some.inj H
    simp only [Option.some.injEq, Prod.mk.injEq] at H
    obtain ⟨rfl⟩ := H
    go_wp2
    repeat (go_quiet (fail); try go_wp2)
    go_ret
    exact ⟨by first | rfl | (simp [errW_none, errW_some] <;> rfl) | (simp [*, errW_none, errW_some] <;> rfl), by exact zp43_0_ HB.out af.out ak.out⟩
   ·replace c13 := Bool.eq_false_iff.mpr c13
    subst c13
    have H1 : (spec_EqualDfa.l0 kj2 0 l0_0 l0_1 l1_0 l1_1) = some r := by rw [if_neg (show ¬ (false = true) by decide)] at H; exact H
    clear H
    have H := H1
    clear H1
    have H' := am_ H
    clear H
    go_wp2
    repeat (go_quiet (fail); try go_wp2)
    go_loopg [5] kj2 (fun kq v5 w' => ∃ (ad : Int), v5 = .int .i64 ad ∧ Aside0 (spec_EqualDfa.l0 kq ad l0_0 l0_1 l1_0 l1_1 = some r) ∧ Aside0 (kq ≤ kj2) ∧ Aside0 (w'.heap[ai]? = some (.cells #[(.slice A0_0 l0_0.length c0_0), (.slice A0_1 l0_1.length c0_1)] 27 (0, 0))) ∧ Aside0 (w'.heap[aj]? = some (.cells #[(.slice A1_0 l1_0.length c1_0), (.slice A1_1 l1_1.length c1_1)] 27 (0, 0))) ∧ Aside0 (Below w.heap.size w w'))
    case atStart => exact ⟨(0), (by first | rfl | (simp; done) | (simp [*]; done)), H', ⟨Nat.le_refl _⟩, ⟨by refine rb_ ?_; exact aa.out⟩, ⟨by refine rb_ ?_; exact ab.out⟩, ⟨by exact zp43_0_ HB.out af.out ak.out⟩⟩
    case round =>
     clear H'
     try clear c1
     try clear p2
     try clear c3
     try clear c6
     try clear c6b0
     try clear c6b1
     try clear c6b2
     try clear c7
     try clear c10
     try clear c13
     try clear az
     try clear aA
     try clear aD
     try clear aE
     try clear aI
     try clear aJ
     try clear aM
     try clear aN
     try clear aB
     try clear aC
     try clear aF
     try clear aG
     try clear aK
     try clear aL
     try clear aO
     try clear aP
     try clear p2
     obtain ⟨ad, rfl, HA, HK2, aa, ab, HB⟩ := hrel
     cases gk with
     | zero => exact absurd HA.out (by simp [spec_EqualDfa.l0])
     | succ k2 =>
      have H := HA.out
      clear HA
      simp only [spec_EqualDfa.l0] at H
      by_cases c14 : ad < (l0_0.length : Int)
      ·rw [if_pos c14] at H
       have c14b0 : decide (ad < (l0_0.length : Int)) = true := decide_eq_true c14
       clear c14
       by_cases c15 : 0 ≤ ad
       ·rw [if_pos c15] at H
        have c15b0 : decide (0 ≤ ad) = true := decide_eq_true c15
        clear c15
        by_cases c16 : ad < (l1_0.length : Int)
        ·rw [if_pos c16] at H
         have c16b0 : decide (ad < (l1_0.length : Int)) = true := decide_eq_true c16
         clear c16
         by_cases c17 : ((rdOf false l0_0 ad) != (rdOf false l1_0 ad)) = true
         ·rw [if_pos c17] at H
          have c17b0 : ((rdOf false l0_0 ad) != (rdOf false l1_0 ad)) = true := c17
          (try (have c17b1 : decide ((rdOf false l0_0 ad) = (rdOf false l1_0 ad)) = false := by simpa using c17))
          (try (have c17b2 : ((rdOf false l0_0 ad) == (rdOf false l1_0 ad)) = false := by simpa using c17))
          (try (have c17b3 : ¬ ((rdOf false l0_0 ad) = (rdOf false l1_0 ad)) := by simpa using c17))
          clear c17
          obtain rfl := Option.some.inj H
          simp only [Option.some.injEq, Prod.mk.injEq] at H
          obtain ⟨rfl⟩ := H
          have bX := ag.out
          have bY := ah.out
          have aX := ck_ (v := (.slice A0_0 l0_0.length c0_0)) aa 0 rfl
          have aY := ck_ (v := (.slice A0_1 l0_1.length c0_1)) aa 1 rfl
          have aZ := blk_frozen aa.out 0
          have ba := blk_frozen aa.out 1
          have p727 : 0 ≤ (ad : Int) := of_decide_eq_true ah_
          have q727 : ad < (l0_0.length : Int) := of_decide_eq_true ah_
          obtain ⟨bs, e727, ap⟩ := Kd.at_bool aR.out ad p727 q727
          cases e727
          replace ap := (HB.out.cell (World.block_lt_of_cell? w _ ap)).trans ap
          replace p727 := eq_true p727
          replace q727 := eq_true q727
          have bb := ck_ (v := (.slice A1_0 l1_0.length c1_0)) ab 0 rfl
          have bc := ck_ (v := (.slice A1_1 l1_1.length c1_1)) ab 1 rfl
          have bd := blk_frozen ab.out 0
          have be := blk_frozen ab.out 1
          have p728 : 0 ≤ (ad : Int) := of_decide_eq_true ah_
          have q728 : ad < (l1_0.length : Int) := of_decide_eq_true ah_
          obtain ⟨bt, e728, aq⟩ := Kd.at_bool aT.out ad p728 q728
          cases e728
          replace aq := (HB.out.cell (World.block_lt_of_cell? w _ aq)).trans aq
          replace p728 := eq_true p728
          replace q728 := eq_true q728
          go_wp2
          repeat (go_quiet (fail); try go_wp2)
          go_ret
          exact ⟨by first | rfl | (simp [errW_none, errW_some] <;> rfl) | (simp [*, errW_none, errW_some] <;> rfl), by exact zp43_0_ HB.out af.out ak.out⟩
         ·rw [if_neg c17] at H
          have c17b0 : ((rdOf false l0_0 ad) != (rdOf false l1_0 ad)) = false := by simpa using c17
          (try (have c17b1 : decide ((rdOf false l0_0 ad) = (rdOf false l1_0 ad)) = true := by simpa using c17))
          (try (have c17b2 : ((rdOf false l0_0 ad) == (rdOf false l1_0 ad)) = true := by simpa using c17))
          clear c17
          have H' := am_ H
          clear H
          have bZ := ag.out
          have ca := ah.out
          have bf := ck_ (v := (.slice A0_0 l0_0.length c0_0)) aa 0 rfl
          have bg := ck_ (v := (.slice A0_1 l0_1.length c0_1)) aa 1 rfl
          have bh := blk_frozen aa.out 0
          have bi := blk_frozen aa.out 1
          have p727 : 0 ≤ (ad : Int) := of_decide_eq_true ah_
          have q727 : ad < (l0_0.length : Int) := of_decide_eq_true ah_
          obtain ⟨bs, e727, ap⟩ := Kd.at_bool aR.out ad p727 q727
          cases e727
          replace ap := (HB.out.cell (World.block_lt_of_cell? w _ ap)).trans ap
          replace p727 := eq_true p727
          replace q727 := eq_true q727
          have bj := ck_ (v := (.slice A1_0 l1_0.length c1_0)) ab 0 rfl
          have bk := ck_ (v := (.slice A1_1 l1_1.length c1_1)) ab 1 rfl
          have bl := blk_frozen ab.out 0
          have bm := blk_frozen ab.out 1
          have p728 : 0 ≤ (ad : Int) := of_decide_eq_true ah_
          have q728 : ad < (l1_0.length : Int) := of_decide_eq_true ah_
          obtain ⟨bt, e728, aq⟩ := Kd.at_bool aT.out ad p728 q728
          cases e728
          replace aq := (HB.out.cell (World.block_lt_of_cell? w _ aq)).trans aq
          replace p728 := eq_true p728
          replace q728 := eq_true q728
          go_wp2
          repeat (go_quiet (fail); try go_wp2)
          go_roundg k2
          case measure => have := HJ2.out; have := HK2.out; omega
          case rel => exact ⟨(wrap64 (ad + 1)), (by first | rfl | (simp; done) | (simp [*]; done)), H', ⟨by have := HJ2.out; have := HK2.out; omega⟩, ⟨by refine rb_ ?_; exact aa.out⟩, ⟨by refine rb_ ?_; exact ab.out⟩, ⟨by exact zp43_0_ HB.out af.out ak.out⟩⟩
        ·rw [if_neg c16] at H
         exact absurd H (by simp)
       ·rw [if_neg c15] at H
        exact absurd H (by simp)
      ·rw [if_neg c14] at H
       have c14b0 : decide (ad < (l0_0.length : Int)) = false := decide_eq_false c14
       clear c14
       have H' := am_ H
       clear H
       have cb := ag.out
       have cc := ah.out
       have bn := ck_ (v := (.slice A0_0 l0_0.length c0_0)) aa 0 rfl
       have bo := ck_ (v := (.slice A0_1 l0_1.length c0_1)) aa 1 rfl
       have bp := blk_frozen aa.out 0
       have bq := blk_frozen aa.out 1
       go_wp2
       repeat (go_quiet (fail); try go_wp2)
       go_loopg [6] k2 (fun kq v6 w' => ∃ (ae : Int), v6 = .int .i64 ae ∧ Aside0 (spec_EqualDfa.l1 kq ae l0_0 l0_1 l1_0 l1_1 = some r) ∧ Aside0 (kq ≤ k2) ∧ Aside0 (w'.heap[ai]? = some (.cells #[(.slice A0_0 l0_0.length c0_0), (.slice A0_1 l0_1.length c0_1)] 27 (0, 0))) ∧ Aside0 (w'.heap[aj]? = some (.cells #[(.slice A1_0 l1_0.length c1_0), (.slice A1_1 l1_1.length c1_1)] 27 (0, 0))) ∧ Aside0 (Below w.heap.size w w'))
       case atStart => exact ⟨(0), (by first | rfl | (simp; done) | (simp [*]; done)), H', ⟨Nat.le_refl _⟩, ⟨by refine rb_ ?_; exact aa.out⟩, ⟨by refine rb_ ?_; exact ab.out⟩, ⟨by exact zp43_0_ HB.out af.out ak.out⟩⟩
       case round =>
        clear H'
        try clear c1
        try clear c2
        try clear p2
        try clear c3
        try clear c6
        try clear c6b0
        try clear c6b1
        try clear c6b2
        try clear p6
        try clear c7
        try clear p7
        try clear q7
        try clear hx7
        try clear c10
        try clear c13
        try clear c14
        try clear c14b0
        try clear c15
        try clear c15b0
        try clear c16
        try clear c16b0
        try clear c17
        try clear c17b0
        try clear c17b1
        try clear c17b2
        try clear c18
        try clear c21
        try clear c24
        try clear az
        try clear aA
        try clear aD
        try clear aE
        try clear aX
        try clear aY
        try clear bb
        try clear bc
        try clear bf
        try clear bg
        try clear bj
        try clear bk
        try clear bn
        try clear bo
        try clear aI
        try clear aJ
        try clear aM
        try clear aN
        try clear aB
        try clear aC
        try clear aF
        try clear aG
        try clear aZ
        try clear ba
        try clear bd
        try clear be
        try clear bh
        try clear bi
        try clear bl
        try clear bm
        try clear bp
        try clear bq
        try clear aK
        try clear aL
        try clear aO
        try clear aP
        try clear ap
        try clear aq
        try clear p2
        try clear p727
        try clear p728
        try clear q727
        try clear q728
        obtain ⟨ae, rfl, HA, HK3, aa, ab, HB⟩ := hrel
        cases gk with
        | zero => exact absurd HA.out (by simp [spec_EqualDfa.l1])
        | succ k3 =>
         have H := HA.out
         clear HA
         simp only [spec_EqualDfa.l1] at H
         by_cases c26 : ae < (l0_1.length : Int)
         ·rw [if_pos c26] at H
          have c26b0 : decide (ae < (l0_1.length : Int)) = true := decide_eq_true c26
          clear c26
          by_cases c27 : 0 ≤ ae
          ·rw [if_pos c27] at H
           have c27b0 : decide (0 ≤ ae) = true := decide_eq_true c27
           clear c27
           by_cases c28 : ae < (l1_1.length : Int)
           ·rw [if_pos c28] at H
            have c28b0 : decide (ae < (l1_1.length : Int)) = true := decide_eq_true c28
            clear c28
            replace H := Option.bind_eq_some_iff.mp H
            obtain ⟨aQ, br, H⟩ := H
            have A29 := am_ br
            clear br
            by_cases c30 : aQ = true
            ·subst c30
             have H1 : (spec_EqualDfa.l1 k3 (wrap64 (ae + 1)) l0_0 l0_1 l1_0 l1_1) = some r := by rw [if_pos rfl] at H; exact H
             clear H
             have H := H1
             clear H1
             have H' := am_ H
             clear H
             have cd := ag.out
             have ce := ah.out
             have bw := ck_ (v := (.slice A0_0 l0_0.length c0_0)) aa 0 rfl
             have bx := ck_ (v := (.slice A0_1 l0_1.length c0_1)) aa 1 rfl
             have bz := blk_frozen aa.out 0
             have bA := blk_frozen aa.out 1
             have p729 : 0 ≤ (ae : Int) := of_decide_eq_true ah_
             have q729 : ae < (l0_1.length : Int) := of_decide_eq_true ah_
             obtain ⟨bu, A729_0, c729_0, e729, ar, hl729_0, hi729_0⟩ := at_L1 aS.out ae p729 q729
             cases e729
             replace ar := (HB.out.cell (World.block_lt_of_cell? w _ ar)).trans ar
             have au := am_ hi729_0
             have av := am_ hl729_0
             clear hi729_0 hl729_0
             replace p729 := eq_true p729
             replace q729 := eq_true q729
             have bB := ck_ (v := (.slice A1_0 l1_0.length c1_0)) ab 0 rfl
             have bC := ck_ (v := (.slice A1_1 l1_1.length c1_1)) ab 1 rfl
             have bD := blk_frozen ab.out 0
             have bE := blk_frozen ab.out 1
             have p730 : 0 ≤ (ae : Int) := of_decide_eq_true ah_
             have q730 : ae < (l1_1.length : Int) := of_decide_eq_true ah_
             obtain ⟨bv, A730_0, c730_0, e730, aw, hl730_0, hi730_0⟩ := at_L1 aU.out ae p730 q730
             cases e730
             replace aw := (HB.out.cell (World.block_lt_of_cell? w _ aw)).trans aw
             have ax := am_ hi730_0
             have ay := am_ hl730_0
             clear hi730_0 hl730_0
             replace p730 := eq_true p730
             replace q730 := eq_true q730
             go_wp2_with (first | (go_at_call 93; (with_reducible refine (spec_l5Ints.calls k3 _ _ (rd_L1 l0_1 ae) _ _ (rd_L1 l1_1 ae) true _ ?side1 ?side2 ?side3 ?side4 A29.out).mono ?_); (case side1 => exact rc_ (Kd.C_below au.out HB.out)); (case side2 => exact av.out); (case side3 => exact rc_ (Kd.C_below ax.out HB.out)); (case side4 => exact ay.out); rintro e w' ⟨rfl, ⟨nd, rfl⟩⟩; (try first | exact ⟨rfl, _, World.drewN_drewN _ _ _⟩ | exact ⟨rfl, _, Eq.trans (World.drewN_drewN _ _ _) (congrArg (World.drewN _) (Nat.add_assoc _ _ _))⟩)))
             repeat (go_quiet (first | (go_at_call 93; (with_reducible refine (spec_l5Ints.calls k3 _ _ (rd_L1 l0_1 ae) _ _ (rd_L1 l1_1 ae) true _ ?side1 ?side2 ?side3 ?side4 A29.out).mono ?_); (case side1 => exact rc_ (Kd.C_below au.out HB.out)); (case side2 => exact av.out); (case side3 => exact rc_ (Kd.C_below ax.out HB.out)); (case side4 => exact ay.out); rintro e w' ⟨rfl, ⟨nd, rfl⟩⟩; (try first | exact ⟨rfl, _, World.drewN_drewN _ _ _⟩ | exact ⟨rfl, _, Eq.trans (World.drewN_drewN _ _ _) (congrArg (World.drewN _) (Nat.add_assoc _ _ _))⟩))); try go_wp2_with (first | (go_at_call 93; (with_reducible refine (spec_l5Ints.calls k3 _ _ (rd_L1 l0_1 ae) _ _ (rd_L1 l1_1 ae) true _ ?side1 ?side2 ?side3 ?side4 A29.out).mono ?_); (case side1 => exact rc_ (Kd.C_below au.out HB.out)); (case side2 => exact av.out); (case side3 => exact rc_ (Kd.C_below ax.out HB.out)); (case side4 => exact ay.out); rintro e w' ⟨rfl, ⟨nd, rfl⟩⟩; (try first | exact ⟨rfl, _, World.drewN_drewN _ _ _⟩ | exact ⟨rfl, _, Eq.trans (World.drewN_drewN _ _ _) (congrArg (World.drewN _) (Nat.add_assoc _ _ _))⟩))))
             go_roundg k3
             case measure => have := HJ2.out; have := HK2.out; have := HK3.out; omega
             case rel => exact ⟨(wrap64 (ae + 1)), (by first | rfl | (simp; done) | (simp [*]; done)), H', ⟨by have := HJ2.out; have := HK2.out; have := HK3.out; omega⟩, ⟨by refine rb_ ?_; exact aa.out⟩, ⟨by refine rb_ ?_; exact ab.out⟩, ⟨by exact zp43_0_ HB.out af.out ak.out⟩⟩
            ·replace c30 := Bool.eq_false_iff.mpr c30
             subst c30
             have H1 : (some false) = some r := by rw [if_neg (show ¬ (false = true) by decide)] at H; exact H
             clear H
             have H := H1
             clear H1
             obtain rfl := Option.some.inj H
             simp only [Option.some.injEq, Prod.mk.injEq] at H
             obtain ⟨rfl⟩ := H
             have cf := ag.out
             have cg := ah.out
             have bF := ck_ (v := (.slice A0_0 l0_0.length c0_0)) aa 0 rfl
             have bG := ck_ (v := (.slice A0_1 l0_1.length c0_1)) aa 1 rfl
             have bH := blk_frozen aa.out 0
             have bI := blk_frozen aa.out 1
             have p729 : 0 ≤ (ae : Int) := of_decide_eq_true ah_
             have q729 : ae < (l0_1.length : Int) := of_decide_eq_true ah_
             obtain ⟨bu, A729_0, c729_0, e729, ar, hl729_0, hi729_0⟩ := at_L1 aS.out ae p729 q729
             cases e729
             replace ar := (HB.out.cell (World.block_lt_of_cell? w _ ar)).trans ar
             have au := am_ hi729_0
             have av := am_ hl729_0
             clear hi729_0 hl729_0
             replace p729 := eq_true p729
             replace q729 := eq_true q729
             have bJ := ck_ (v := (.slice A1_0 l1_0.length c1_0)) ab 0 rfl
             have bK := ck_ (v := (.slice A1_1 l1_1.length c1_1)) ab 1 rfl
             have bL := blk_frozen ab.out 0
             have bM := blk_frozen ab.out 1
             have p730 : 0 ≤ (ae : Int) := of_decide_eq_true ah_
             have q730 : ae < (l1_1.length : Int) := of_decide_eq_true ah_
             obtain ⟨bv, A730_0, c730_0, e730, aw, hl730_0, hi730_0⟩ := at_L1 aU.out ae p730 q730
             cases e730
             replace aw := (HB.out.cell (World.block_lt_of_cell? w _ aw)).trans aw
             have ax := am_ hi730_0
             have ay := am_ hl730_0
             clear hi730_0 hl730_0
             replace p730 := eq_true p730
             replace q730 := eq_true q730
             go_wp2_with (first | (go_at_call 93; (with_reducible refine (spec_l5Ints.calls k3 _ _ (rd_L1 l0_1 ae) _ _ (rd_L1 l1_1 ae) false _ ?side1 ?side2 ?side3 ?side4 A29.out).mono ?_); (case side1 => exact rc_ (Kd.C_below au.out HB.out)); (case side2 => exact av.out); (case side3 => exact rc_ (Kd.C_below ax.out HB.out)); (case side4 => exact ay.out); rintro e w' ⟨rfl, ⟨nd, rfl⟩⟩; (try first | exact ⟨rfl, _, World.drewN_drewN _ _ _⟩ | exact ⟨rfl, _, Eq.trans (World.drewN_drewN _ _ _) (congrArg (World.drewN _) (Nat.add_assoc _ _ _))⟩)))
             repeat (go_quiet (first | (go_at_call 93; (with_reducible refine (spec_l5Ints.calls k3 _ _ (rd_L1 l0_1 ae) _ _ (rd_L1 l1_1 ae) false _ ?side1 ?side2 ?side3 ?side4 A29.out).mono ?_); (case side1 => exact rc_ (Kd.C_below au.out HB.out)); (case side2 => exact av.out); (case side3 => exact rc_ (Kd.C_below ax.out HB.out)); (case side4 => exact ay.out); rintro e w' ⟨rfl, ⟨nd, rfl⟩⟩; (try first | exact ⟨rfl, _, World.drewN_drewN _ _ _⟩ | exact ⟨rfl, _, Eq.trans (World.drewN_drewN _ _ _) (congrArg (World.drewN _) (Nat.add_assoc _ _ _))⟩))); try go_wp2_with (first | (go_at_call 93; (with_reducible refine (spec_l5Ints.calls k3 _ _ (rd_L1 l0_1 ae) _ _ (rd_L1 l1_1 ae) false _ ?side1 ?side2 ?side3 ?side4 A29.out).mono ?_); (case side1 => exact rc_ (Kd.C_below au.out HB.out)); (case side2 => exact av.out); (case side3 => exact rc_ (Kd.C_below ax.out HB.out)); (case side4 => exact ay.out); rintro e w' ⟨rfl, ⟨nd, rfl⟩⟩; (try first | exact ⟨rfl, _, World.drewN_drewN _ _ _⟩ | exact ⟨rfl, _, Eq.trans (World.drewN_drewN _ _ _) (congrArg (World.drewN _) (Nat.add_assoc _ _ _))⟩))))
             go_ret
             exact ⟨by first | rfl | (simp [errW_none, errW_some] <;> rfl) | (simp [*, errW_none, errW_some] <;> rfl), by exact zp43_0_ HB.out af.out ak.out⟩
           ·rw [if_neg c28] at H
            exact absurd H (by simp)
          ·rw [if_neg c27] at H
           exact absurd H (by simp)
         ·rw [if_neg c26] at H
          have c26b0 : decide (ae < (l0_1.length : Int)) = false := decide_eq_false c26
          clear c26
          obtain rfl := Option.some.inj H
          simp only [Option.some.injEq, Prod.mk.injEq] at H
          obtain ⟨rfl⟩ := H
          have ch := ag.out
          have ci := ah.out
          have bN := ck_ (v := (.slice A0_0 l0_0.length c0_0)) aa 0 rfl
          have bO := ck_ (v := (.slice A0_1 l0_1.length c0_1)) aa 1 rfl
          have bP := blk_frozen aa.out 0
          have bQ := blk_frozen aa.out 1
          go_wp2
          repeat (go_quiet (fail); try go_wp2)
          go_ret
          exact ⟨by first | rfl | (simp [errW_none, errW_some] <;> rfl) | (simp [*, errW_none, errW_some] <;> rfl), by exact zp43_0_ HB.out af.out ak.out⟩
end Go.Proofs.Ytogamkblkoobkaa.P
end
section
namespace Go.Proofs.Ytogamkblkoobkaa.Pl
open Go.RowKit Go.Proofs.Ytogamkblkoobkaa.P Go.Proofs.YtogamkblkoobkaaW.PrintWords Go.Proofs.YtogamkblkoobkaaW.PrintLast Go.Proofs.YtogamkblkoobkaaW.PrintMore Wk Rk
set_option linter.unusedVariables false
set_option linter.unusedSimpArgs false
theorem spec_equal_l1 (a : List Bool) (n : List (List Int)) (b : List Bool) (m : List (List Int)) (hl : n.length = m.length) (hn : n.length ≤ 1048576) (hx : ∀ x ∈ n, x.length ≤ 1048576) : ∀ d i : Nat, i + d = n.length → Ev (fun k => spec_EqualDfa.l1 k i a n b m) (decide (n.drop i = m.drop i)) := by
  intro d
  induction d with
  | zero =>
    intro i h
    refine next ?_
    simp only [spec_EqualDfa.l1, if_neg (show ¬ (i : Int) < (n.length : Int) by omega)]
    exact ev_some (by rw [List.drop_eq_nil_of_le (by omega), List.drop_eq_nil_of_le (by omega)]; simp)
  | succ d ih =>
    intro i h
    refine next ?_
    have ha : i < n.length := by omega
    have hb : i < m.length := by omega
    have e : (n.drop i = m.drop i) ↔ (n[i] = m[i] ∧ n.drop (i + 1) = m.drop (i + 1)) := by
      rw [List.drop_eq_getElem_cons ha, List.drop_eq_getElem_cons hb]
      exact List.cons_eq_cons
    simp only [spec_EqualDfa.l1, if_pos (show (i : Int) < (n.length : Int) by omega), if_pos (show (0 : Int) ≤ i by omega), if_pos (show (i : Int) < (m.length : Int) by omega), rows_get n i ha, rows_get m i hb]
    refine Ev.bind (spec_ints n[i] m[i] (hx _ (List.getElem_mem _))) ?_
    by_cases he : n[i] = m[i]
    · simp only [decide_eq_true he, if_true, up1 (show i < 9223372036854775807 by omega)]
      exact ev_eq (ih (i + 1) (by omega)) (decide_eq_decide.mpr (by rw [e]; exact ⟨fun x => ⟨he, x⟩, fun x => x.2⟩))
    · simp only [decide_eq_false he, Bool.false_ne_true, if_false]
      exact ev_some (by rw [eq_comm, decide_eq_false_iff_not, e]; exact fun x => he x.1)
theorem spec_equal_l0 (a : List Bool) (n : List (List Int)) (b : List Bool) (m : List (List Int)) (hab : a.length = b.length) (ha : a.length ≤ 1048576) (hl : n.length = m.length) (hn : n.length ≤ 1048576) (hx : ∀ x ∈ n, x.length ≤ 1048576) : ∀ d i : Nat, i + d = a.length → Ev (fun k => spec_EqualDfa.l0 k i a n b m) (decide (a.drop i = b.drop i) && decide (n = m)) := by
  intro d
  induction d with
  | zero =>
    intro i h
    refine next ?_
    simp only [spec_EqualDfa.l0, if_neg (show ¬ (i : Int) < (a.length : Int) by omega)]
    rw [List.drop_eq_nil_of_le (by omega), List.drop_eq_nil_of_le (by omega)]
    simp only [decide_true, Bool.true_and]
    exact spec_equal_l1 a n b m hl hn hx n.length 0 (by omega)
  | succ d ih =>
    intro i h
    refine next ?_
    have h1 : i < a.length := by omega
    have h2 : i < b.length := by omega
    have e : (a.drop i = b.drop i) ↔ (a[i] = b[i] ∧ a.drop (i + 1) = b.drop (i + 1)) := by
      rw [List.drop_eq_getElem_cons h1, List.drop_eq_getElem_cons h2]
      exact List.cons_eq_cons
    simp only [spec_EqualDfa.l0, if_pos (show (i : Int) < (a.length : Int) by omega), if_pos (show (0 : Int) ≤ i by omega), if_pos (show (i : Int) < (b.length : Int) by omega), rdOf_get _ a i h1, rdOf_get _ b i h2]
    by_cases he : a[i] = b[i]
    · simp only [show (a[i] != b[i]) = false from bne_eq_false_iff_eq.mpr he, Bool.false_ne_true, if_false, up1 (show i < 9223372036854775807 by omega)]
      refine ev_eq (ih (i + 1) (by omega)) ?_
      rw [decide_eq_decide.mpr (show (a.drop (i + 1) = b.drop (i + 1)) ↔ (a.drop i = b.drop i) by rw [e]; exact ⟨fun x => ⟨he, x⟩, fun x => x.2⟩)]
    · simp only [show (a[i] != b[i]) = true from bne_iff_ne.mpr he, if_true]
      exact ev_some (by rw [decide_eq_false (show ¬ (a.drop i = b.drop i) by rw [e]; exact fun x => he x.1), Bool.false_and])
theorem spec_equal (a : List Bool) (n : List (List Int)) (b : List Bool) (m : List (List Int)) (ha : a.length ≤ 1048576) (hn : n.length ≤ 1048576) (hx : ∀ x ∈ n, x.length ≤ 1048576) : Ev (fun k => spec_EqualDfa.f k a n b m) (decide (a = b) && decide (n = m)) := by
  have jt : Ev (fun k => spec_EqualDfa.j0 k true a n b m) false := by
    refine next ?_
    simp only [spec_EqualDfa.j0, if_true]
    exact Ev.now _
  simp only [spec_EqualDfa.f]
  by_cases h1 : a.length = b.length
  · simp only [if_pos (show (a.length : Int) = (b.length : Int) by omega)]
    by_cases h2 : n.length = m.length
    · have e2 : ((n.length : Int) != (m.length : Int)) = false := by rw [bne_eq_false_iff_eq]; omega
      simp only [e2]
      refine next ?_
      simp only [spec_EqualDfa.j0, Bool.false_ne_true, if_false]
      exact spec_equal_l0 a n b m h1 ha h2 hn hx a.length 0 (by omega)
    · have e2 : ((n.length : Int) != (m.length : Int)) = true := by rw [bne_iff_ne]; omega
      simp only [e2]
      rw [decide_eq_false (show ¬ n = m from fun e => h2 (by rw [e])), Bool.and_false]
      exact jt
  · simp only [if_neg (show ¬ (a.length : Int) = (b.length : Int) by omega)]
    rw [decide_eq_false (show ¬ a = b from fun e => h1 (by rw [e])), Bool.false_and]
    exact jt
end Go.Proofs.Ytogamkblkoobkaa.Pl
end
section
namespace Go.Proofs.Ytogamkblkoobkaa.P
open Go.RowKit Go.Proofs.YtogamkblkoobkaaW.PrintWords Go.Proofs.YtogamkblkoobkaaW.PrintLast Go.Proofs.YtogamkblkoobkaaW.PrintMore
attribute [local go_sem] max2_int min2_int max_two min_two max_three min_three max_four min_four
set_option linter.unusedVariables false
set_option linter.unusedSimpArgs false
def impl_ProductDfa.f (l0_0 : List Bool) (l0_1 : List (List Int)) (l1_0 : List Bool) (l1_1 : List (List Int)) (a2 : Int) : Option (List Bool × List (List Int) × Bool) := some (Wk.pdR l0_0 l0_1 l1_0 l1_1 a2)
theorem impl_ProductDfa.calls (A0_0 : Option Addr) (c0_0 : Nat) (l0_0 : List Bool) (A0_1 : Option Addr) (c0_1 : Nat) (l0_1 : List (List Int)) (A1_0 : Option Addr) (c1_0 : Nat) (l1_0 : List Bool) (A1_1 : Option Addr) (c1_1 : Nat) (l1_1 : List (List Int)) (a2 : Int) (r1 : List Bool) (r2 : List (List Int)) (r3 : Bool) (w : World) (hr0_0 : Kd.C Kd.bool w A0_0 l0_0.length l0_0) (hc0_0 : l0_0.length ≤ c0_0) (hr0_1 : Kd.C (Kd.slice 3 (Kd.int .i64)) w A0_1 l0_1.length l0_1) (hc0_1 : l0_1.length ≤ c0_1) (hr1_0 : Kd.C Kd.bool w A1_0 l1_0.length l1_0) (hc1_0 : l1_0.length ≤ c1_0) (hr1_1 : Kd.C (Kd.slice 3 (Kd.int .i64)) w A1_1 l1_1.length l1_1) (hc1_1 : l1_1.length ≤ c1_1) (h : impl_ProductDfa.f l0_0 l0_1 l1_0 l1_1 a2 = some (r1, r2, r3)) :
    Calls Try.prog 20 #[.agg #[.slice A0_0 l0_0.length c0_0, .slice A0_1 l0_1.length c0_1], .agg #[.slice A1_0 l1_0.length c1_0, .slice A1_1 l1_1.length c1_1], .int .i64 a2] w fun e w' => ∃ v0_ v1_ : Value, e = .returned (.tuple #[.agg #[v0_, v1_], .bool r3]) ∧ Kd.R Kd.bool 4 w' w.heap.size (fun _ => True) v0_ r1 ∧ Kd.S (Kd.slice 3 (Kd.int .i64)) 67 w' w.heap.size (fun _ => True) v1_ r2 ∧ Below w.heap.size w w' := by
  have h := Option.some.inj h
  have e1 : (Wk.pdR l0_0 l0_1 l1_0 l1_1 a2).1 = r1 := by rw [h]
  have e2 : (Wk.pdR l0_0 l0_1 l1_0 l1_1 a2).2.1 = r2 := by rw [h]
  have e3 : (Wk.pdR l0_0 l0_1 l1_0 l1_1 a2).2.2 = r3 := by rw [h]
  rw [← e1, ← e2, ← e3]
  exact Wk.pdCalls A0_0 c0_0 l0_0 A0_1 c0_1 l0_1 A1_0 c1_0 l1_0 A1_1 c1_1 l1_1 a2 w hr0_0 hr0_1 hr1_0 hr1_1
end Go.Proofs.Ytogamkblkoobkaa.P
end
