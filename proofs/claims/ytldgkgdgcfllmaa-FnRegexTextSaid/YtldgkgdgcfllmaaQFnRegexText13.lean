/- Texts of the proof of FnRegexText, put together. No condition. -/
import Derived.Test.YtldgkgdgcfllmaaQFnRegexText3
import Derived.Test.YtldgkgdgcfllmaaQFnRegexText12
import Derived.Test.YtldgkgdgcfllmaaQFnRegexText2
section
namespace Go.Proofs.Ytldgkgdgcfllmaa.P
open Go.RowKit Go.Proofs.YtldgkgdgcfllmaaW.PrintWords Go.Proofs.YtldgkgdgcfllmaaW.PrintLast Go.Proofs.YtldgkgdgcfllmaaW.PrintMore
attribute [local go_sem] max2_int min2_int max_two min_two max_three min_three max_four min_four
set_option linter.unusedVariables false
set_option linter.unusedSimpArgs false
mutual
def spec_l3Draw.j0 : Nat → Int → Bool → List Int → Int → Int → Option (Int × ByteArray × (List (S29)) × Int × Int)
  | 0, _, _, _, _, _ => none
  | k + 1, x1, x13, aw, aU, aV => if x13 = true then ((spec_l1Below.f aw aU aV 8).bind fun bt752 => (if bt752.1 = 0 then (some (2, (⟨#[]⟩ : ByteArray), ([] : List (S29)), bt752.2.1, bt752.2.2)) else (if bt752.1 = 1 then (some (4, (⟨#[]⟩ : ByteArray), ([] : List (S29)), bt752.2.1, bt752.2.2)) else (if bt752.1 = 2 then (some (1, (⟨#[]⟩ : ByteArray), ([] : List (S29)), bt752.2.1, bt752.2.2)) else ((spec_l1Pick.f aw bt752.2.1 bt752.2.2 (([(⟨#[97]⟩ : ByteArray), (⟨#[97]⟩ : ByteArray), (⟨#[98]⟩ : ByteArray), (⟨#[98]⟩ : ByteArray), (⟨#[99]⟩ : ByteArray)] : List ByteArray))).bind fun bt758 => (some (3, bt758.1, ([] : List (S29)), bt758.2.1, bt758.2.2))))))) else ((spec_l1Below.f aw aU aV 10).bind fun bt761 => (if bt761.1 = 0 then (spec_l3Draw.j1 k x1 bt761.1 (bt761.1 == 0) aw bt761.2.1 bt761.2.2) else (if bt761.1 = 1 then (spec_l3Draw.j1 k x1 bt761.1 (bt761.1 == 1) aw bt761.2.1 bt761.2.2) else (spec_l3Draw.j1 k x1 bt761.1 (bt761.1 == 2) aw bt761.2.1 bt761.2.2))))
def spec_l3Draw.j1 : Nat → Int → Int → Bool → List Int → Int → Int → Option (Int × ByteArray × (List (S29)) × Int × Int)
  | 0, _, _, _, _, _, _ => none
  | k + 1, x1, x30, x31, aw, aU, aV => if x31 = true then ((spec_l3Draw.f k aw aU aV (wrap64 (x1 - 1))).bind fun bt764 => (some (8, (⟨#[]⟩ : ByteArray), (([(⟨bt764.1, bt764.2.1, bt764.2.2.1⟩ : S29)] : List (S29))), bt764.2.2.2.1, bt764.2.2.2.2))) else (if x30 = 3 then ((spec_l3Draw.f k aw aU aV (wrap64 (x1 - 1))).bind fun bt774 => (some (9, (⟨#[]⟩ : ByteArray), (([(⟨bt774.1, bt774.2.1, bt774.2.2.1⟩ : S29)] : List (S29))), bt774.2.2.2.1, bt774.2.2.2.2))) else (if x30 = 4 then ((spec_l3Draw.f k aw aU aV (wrap64 (x1 - 1))).bind fun bt784 => ((spec_l3Draw.f k aw bt784.2.2.2.1 bt784.2.2.2.2 (wrap64 (x1 - 1))).bind fun bt792 => (some (7, (⟨#[]⟩ : ByteArray), (([(⟨bt784.1, bt784.2.1, bt784.2.2.1⟩ : S29), (⟨bt792.1, bt792.2.1, bt792.2.2.1⟩ : S29)] : List (S29))), bt792.2.2.2.1, bt792.2.2.2.2)))) else (if x30 = 5 then (spec_l3Draw.j2 k x1 (x30 == 5) aw aU aV) else (spec_l3Draw.j2 k x1 (x30 == 6) aw aU aV))))
def spec_l3Draw.j2 : Nat → Int → Bool → List Int → Int → Int → Option (Int × ByteArray × (List (S29)) × Int × Int)
  | 0, _, _, _, _, _ => none
  | k + 1, x1, x62, aw, aU, aV => if x62 = true then ((spec_l3Draw.f k aw aU aV (wrap64 (x1 - 1))).bind fun bt802 => ((spec_l3Draw.f k aw bt802.2.2.2.1 bt802.2.2.2.2 (wrap64 (x1 - 1))).bind fun bt810 => (some (6, (⟨#[]⟩ : ByteArray), (([(⟨bt802.1, bt802.2.1, bt802.2.2.1⟩ : S29), (⟨bt810.1, bt810.2.1, bt810.2.2.1⟩ : S29)] : List (S29))), bt810.2.2.2.1, bt810.2.2.2.2)))) else ((spec_l3Draw.f k aw aU aV (wrap64 (x1 - 1))).bind fun bt820 => ((spec_l3Draw.f k aw bt820.2.2.2.1 bt820.2.2.2.2 (wrap64 (x1 - 1))).bind fun bt828 => (some (5, (⟨#[]⟩ : ByteArray), (([(⟨bt820.1, bt820.2.1, bt820.2.2.1⟩ : S29), (⟨bt828.1, bt828.2.1, bt828.2.2.1⟩ : S29)] : List (S29))), bt828.2.2.2.1, bt828.2.2.2.2))))
def spec_l3Draw.f : Nat → List Int → Int → Int → Int → Option (Int × ByteArray × (List (S29)) × Int × Int)
  | 0, _, _, _, _ => none
  | k + 1, s0_0, s0_1, s0_2, a1 => if a1 < 2 then (spec_l3Draw.j0 k a1 true s0_0 s0_1 s0_2) else ((spec_l1Once.f s0_0 s0_1 s0_2 5).bind fun bt749 => (spec_l3Draw.j0 k a1 bt749.1 s0_0 bt749.2.1 bt749.2.2))
end
theorem spec_l3Draw.mono_l : ∀ k, (∀ y0 y1 y2 y3, LeO (spec_l3Draw.f k y0 y1 y2 y3) (spec_l3Draw.f (k + 1) y0 y1 y2 y3)) ∧ (∀ y0 y1 y2 y3 y4, LeO (spec_l3Draw.j0 k y0 y1 y2 y3 y4) (spec_l3Draw.j0 (k + 1) y0 y1 y2 y3 y4)) ∧ (∀ y0 y1 y2 y3 y4 y5, LeO (spec_l3Draw.j1 k y0 y1 y2 y3 y4 y5) (spec_l3Draw.j1 (k + 1) y0 y1 y2 y3 y4 y5)) ∧ (∀ y0 y1 y2 y3 y4, LeO (spec_l3Draw.j2 k y0 y1 y2 y3 y4) (spec_l3Draw.j2 (k + 1) y0 y1 y2 y3 y4))
 | 0 => ⟨fun _ _ _ _ r h => by simp [spec_l3Draw.f] at h, fun _ _ _ _ _ r h => by simp [spec_l3Draw.j0] at h, fun _ _ _ _ _ _ r h => by simp [spec_l3Draw.j1] at h, fun _ _ _ _ _ r h => by simp [spec_l3Draw.j2] at h⟩
 | k + 1 => by
  obtain ⟨ih0, ih1, ih2, ih3⟩ := spec_l3Draw.mono_l k
  refine ⟨?_, ?_, ?_, ?_⟩
  ·intro y0 y1 y2 y3
   unfold spec_l3Draw.f
   repeat' first
   | (with_reducible exact ih0 _ _ _ _)
   | (with_reducible exact ih1 _ _ _ _ _)
   | (with_reducible exact ih2 _ _ _ _ _ _)
   | (with_reducible exact ih3 _ _ _ _ _)
   | (with_reducible exact LeO.refl _)
   | (with_reducible exact LeO.none _)
   | (with_reducible refine LeO.ite ?_ ?_)
   | (with_reducible refine LeO.bind ?_ (fun _ => ?_))
   | exact ih0 _ _ _ _
   | exact ih1 _ _ _ _ _
   | exact ih2 _ _ _ _ _ _
   | exact ih3 _ _ _ _ _
   | exact LeO.none _
   | refine LeO.ite ?_ ?_
   | refine LeO.bind ?_ (fun _ => ?_)
  ·intro y0 y1 y2 y3 y4
   unfold spec_l3Draw.j0
   repeat' first
   | (with_reducible exact ih0 _ _ _ _)
   | (with_reducible exact ih1 _ _ _ _ _)
   | (with_reducible exact ih2 _ _ _ _ _ _)
   | (with_reducible exact ih3 _ _ _ _ _)
   | (with_reducible exact LeO.refl _)
   | (with_reducible exact LeO.none _)
   | (with_reducible refine LeO.ite ?_ ?_)
   | (with_reducible refine LeO.bind ?_ (fun _ => ?_))
   | exact ih0 _ _ _ _
   | exact ih1 _ _ _ _ _
   | exact ih2 _ _ _ _ _ _
   | exact ih3 _ _ _ _ _
   | exact LeO.none _
   | refine LeO.ite ?_ ?_
   | refine LeO.bind ?_ (fun _ => ?_)
  ·intro y0 y1 y2 y3 y4 y5
   unfold spec_l3Draw.j1
   repeat' first
   | (with_reducible exact ih0 _ _ _ _)
   | (with_reducible exact ih1 _ _ _ _ _)
   | (with_reducible exact ih2 _ _ _ _ _ _)
   | (with_reducible exact ih3 _ _ _ _ _)
   | (with_reducible exact LeO.refl _)
   | (with_reducible exact LeO.none _)
   | (with_reducible refine LeO.ite ?_ ?_)
   | (with_reducible refine LeO.bind ?_ (fun _ => ?_))
   | exact ih0 _ _ _ _
   | exact ih1 _ _ _ _ _
   | exact ih2 _ _ _ _ _ _
   | exact ih3 _ _ _ _ _
   | exact LeO.none _
   | refine LeO.ite ?_ ?_
   | refine LeO.bind ?_ (fun _ => ?_)
  ·intro y0 y1 y2 y3 y4
   unfold spec_l3Draw.j2
   repeat' first
   | (with_reducible exact ih0 _ _ _ _)
   | (with_reducible exact ih1 _ _ _ _ _)
   | (with_reducible exact ih2 _ _ _ _ _ _)
   | (with_reducible exact ih3 _ _ _ _ _)
   | (with_reducible exact LeO.refl _)
   | (with_reducible exact LeO.none _)
   | (with_reducible refine LeO.ite ?_ ?_)
   | (with_reducible refine LeO.bind ?_ (fun _ => ?_))
   | exact ih0 _ _ _ _
   | exact ih1 _ _ _ _ _
   | exact ih2 _ _ _ _ _ _
   | exact ih3 _ _ _ _ _
   | exact LeO.none _
   | refine LeO.ite ?_ ?_
   | refine LeO.bind ?_ (fun _ => ?_)
theorem spec_l3Draw.mono : ∀ a0 a1 a2 a3 k, LeO (spec_l3Draw.f k a0 a1 a2 a3) (spec_l3Draw.f (k + 1) a0 a1 a2 a3) := by
 intro a0 a1 a2 a3 k
 obtain ⟨ih0, ih1, ih2, ih3⟩ := spec_l3Draw.mono_l k
 exact ih0 a0 a1 a2 a3
def spec_l3Draw.T19 : Bool × List (List Nat × List Nat) := (true, [([], []), ([], []), ([], []), ([2], [2]), ([1, 3], [1, 3]), ([0, 4], [0, 4]), ([5], [5]), ([6, 4, 0, 1, 2, 3, 4, 5, 6], [6])])
def spec_l3Draw.B19 : List Nat := [0, 0, 0, 4, 14, 31, 63, 127]
theorem spec_l3Draw.tab19 : rtab .any (opsOf Try.f61 19) = spec_l3Draw.T19 := by kernel_rfl
theorem spec_l3Draw.bits19 : waitsOk spec_l3Draw.T19.2 spec_l3Draw.B19 = true := by kernel_rfl
def spec_l3Draw.T23 : Bool × List (List Nat × List Nat) := (true, [([], []), ([], []), ([], []), ([2], [2]), ([1, 3], [1, 3]), ([0, 4], [0, 4]), ([5], [5]), ([6, 4, 0, 1, 2, 3, 4, 5, 6], [6])])
def spec_l3Draw.B23 : List Nat := [0, 0, 0, 4, 14, 31, 63, 127]
theorem spec_l3Draw.tab23 : rtab .any (opsOf Try.f61 23) = spec_l3Draw.T23 := by kernel_rfl
theorem spec_l3Draw.bits23 : waitsOk spec_l3Draw.T23.2 spec_l3Draw.B23 = true := by kernel_rfl
def spec_l3Draw.T25 : Bool × List (List Nat × List Nat) := (true, [([], []), ([], []), ([], []), ([2], [2]), ([1, 3], [1, 3]), ([0, 4], [0, 4]), ([5], [5]), ([6, 4, 0, 1, 2, 3, 4, 5, 6], [6])])
def spec_l3Draw.B25 : List Nat := [0, 0, 0, 4, 14, 31, 63, 127]
theorem spec_l3Draw.tab25 : rtab .any (opsOf Try.f61 25) = spec_l3Draw.T25 := by kernel_rfl
theorem spec_l3Draw.bits25 : waitsOk spec_l3Draw.T25.2 spec_l3Draw.B25 = true := by kernel_rfl
theorem zp45_0_ {p q g1 : Prop} (h : p) (h1 : g1) (c : p → g1 → q := by intro h_ h1_; repeat (first | (with_reducible first | exact h_ | apply IsS93.alloc | apply IsS93.drewN | apply IsS93.drew | apply IsS93.set_1 | apply IsS93.set_2 | refine IsS93.far ?_ h1_ _) | exact h_)) : q := c h h1
theorem zp45_1_ {p q g1 : Prop} (h : p) (h1 : g1) (c : p → g1 → q := by intro h_ h1_; repeat (first | (with_reducible first | exact h_ | apply KeepBut.set_ | apply keep_drewN | apply keep_drew | apply keep_alloc | refine keep_far ?_ h1_ _) | exact h_)) : q := c h h1
theorem zp45_2_ {p q g1 g2 : Prop} (h : p) (h1 : g1) (h2 : g2) (c : p → g1 → g2 → q := by intro h_ h1_ h2_; repeat (first | (with_reducible first | exact h_ | apply below_alloc | apply pw_below_drewN | apply below_drew1 | refine below_set ?_ h1_ | refine below_set ?_ h2_) | exact h_)) : q := c h h1 h2
theorem zp45_3_ {p q g1 g2 : Prop} (h : p) (h1 : g1) (h2 : g2) (c : p → g1 → g2 → q := by intro h_ h1_ h2_; repeat (first | (with_reducible first | exact h_ | apply IsS93.alloc | apply IsS93.drewN | apply IsS93.drew | apply IsS93.set_1 | apply IsS93.set_2 | refine IsS93.far ?_ h1_ _ | refine IsS93.far ?_ h2_ _) | exact h_)) : q := c h h1 h2
theorem zp45_4_ {p q g1 g2 : Prop} (h : p) (h1 : g1) (h2 : g2) (c : p → g1 → g2 → q := by intro h_ h1_ h2_; repeat (first | (with_reducible first | exact h_ | apply KeepBut.set_ | apply keep_drewN | apply keep_drew | apply keep_alloc | refine keep_far ?_ h1_ _ | refine keep_far ?_ h2_ _) | exact h_)) : q := c h h1 h2
theorem zp45_5_ {p q g1 g2 g3 : Prop} (h : p) (h1 : g1) (h2 : g2) (h3 : g3) (c : p → g1 → g2 → g3 → q := by intro h_ h1_ h2_ h3_; repeat (first | (with_reducible first | exact h_ | apply below_alloc | apply pw_below_drewN | apply below_drew1 | refine below_set ?_ h1_ | refine below_set ?_ h2_ | refine below_set ?_ h3_) | exact h_)) : q := c h h1 h2 h3
set_option maxHeartbeats 8000000 in
set_option maxRecDepth 100000 in
theorem spec_l3Draw.calls (k : Nat) : ∀ (g : Nat) (s0_0 : List Int) (s0_1 : Int) (s0_2 : Int) (a1 : Int) (r1 : Int) (r2 : ByteArray) (r3 : List (S29)) (r4 : Int) (r5 : Int) (w0 w : World) (hI : IsS93 w0 w g s0_0 s0_1 s0_2) (hB : Below w0.heap.size w0 w) (h : spec_l3Draw.f k s0_0 s0_1 s0_2 a1 = some (r1, r2, r3, r4, r5)),
  Calls Try.prog 61 #[.pointer (some ⟨g, 0, none⟩), .int .i64 a1] w fun e w' => ∃ v2_ : Value, e = .returned (.agg #[.int .i64 r1, .string r2, v2_]) ∧ Kd.N k29 29 w' w.heap.size (fun k_ => (w.heap.size ≤ k_)) v2_ r3 ∧ IsS93 w0 w' g s0_0 r4 r5 ∧ Below w0.heap.size w0 w' ∧ KeepBut w w' g none := by
 induction k using Nat.strongRecOn with
 | _ k ih =>
 intro g s0_0 s0_1 s0_2 a1 r1 r2 r3 r4 r5 w0 w hI hB h
 cases k with
 | zero => exact absurd h (by simp [spec_l3Draw.f])
 | succ k =>
 simp only [spec_l3Draw.f] at h
 have hu29 := Try.underlying29
 have HI0 := am_ hI
 have HK := am_ (KeepBut.refl w g none)
 have HL := am_ hB.size
 clear hI
 have HW0 := am_ hB.size
 have HB := am_ hB
 clear hB
 have H : (if a1 < 2 then (spec_l3Draw.j0 k a1 true s0_0 s0_1 s0_2) else ((spec_l1Once.f s0_0 s0_1 s0_2 5).bind fun bt749 => (spec_l3Draw.j0 k a1 bt749.1 s0_0 bt749.2.1 bt749.2.2))) = some (r1, r2, r3, r4, r5) := h
 clear h
 have HC3 := am_ H
 clear H
 go_enter Try.func61, Try.ntmps61
 go_upto_region 1 with (first | ((with_reducible refine gate_dst (N := 4) rfl ?_); refine box_event ?hg (N := 4) ?hd (cs := #[.int .i64 0, .string (⟨#[]⟩ : ByteArray), .slice none 0 0]) (t := 29) ?hr ?_; (case hd => rfl); (case hg => rfl); (case hr => first | (go_simp; done) | (go_simp; rfl)); intro ab hg w4 hbox hb; have n0_ := am_ (IsS93.below (by repeat (first | (with_reducible first | exact HI0.out | apply IsS93.alloc | apply IsS93.drewN | apply IsS93.drew | apply IsS93.set_1 | apply IsS93.set_2) | exact HI0.out)) hb); have n1_ := am_ (KeepBut.trans (k0_ HK.out) (KeepBut.of_below hb g none) (.inl rfl)); have n2_ := am_ (below_step (b1_ HB.out (IsS93.ge HI0.out)) hb); have n3_ := am_ (hbox); have n4_ := am_ ((by rw [hg]; exact (keep_size (w := w) (g := g) (row := none) (k0_ HK.out)) : w.heap.size ≤ ab)); have n5_ := am_ ((Nat.le_trans HW0.out (by rw [hg]; exact (keep_size (w := w) (g := g) (row := none) (k0_ HK.out)) : w.heap.size ≤ ab) : w0.heap.size ≤ ab)); have n6_ := am_ ((by rw [hg]; exact Nat.ne_of_lt (IsS93.lt (show IsS93 w0 _ g s0_0 s0_1 s0_2 from by repeat (first | (with_reducible first | exact HI0.out | apply IsS93.alloc | apply IsS93.drewN | apply IsS93.drew | apply IsS93.set_1 | apply IsS93.set_2) | exact HI0.out))) : g ≠ ab)); have n7_ := am_ ((by rw [hg]; exact Nat.ne_of_gt (IsS93.lt (show IsS93 w0 _ g s0_0 s0_1 s0_2 from by repeat (first | (with_reducible first | exact HI0.out | apply IsS93.alloc | apply IsS93.drewN | apply IsS93.drew | apply IsS93.set_1 | apply IsS93.set_2) | exact HI0.out))) : ab ≠ g)); clear HI0; clear HK; clear HB; have HI0 := n0_; have HK := n1_; have HB := n2_; have aa := n3_; have ae := n4_; have ai := n5_; have ad := n6_; have aj := n7_; clear n0_ n1_ n2_ n3_ n4_ n5_ n6_ n7_; clear hb hbox hg))
 (try simp only [Act.put, List.setIfInBounds_toArray, List.set_cons_zero, List.set_cons_succ])
 go_cut [13] (fun v13 wc => ∃ (kq : Nat) (bx : Bool) (aJ : Int) (aK : Int), v13 = .bool bx ∧ Aside0 (spec_l3Draw.j0 kq a1 bx s0_0 aJ aK = some (r1, r2, r3, r4, r5)) ∧ Aside0 (kq ≤ k) ∧ Aside0 (wc.heap[ab]? = some (.cells #[.int .i64 0, .string (⟨#[]⟩ : ByteArray), (.slice none 0 0)] 29 (0, 0))) ∧ Aside0 (IsS93 w0 wc g s0_0 aJ aK) ∧ Aside0 (KeepBut w wc g none) ∧ Aside0 (Below w0.heap.size w0 wc))
 case first =>
  have H := HC3.out
  clear HC3
  by_cases c5 : a1 < 2
  ·rw [if_pos c5] at H
   have c5b0 : decide (a1 < 2) = true := decide_eq_true c5
   clear c5
   (first | rw [c5b0] | (simp only [i64_w, i32_w]; rw [c5b0]) | skip)
   have H' := am_ H
   clear H
   go_wp2
   go_meet
   case rel => exact ⟨_, (true), (s0_1), (s0_2), (by first | rfl | (simp; done) | (simp [*]; done)), H', ⟨by first | omega | exact Nat.le_refl _⟩, ⟨by refine rb_ ?_; exact aa.out⟩, ⟨by exact zp45_0_ HI0.out ad.out⟩, ⟨by exact zp45_1_ HK.out ae.out⟩, ⟨by exact zp45_2_ HB.out (IsS93.ge HI0.out) ai.out⟩⟩
  ·rw [if_neg c5] at H
   have c5b0 : decide (a1 < 2) = false := decide_eq_false c5
   clear c5
   (first | rw [c5b0] | (simp only [i64_w, i32_w]; rw [c5b0]) | skip)
   replace H := Option.bind_eq_some_iff.mp H
   obtain ⟨⟨cp, cq, cr⟩, A60, H⟩ := H
   replace H : (spec_l3Draw.j0 k a1 cp s0_0 cq cr) = some (r1, r2, r3, r4, r5) := H
   have A6 := am_ A60
   clear A60
   have H' := am_ H
   clear H
   go_wp2_with (first | (go_at_call 63; (with_reducible refine (spec_l1Once.calls g s0_0 s0_1 s0_2 5 cp cq cr w0 _ ?side1 ?side2 A6.out).mono ?_); (case side1 => exact zp45_0_ HI0.out ad.out); (case side2 => exact zp45_2_ HB.out (IsS93.ge HI0.out) ai.out); rintro e w7 ⟨rfl, hi, hb, hk⟩; have n0_ := am_ (KeepBut.blk hk (g' := ab) (o := .cells #[.int .i64 0, .string (⟨#[]⟩ : ByteArray), .slice none 0 0] 29 (0, 0)) (rb_ aa.out) aj.out (by simp)); have n1_ := am_ (KeepBut.trans (k1_ HK.out ae.out) hk (.inl rfl)); have n2_ := am_ (hb); have n3_ := am_ (hi); clear aa; clear HK; clear HB; clear HI0; have aa := n0_; have HK := n1_; have HB := n2_; have HI0 := n3_; clear n0_ n1_ n2_ n3_; (try clear hb); (try clear hb2); (try clear hk); (try clear hi)))
   go_meet
   case rel => exact ⟨_, (cp), (cq), (cr), (by first | rfl | (simp; done) | (simp [*]; done)), H', ⟨by first | omega | exact Nat.le_refl _⟩, ⟨by refine rb_ ?_; exact aa.out⟩, ⟨by exact zp45_0_ HI0.out ad.out⟩, ⟨by exact zp45_1_ HK.out ae.out⟩, ⟨by exact zp45_2_ HB.out (IsS93.ge HI0.out) ai.out⟩⟩
 case rest =>
  clear HC3
  try clear p2
  try clear c5
  try clear c5b0
  try clear c6
  obtain ⟨kq, bx, aJ, aK, rfl, HA, HJ2, aa, HI0, HK, HB⟩ := hcut
  cases kq with
  | zero => exact absurd HA.out (by simp [spec_l3Draw.j0])
  | succ kj2 =>
   have H := HA.out
   clear HA
   simp only [spec_l3Draw.j0] at H
   by_cases c8 : bx = true
   ·subst c8
    have H1 : ((spec_l1Below.f s0_0 aJ aK 8).bind fun bt752 => (if bt752.1 = 0 then (some (2, (⟨#[]⟩ : ByteArray), ([] : List (S29)), bt752.2.1, bt752.2.2)) else (if bt752.1 = 1 then (some (4, (⟨#[]⟩ : ByteArray), ([] : List (S29)), bt752.2.1, bt752.2.2)) else (if bt752.1 = 2 then (some (1, (⟨#[]⟩ : ByteArray), ([] : List (S29)), bt752.2.1, bt752.2.2)) else ((spec_l1Pick.f s0_0 bt752.2.1 bt752.2.2 (([(⟨#[97]⟩ : ByteArray), (⟨#[97]⟩ : ByteArray), (⟨#[98]⟩ : ByteArray), (⟨#[98]⟩ : ByteArray), (⟨#[99]⟩ : ByteArray)] : List ByteArray))).bind fun bt758 => (some (3, bt758.1, ([] : List (S29)), bt758.2.1, bt758.2.2))))))) = some (r1, r2, r3, r4, r5) := by rw [if_pos rfl] at H; exact H
    clear H
    have H := H1
    clear H1
    replace H := Option.bind_eq_some_iff.mp H
    obtain ⟨⟨aI, bd, be⟩, A90, H⟩ := H
    have A9 := am_ A90
    clear A90
    by_cases c10 : aI = 0
    ·rw [if_pos c10] at H
     have c10b0 : (aI == 0) = true := beq_iff_eq.mpr c10
     have c10b1 : (aI != 0) = false := bne_eq_false_iff_eq.mpr c10
     clear c10
     simp only [Option.some.injEq, Prod.mk.injEq] at H
     obtain ⟨rfl, rfl, rfl, rfl, rfl⟩ := H
     go_wp2_with (first | ((with_reducible refine gate_callee (f := 62) rfl ?_); refine gL_ (some 15) Try.func62 #[.pointer (some ⟨g, 0, none⟩), .int .i64 8] ?_; (with_reducible refine (spec_l1Below.calls g s0_0 aJ aK 8 aI bd be w0 _ ?side1 ?side2 A9.out).mono ?_); (case side1 => exact zp45_0_ HI0.out ad.out); (case side2 => exact zp45_2_ HB.out (IsS93.ge HI0.out) ai.out); rintro e w11 ⟨rfl, hi, hb, hk⟩; refine ⟨_, rfl, ?_⟩; have n0_ := am_ (KeepBut.blk hk (g' := ab) (o := .cells #[.int .i64 0, .string (⟨#[]⟩ : ByteArray), .slice none 0 0] 29 (0, 0)) (rb_ aa.out) aj.out (by simp)); have n1_ := am_ (KeepBut.trans (k1_ HK.out ae.out) hk (.inl rfl)); have n2_ := am_ (hb); have n3_ := am_ (hi); clear aa; clear HK; clear HB; clear HI0; have aa := n0_; have HK := n1_; have HB := n2_; have HI0 := n3_; clear n0_ n1_ n2_ n3_; (try clear hb); (try clear hb2); (try clear hk); (try clear hi); have ew := aj.out; have ex := ad.out; have bN := ck_ (v := (.int .i64 0)) aa 0 rfl; have bO := ck_ (v := (.string (⟨#[]⟩ : ByteArray))) aa 1 rfl; have bP := ck_ (v := (.slice none 0 0)) aa 2 rfl; have bQ := blk_frozen aa.out 0; have bR := blk_frozen aa.out 1; have bS := blk_frozen aa.out 2))
     refine bodyPost_ret (results_cell_row rfl _ _ ab 29 #[.int .i64 2, .string (⟨#[]⟩ : ByteArray), .slice none 0 0] (0, 0) _ rfl (by refine rb_ ?_; refine blk_put (cs := #[.int .i64 2, .string (⟨#[]⟩ : ByteArray), .slice none 0 0]) ?_ 2 _ rfl; refine rb_ ?_; refine blk_put (cs := #[.int .i64 2, .string (⟨#[]⟩ : ByteArray), .slice none 0 0]) ?_ 1 _ rfl; refine rb_ ?_; refine blk_put (cs := #[.int .i64 0, .string (⟨#[]⟩ : ByteArray), .slice none 0 0]) ?_ 0 _ rfl; refine rb_ ?_; exact aa.out) Try.underlying29 rfl (by kernel_rfl)) rfl ?_
     exact ⟨_, by first | rfl | (simp [errW_none, errW_some] <;> rfl) | (simp [*, errW_none, errW_some] <;> rfl), by first | exact Kd.R_nil _ _ _ _ _ | exact Kd.N_nil _ _ _ _ _ | exact Kd.V_nil _ _ _ _ _ | exact Kd.Q_nil _ _ _ _ _ | exact Kd.S_nil _ _ _ _ _, by exact zp45_0_ HI0.out ad.out, by exact zp45_2_ HB.out (IsS93.ge HI0.out) ai.out, by exact zp45_1_ HK.out ae.out⟩
    ·rw [if_neg c10] at H
     have c10b0 : (aI == 0) = false := beq_eq_false_iff_ne.mpr c10
     have c10b1 : (aI != 0) = true := bne_iff_ne.mpr c10
     by_cases c14 : aI = 1
     ·rw [if_pos c14] at H
      have c14b0 : (aI == 1) = true := beq_iff_eq.mpr c14
      have c14b1 : (aI != 1) = false := bne_eq_false_iff_eq.mpr c14
      clear c14
      simp only [Option.some.injEq, Prod.mk.injEq] at H
      obtain ⟨rfl, rfl, rfl, rfl, rfl⟩ := H
      go_wp2_with (first | ((with_reducible refine gate_callee (f := 62) rfl ?_); refine gL_ (some 15) Try.func62 #[.pointer (some ⟨g, 0, none⟩), .int .i64 8] ?_; (with_reducible refine (spec_l1Below.calls g s0_0 aJ aK 8 aI bd be w0 _ ?side1 ?side2 A9.out).mono ?_); (case side1 => exact zp45_0_ HI0.out ad.out); (case side2 => exact zp45_2_ HB.out (IsS93.ge HI0.out) ai.out); rintro e w15 ⟨rfl, hi, hb, hk⟩; refine ⟨_, rfl, ?_⟩; have n0_ := am_ (KeepBut.blk hk (g' := ab) (o := .cells #[.int .i64 0, .string (⟨#[]⟩ : ByteArray), .slice none 0 0] 29 (0, 0)) (rb_ aa.out) aj.out (by simp)); have n1_ := am_ (KeepBut.trans (k1_ HK.out ae.out) hk (.inl rfl)); have n2_ := am_ (hb); have n3_ := am_ (hi); clear aa; clear HK; clear HB; clear HI0; have aa := n0_; have HK := n1_; have HB := n2_; have HI0 := n3_; clear n0_ n1_ n2_ n3_; (try clear hb); (try clear hb2); (try clear hk); (try clear hi); have ey := aj.out; have ez := ad.out; have bT := ck_ (v := (.int .i64 0)) aa 0 rfl; have bU := ck_ (v := (.string (⟨#[]⟩ : ByteArray))) aa 1 rfl; have bV := ck_ (v := (.slice none 0 0)) aa 2 rfl; have bW := blk_frozen aa.out 0; have bX := blk_frozen aa.out 1; have bY := blk_frozen aa.out 2))
      refine bodyPost_ret (results_cell_row rfl _ _ ab 29 #[.int .i64 4, .string (⟨#[]⟩ : ByteArray), .slice none 0 0] (0, 0) _ rfl (by refine rb_ ?_; refine blk_put (cs := #[.int .i64 4, .string (⟨#[]⟩ : ByteArray), .slice none 0 0]) ?_ 2 _ rfl; refine rb_ ?_; refine blk_put (cs := #[.int .i64 4, .string (⟨#[]⟩ : ByteArray), .slice none 0 0]) ?_ 1 _ rfl; refine rb_ ?_; refine blk_put (cs := #[.int .i64 0, .string (⟨#[]⟩ : ByteArray), .slice none 0 0]) ?_ 0 _ rfl; refine rb_ ?_; exact aa.out) Try.underlying29 rfl (by kernel_rfl)) rfl ?_
      exact ⟨_, by first | rfl | (simp [errW_none, errW_some] <;> rfl) | (simp [*, errW_none, errW_some] <;> rfl), by first | exact Kd.R_nil _ _ _ _ _ | exact Kd.N_nil _ _ _ _ _ | exact Kd.V_nil _ _ _ _ _ | exact Kd.Q_nil _ _ _ _ _ | exact Kd.S_nil _ _ _ _ _, by exact zp45_0_ HI0.out ad.out, by exact zp45_2_ HB.out (IsS93.ge HI0.out) ai.out, by exact zp45_1_ HK.out ae.out⟩
     ·rw [if_neg c14] at H
      have c14b0 : (aI == 1) = false := beq_eq_false_iff_ne.mpr c14
      have c14b1 : (aI != 1) = true := bne_iff_ne.mpr c14
      by_cases c18 : aI = 2
      ·rw [if_pos c18] at H
       have c18b0 : (aI == 2) = true := beq_iff_eq.mpr c18
       have c18b1 : (aI != 2) = false := bne_eq_false_iff_eq.mpr c18
       clear c18
       simp only [Option.some.injEq, Prod.mk.injEq] at H
       obtain ⟨rfl, rfl, rfl, rfl, rfl⟩ := H
       go_wp2_with (first | ((with_reducible refine gate_callee (f := 62) rfl ?_); refine gL_ (some 15) Try.func62 #[.pointer (some ⟨g, 0, none⟩), .int .i64 8] ?_; (with_reducible refine (spec_l1Below.calls g s0_0 aJ aK 8 aI bd be w0 _ ?side1 ?side2 A9.out).mono ?_); (case side1 => exact zp45_0_ HI0.out ad.out); (case side2 => exact zp45_2_ HB.out (IsS93.ge HI0.out) ai.out); rintro e w19 ⟨rfl, hi, hb, hk⟩; refine ⟨_, rfl, ?_⟩; have n0_ := am_ (KeepBut.blk hk (g' := ab) (o := .cells #[.int .i64 0, .string (⟨#[]⟩ : ByteArray), .slice none 0 0] 29 (0, 0)) (rb_ aa.out) aj.out (by simp)); have n1_ := am_ (KeepBut.trans (k1_ HK.out ae.out) hk (.inl rfl)); have n2_ := am_ (hb); have n3_ := am_ (hi); clear aa; clear HK; clear HB; clear HI0; have aa := n0_; have HK := n1_; have HB := n2_; have HI0 := n3_; clear n0_ n1_ n2_ n3_; (try clear hb); (try clear hb2); (try clear hk); (try clear hi); have eA := aj.out; have eB := ad.out; have bZ := ck_ (v := (.int .i64 0)) aa 0 rfl; have ca := ck_ (v := (.string (⟨#[]⟩ : ByteArray))) aa 1 rfl; have cb := ck_ (v := (.slice none 0 0)) aa 2 rfl; have cc := blk_frozen aa.out 0; have cd := blk_frozen aa.out 1; have ce := blk_frozen aa.out 2))
       refine bodyPost_ret (results_cell_row rfl _ _ ab 29 #[.int .i64 1, .string (⟨#[]⟩ : ByteArray), .slice none 0 0] (0, 0) _ rfl (by refine rb_ ?_; refine blk_put (cs := #[.int .i64 1, .string (⟨#[]⟩ : ByteArray), .slice none 0 0]) ?_ 2 _ rfl; refine rb_ ?_; refine blk_put (cs := #[.int .i64 1, .string (⟨#[]⟩ : ByteArray), .slice none 0 0]) ?_ 1 _ rfl; refine rb_ ?_; refine blk_put (cs := #[.int .i64 0, .string (⟨#[]⟩ : ByteArray), .slice none 0 0]) ?_ 0 _ rfl; refine rb_ ?_; exact aa.out) Try.underlying29 rfl (by kernel_rfl)) rfl ?_
       exact ⟨_, by first | rfl | (simp [errW_none, errW_some] <;> rfl) | (simp [*, errW_none, errW_some] <;> rfl), by first | exact Kd.R_nil _ _ _ _ _ | exact Kd.N_nil _ _ _ _ _ | exact Kd.V_nil _ _ _ _ _ | exact Kd.Q_nil _ _ _ _ _ | exact Kd.S_nil _ _ _ _ _, by exact zp45_0_ HI0.out ad.out, by exact zp45_2_ HB.out (IsS93.ge HI0.out) ai.out, by exact zp45_1_ HK.out ae.out⟩
      ·rw [if_neg c18] at H
       have c18b0 : (aI == 2) = false := beq_eq_false_iff_ne.mpr c18
       have c18b1 : (aI != 2) = true := bne_iff_ne.mpr c18
       obtain ⟨ct, hy755⟩ : ∃ y_ : List ByteArray, y_ = (([(⟨#[97]⟩ : ByteArray), (⟨#[97]⟩ : ByteArray), (⟨#[98]⟩ : ByteArray), (⟨#[98]⟩ : ByteArray), (⟨#[99]⟩ : ByteArray)] : List ByteArray)) := ⟨_, rfl⟩
       replace H : ((spec_l1Pick.f s0_0 bd be ct).bind fun bt758 => (some (3, bt758.1, ([] : List (S29)), bt758.2.1, bt758.2.2))) = some (r1, r2, r3, r4, r5) := by first | (rw [hy755]; with_reducible exact H) | (have H2_ := (Option.bind_some _ _).symm.trans H; rw [hy755]; with_reducible exact H2_) | (have H2_ := (Option.bind_some _ _).symm.trans H; with_reducible exact H2_) | with_reducible exact H | (rw [hy755]; exact H) | exact H
       have cz := am_ hy755
       clear hy755
       replace H := Option.bind_eq_some_iff.mp H
       obtain ⟨⟨co, di, dj⟩, dk, H⟩ := H
       replace H : (some (3, co, ([] : List (S29)), di, dj)) = some (r1, r2, r3, r4, r5) := H
       have A22 := am_ dk
       clear dk
       simp only [Option.some.injEq, Prod.mk.injEq] at H
       obtain ⟨rfl, rfl, rfl, rfl, rfl⟩ := H
       go_wp2_with (first | ((with_reducible refine gate_callee (f := 62) rfl ?_); refine gL_ (some 15) Try.func62 #[.pointer (some ⟨g, 0, none⟩), .int .i64 8] ?_; (with_reducible refine (spec_l1Below.calls g s0_0 aJ aK 8 aI bd be w0 _ ?side1 ?side2 A9.out).mono ?_); (case side1 => exact zp45_0_ HI0.out ad.out); (case side2 => exact zp45_2_ HB.out (IsS93.ge HI0.out) ai.out); rintro e w23 ⟨rfl, hi, hb, hk⟩; refine ⟨_, rfl, ?_⟩; have n0_ := am_ (KeepBut.blk hk (g' := ab) (o := .cells #[.int .i64 0, .string (⟨#[]⟩ : ByteArray), .slice none 0 0] 29 (0, 0)) (rb_ aa.out) aj.out (by simp)); have n1_ := am_ (KeepBut.trans (k1_ HK.out ae.out) hk (.inl rfl)); have n2_ := am_ (hb); have n3_ := am_ (hi); clear aa; clear HK; clear HB; clear HI0; have aa := n0_; have HK := n1_; have HB := n2_; have HI0 := n3_; clear n0_ n1_ n2_ n3_; (try clear hb); (try clear hb2); (try clear hk); (try clear hi)) | ((with_reducible refine gate_dst (N := 26) rfl ?_); refine Kd.R_lit Kd.string _ 9 ?hg (N := 26) ?hd (xs := ([(⟨#[97]⟩ : ByteArray), (⟨#[97]⟩ : ByteArray), (⟨#[98]⟩ : ByteArray), (⟨#[98]⟩ : ByteArray), (⟨#[99]⟩ : ByteArray)] : List ByteArray)) (inner := [.string (⟨#[97]⟩ : ByteArray), .string (⟨#[97]⟩ : ByteArray), .string (⟨#[98]⟩ : ByteArray), .string (⟨#[98]⟩ : ByteArray), .string (⟨#[99]⟩ : ByteArray)]) (ok := fun _ => True) (okp := fun _ => True) ?hr ?hp (fun _ hk => hk) trivial (Below.refl _ _) (Nat.le_refl _) (by simp) ?_; (case hd => rfl); (case hg => rfl); (case hr => first | (go_simp; done) | (go_simp; rfl)); (case hp => exact (Reps.one (show Kd.M Kd.string _ _ _ (⟨#[97]⟩ : ByteArray) [.string (⟨#[97]⟩ : ByteArray)] from rfl) (Reps.one (show Kd.M Kd.string _ _ _ (⟨#[97]⟩ : ByteArray) [.string (⟨#[97]⟩ : ByteArray)] from rfl) (Reps.one (show Kd.M Kd.string _ _ _ (⟨#[98]⟩ : ByteArray) [.string (⟨#[98]⟩ : ByteArray)] from rfl) (Reps.one (show Kd.M Kd.string _ _ _ (⟨#[98]⟩ : ByteArray) [.string (⟨#[98]⟩ : ByteArray)] from rfl) (Reps.one (show Kd.M Kd.string _ _ _ (⟨#[99]⟩ : ByteArray) [.string (⟨#[99]⟩ : ByteArray)] from rfl) (Reps.none _ _))))))); intro eU w24 ho25 hb hg_ hnew_; clear hg_ hnew_; (first | rw [← cz.out] at ho25 | (simp only [Int.reduceToNat] at ho25; rw [← cz.out] at ho25)); have n0_ := am_ (Kd.R_lower (Kd.R_newM (M := fun k_ => (w.heap.size ≤ k_)) ho25 (keep_size (w := w) (g := g) (row := none) (k1_ HK.out ae.out)) (fun k_ h_ => h_)) (keep_size (w := w) (g := g) (row := none) (k1_ HK.out ae.out))); have n1_ := am_ (blk_below (rb_ aa.out) hb); have n2_ := am_ (IsS93.below (zp45_0_ HI0.out ad.out) hb); have n3_ := am_ (KeepBut.trans (k1_ HK.out ae.out) (KeepBut.of_below hb g none) (.inl rfl)); have n4_ := am_ (below_step (b2_ HB.out (IsS93.ge HI0.out) ai.out) hb); clear aa; clear HI0; clear HK; clear HB; have bc := n0_; have aa := n1_; have HI0 := n2_; have HK := n3_; have HB := n4_; clear n0_ n1_ n2_ n3_ n4_; clear hb ho25; obtain ⟨eb, ec, ed⟩ := Kd.R_slice bc.out; subst ed) | ((with_reducible refine gate_callee (f := 60) rfl ?_); refine gL_ (some 27) Try.func60 #[.pointer (some ⟨g, 0, none⟩), .slice eb ct.length ec] ?_; (with_reducible refine (spec_l1Pick.calls g s0_0 bd be _ _ ct co di dj w0 _ ?side1 ?side2 ?side3 ?side4 ?side5 A22.out).mono ?_); (case side1 => exact zp45_0_ HI0.out ad.out); (case side2 => exact zp45_2_ HB.out (IsS93.ge HI0.out) ai.out); (case side3 => exact rc_ ((Kd.R_reads' bc.out).2.2)); (case side4 => exact (Kd.R_reads' bc.out).2.1); (case side5 => exact far_slice (IsS93.own_ne HI0.out bc.out (by decide))); rintro e w27 ⟨rfl, hi, hb, hk⟩; refine ⟨_, rfl, ?_⟩; have n0_ := am_ (KeepBut.blk hk (g' := ab) (o := .cells #[.int .i64 0, .string (⟨#[]⟩ : ByteArray), .slice none 0 0] 29 (0, 0)) (rb_ aa.out) aj.out (by simp)); have n1_ := am_ (Kd.R_mono (Kd.R_keep (IsS93.apart (show IsS93 w0 _ g s0_0 bd be from by exact zp45_0_ HI0.out ad.out) (rr_ bc.out) (by decide)) hk (fun _ h => h.2)) (fun _ h => h.1)); have n2_ := am_ (KeepBut.trans (k1_ HK.out ae.out) hk (.inl rfl)); have n3_ := am_ (hb); have n4_ := am_ (hi); clear aa; clear bc; clear HK; clear HB; clear HI0; have aa := n0_; have bc := n1_; have HK := n2_; have HB := n3_; have HI0 := n4_; clear n0_ n1_ n2_ n3_ n4_; (try clear hb); (try clear hb2); (try clear hk); (try clear hi); have eC := aj.out; have eD := ad.out; have cf := ck_ (v := (.int .i64 0)) aa 0 rfl; have cg := ck_ (v := (.string (⟨#[]⟩ : ByteArray))) aa 1 rfl; have ch := ck_ (v := (.slice none 0 0)) aa 2 rfl; have ci := blk_frozen aa.out 0; have cj := blk_frozen aa.out 1; have ck := blk_frozen aa.out 2))
       refine bodyPost_ret (results_cell_row rfl _ _ ab 29 #[.int .i64 3, .string co, .slice none 0 0] (0, 0) _ rfl (by refine rb_ ?_; refine blk_put (cs := #[.int .i64 3, .string co, .slice none 0 0]) ?_ 2 _ rfl; refine rb_ ?_; refine blk_put (cs := #[.int .i64 3, .string (⟨#[]⟩ : ByteArray), .slice none 0 0]) ?_ 1 _ rfl; refine rb_ ?_; refine blk_put (cs := #[.int .i64 0, .string (⟨#[]⟩ : ByteArray), .slice none 0 0]) ?_ 0 _ rfl; refine rb_ ?_; exact aa.out) Try.underlying29 rfl (by kernel_rfl)) rfl ?_
       exact ⟨_, by first | rfl | (simp [errW_none, errW_some] <;> rfl) | (simp [*, errW_none, errW_some] <;> rfl), by first | exact Kd.R_nil _ _ _ _ _ | exact Kd.N_nil _ _ _ _ _ | exact Kd.V_nil _ _ _ _ _ | exact Kd.Q_nil _ _ _ _ _ | exact Kd.S_nil _ _ _ _ _, by exact zp45_0_ HI0.out ad.out, by exact zp45_2_ HB.out (IsS93.ge HI0.out) ai.out, by exact zp45_1_ HK.out ae.out⟩
   ·replace c8 := Bool.eq_false_iff.mpr c8
    subst c8
    have H1 : ((spec_l1Below.f s0_0 aJ aK 10).bind fun bt761 => (if bt761.1 = 0 then (spec_l3Draw.j1 kj2 a1 bt761.1 (bt761.1 == 0) s0_0 bt761.2.1 bt761.2.2) else (if bt761.1 = 1 then (spec_l3Draw.j1 kj2 a1 bt761.1 (bt761.1 == 1) s0_0 bt761.2.1 bt761.2.2) else (spec_l3Draw.j1 kj2 a1 bt761.1 (bt761.1 == 2) s0_0 bt761.2.1 bt761.2.2)))) = some (r1, r2, r3, r4, r5) := by rw [if_neg (show ¬ (false = true) by decide)] at H; exact H
    clear H
    have H := H1
    clear H1
    replace H := Option.bind_eq_some_iff.mp H
    obtain ⟨⟨ak, aL, aM⟩, dl, H⟩ := H
    have A30 := am_ dl
    clear dl
    have HC31 := am_ H
    clear H
    go_upto_if 31 with (first | ((with_reducible refine gate_callee (f := 62) rfl ?_); refine gL_ (some 30) Try.func62 #[.pointer (some ⟨g, 0, none⟩), .int .i64 10] ?_; (with_reducible refine (spec_l1Below.calls g s0_0 aJ aK 10 ak aL aM w0 _ ?side1 ?side2 A30.out).mono ?_); (case side1 => exact zp45_0_ HI0.out ad.out); (case side2 => exact zp45_2_ HB.out (IsS93.ge HI0.out) ai.out); rintro e w32 ⟨rfl, hi, hb, hk⟩; refine ⟨_, rfl, ?_⟩; have n0_ := am_ (KeepBut.blk hk (g' := ab) (o := .cells #[.int .i64 0, .string (⟨#[]⟩ : ByteArray), .slice none 0 0] 29 (0, 0)) (rb_ aa.out) aj.out (by simp)); have n1_ := am_ (KeepBut.trans (k1_ HK.out ae.out) hk (.inl rfl)); have n2_ := am_ (hb); have n3_ := am_ (hi); clear aa; clear HK; clear HB; clear HI0; have aa := n0_; have HK := n1_; have HB := n2_; have HI0 := n3_; clear n0_ n1_ n2_ n3_; (try clear hb); (try clear hb2); (try clear hk); (try clear hi)))
    (try simp only [Act.put, List.setIfInBounds_toArray, List.set_cons_zero, List.set_cons_succ])
    go_cut [31] (fun v31 wc => ∃ (kq : Nat) (bv : Bool), v31 = .bool bv ∧ Aside0 (spec_l3Draw.j1 kq a1 ak bv s0_0 aL aM = some (r1, r2, r3, r4, r5)) ∧ Aside0 (kq ≤ kj2) ∧ Aside0 (wc.heap[ab]? = some (.cells #[.int .i64 0, .string (⟨#[]⟩ : ByteArray), (.slice none 0 0)] 29 (0, 0))) ∧ Aside0 (IsS93 w0 wc g s0_0 aL aM) ∧ Aside0 (KeepBut w wc g none) ∧ Aside0 (Below w0.heap.size w0 wc))
    case first =>
     have H := HC31.out
     clear HC31
     by_cases c33 : ak = 0
     ·rw [if_pos c33] at H
      have c33b0 : (ak == 0) = true := beq_iff_eq.mpr c33
      have c33b1 : (ak != 0) = false := bne_eq_false_iff_eq.mpr c33
      clear c33
      (first | rw [c33b0] | (simp only [i64_w, i32_w]; rw [c33b0]) | skip)
      have H' := am_ H
      clear H
      go_wp2
      go_meet
      case rel => exact ⟨_, ((ak == 0)), (by first | rfl | (simp; done) | (simp [*]; done)), H', ⟨by have := HJ2.out; first | omega | exact Nat.le_refl _⟩, ⟨by refine rb_ ?_; exact aa.out⟩, ⟨by exact zp45_0_ HI0.out ad.out⟩, ⟨by exact zp45_1_ HK.out ae.out⟩, ⟨by exact zp45_2_ HB.out (IsS93.ge HI0.out) ai.out⟩⟩
     ·rw [if_neg c33] at H
      have c33b0 : (ak == 0) = false := beq_eq_false_iff_ne.mpr c33
      have c33b1 : (ak != 0) = true := bne_iff_ne.mpr c33
      (first | rw [c33b0] | (simp only [i64_w, i32_w]; rw [c33b0]) | skip)
      by_cases c34 : ak = 1
      ·rw [if_pos c34] at H
       have c34b0 : (ak == 1) = true := beq_iff_eq.mpr c34
       have c34b1 : (ak != 1) = false := bne_eq_false_iff_eq.mpr c34
       clear c34
       have H' := am_ H
       clear H
       go_wp2
       go_meet
       case rel => exact ⟨_, ((ak == 1)), (by first | rfl | (simp; done) | (simp [*]; done)), H', ⟨by have := HJ2.out; first | omega | exact Nat.le_refl _⟩, ⟨by refine rb_ ?_; exact aa.out⟩, ⟨by exact zp45_0_ HI0.out ad.out⟩, ⟨by exact zp45_1_ HK.out ae.out⟩, ⟨by exact zp45_2_ HB.out (IsS93.ge HI0.out) ai.out⟩⟩
      ·rw [if_neg c34] at H
       have c34b0 : (ak == 1) = false := beq_eq_false_iff_ne.mpr c34
       have c34b1 : (ak != 1) = true := bne_iff_ne.mpr c34
       have H' := am_ H
       clear H
       go_wp2
       go_meet
       case rel => exact ⟨_, ((ak == 2)), (by first | rfl | (simp; done) | (simp [*]; done)), H', ⟨by have := HJ2.out; first | omega | exact Nat.le_refl _⟩, ⟨by refine rb_ ?_; exact aa.out⟩, ⟨by exact zp45_0_ HI0.out ad.out⟩, ⟨by exact zp45_1_ HK.out ae.out⟩, ⟨by exact zp45_2_ HB.out (IsS93.ge HI0.out) ai.out⟩⟩
    case rest =>
     clear HC31
     try clear c1
     try clear c2
     try clear p2
     try clear c3
     try clear c5
     try clear c5b0
     try clear c6
     try clear c8
     try clear c10
     try clear c10b0
     try clear c10b1
     try clear c12
     try clear c14
     try clear c14b0
     try clear c14b1
     try clear c16
     try clear c18
     try clear c18b0
     try clear c18b1
     try clear c20
     try clear c28
     try clear c33
     try clear c33b0
     try clear c33b1
     try clear c34
     try clear c34b0
     try clear c34b1
     try clear bN
     try clear bO
     try clear bP
     try clear bT
     try clear bU
     try clear bV
     try clear bZ
     try clear ca
     try clear cb
     try clear cf
     try clear cg
     try clear ch
     try clear bQ
     try clear bR
     try clear bS
     try clear bW
     try clear bX
     try clear bY
     try clear cc
     try clear cd
     try clear ce
     try clear ci
     try clear cj
     try clear ck
     try clear p2
     obtain ⟨kq, bv, rfl, HA, HJ30, aa, HI0, HK, HB⟩ := hcut
     cases kq with
     | zero => exact absurd HA.out (by simp [spec_l3Draw.j1])
     | succ kj30 =>
      have H := HA.out
      clear HA
      simp only [spec_l3Draw.j1] at H
      by_cases c35 : bv = true
      ·subst c35
       have H1 : ((spec_l3Draw.f kj30 s0_0 aL aM (wrap64 (a1 - 1))).bind fun bt764 => (some (8, (⟨#[]⟩ : ByteArray), (([(⟨bt764.1, bt764.2.1, bt764.2.2.1⟩ : S29)] : List (S29))), bt764.2.2.2.1, bt764.2.2.2.2))) = some (r1, r2, r3, r4, r5) := by rw [if_pos rfl] at H; exact H
       clear H
       have H := H1
       clear H1
       replace H := Option.bind_eq_some_iff.mp H
       obtain ⟨⟨bf, bg, bh, dm, dn⟩, dp, H⟩ := H
       have A36 := am_ dp
       clear dp
       obtain ⟨cu, hy771⟩ : ∃ y_ : List (S29), y_ = (([(⟨bf, bg, bh⟩ : S29)] : List (S29))) := ⟨_, rfl⟩
       replace H : (some (8, (⟨#[]⟩ : ByteArray), cu, dm, dn)) = some (r1, r2, r3, r4, r5) := by first | (rw [hy771]; with_reducible exact H) | (have H2_ := (Option.bind_some _ _).symm.trans H; rw [hy771]; with_reducible exact H2_) | (have H2_ := (Option.bind_some _ _).symm.trans H; with_reducible exact H2_) | with_reducible exact H | (rw [hy771]; exact H) | exact H
       have cA := am_ hy771
       clear hy771
       simp only [Option.some.injEq, Prod.mk.injEq] at H
       obtain ⟨rfl, rfl, rfl, rfl, rfl⟩ := H
       go_wp2_with (first | ((with_reducible refine gate_callee (f := 61) rfl ?_); refine gL_ (some 38) Try.func61 #[.pointer (some ⟨g, 0, none⟩), .int .i64 (wrap64 (a1 - 1))] ?_; (with_reducible refine (ih kj30 (by have := HJ2.out; have := HJ30.out; omega) g s0_0 aL aM (wrap64 (a1 - 1)) bf bg bh dm dn w0 _ ?side1 ?side2 A36.out).mono ?_); (case side1 => exact zp45_0_ HI0.out ad.out); (case side2 => exact zp45_2_ HB.out (IsS93.ge HI0.out) ai.out); rintro e w37 ⟨eV, rfl, ho0, hi, hb, hk⟩; refine ⟨_, rfl, ?_⟩; have n0_ := am_ (KeepBut.blk hk (g' := ab) (o := .cells #[.int .i64 0, .string (⟨#[]⟩ : ByteArray), .slice none 0 0] 29 (0, 0)) (rb_ aa.out) aj.out (by simp)); have n1_ := am_ (Kd.N_lower (Kd.N_mono (ok' := fun k_ => (w.heap.size ≤ k_) ∧ k_ ≠ ab ∧ k_ ≠ g) ho0 (fun k_ hk_ => ⟨(Nat.le_trans (keep_size (w := w) (g := g) (row := none) (k1_ HK.out ae.out)) hk_), (Kd.freshB (g := ab) (o := .cells #[.int .i64 0, .string (⟨#[]⟩ : ByteArray), .slice none 0 0] 29 (0, 0)) (rb_ aa.out) k_ hk_), (IsS93.fresh (zp45_0_ HI0.out ad.out) k_ hk_)⟩)) (keep_size (w := w) (g := g) (row := none) (k1_ HK.out ae.out))); have n2_ := am_ (KeepBut.trans (k1_ HK.out ae.out) hk (.inl rfl)); have n3_ := am_ (hb); have n4_ := am_ (hi); clear aa; clear HK; clear HB; clear HI0; have aa := n0_; have bz := n1_; have HK := n2_; have HB := n3_; have HI0 := n4_; clear n0_ n1_ n2_ n3_ n4_; (try clear hb); (try clear hb2); (try clear hk); (try clear hi); (try clear ho0); obtain ⟨dq, dr, ee⟩ := Kd.N_slice bz.out; subst ee) | ((with_reducible refine gate_dst (N := 39) rfl ?_); refine Kd.N_lit k29 _ 29 ?hg (N' := 39) ?hd (xs := ([(⟨bf, bg, bh⟩ : S29)] : List (S29))) (inner := [.int .i64 bf, .string bg, .slice dq bh.length dr]) (ok := (fun k_ => (w.heap.size ≤ k_) ∧ k_ ≠ ab ∧ k_ ≠ g)) (okp := (fun k_ => (w.heap.size ≤ k_) ∧ k_ ≠ ab ∧ k_ ≠ g)) ?hr ?hp (fun _ hk => hk) ((show ∀ k_, w37.heap.size ≤ k_ → (fun k_ => (w.heap.size ≤ k_) ∧ k_ ≠ ab ∧ k_ ≠ g) k_ from fun k_ hk => ⟨(Nat.le_trans (keep_size (w := w) (g := g) (row := none) (k1_ HK.out ae.out)) hk), Kd.freshB (g := ab) (o := .cells #[.int .i64 0, .string (⟨#[]⟩ : ByteArray), .slice none 0 0] 29 (0, 0)) (rb_ aa.out) k_ hk, IsS93.fresh (zp45_0_ HI0.out ad.out) k_ hk⟩) _ (Nat.le_refl _)) (Below.refl _ _) (Nat.le_refl _) (by simp) ?_; (case hd => rfl); (case hg => rfl); (case hr => first | (go_simp; done) | (go_simp; rfl)); (case hp => exact (Reps.c3 (show Kd.FK k29 _ _ (⟨bf, bg, bh⟩ : S29) [.int .i64 bf, .string bg, .slice dq bh.length dr] from (k29_mkF _ _ (⟨bf, bg, bh⟩ : S29) (Kd.N_reads' (Kd.N_mono (ok' := (fun k_ => (w.heap.size ≤ k_) ∧ k_ ≠ ab ∧ k_ ≠ g)) (bz.out) (fun k_ hk => ⟨hk.1, ⟨hk.2.1, hk.2.2⟩⟩))).2.1 (Kd.N_F (Kd.N_mono (ok' := (fun k_ => (w.heap.size ≤ k_) ∧ k_ ≠ ab ∧ k_ ≠ g)) (bz.out) (fun k_ hk => ⟨hk.1, ⟨hk.2.1, hk.2.2⟩⟩))))) (Reps.none _ _))); intro eW w39 ho40 hb hg_ hnew_; clear hg_ hnew_; (first | rw [← cA.out] at ho40 | (simp only [Int.reduceToNat] at ho40; rw [← cA.out] at ho40)); have n0_ := am_ (Kd.N_lower ho40 (keep_size (w := w) (g := g) (row := none) (k1_ HK.out ae.out))); have n1_ := am_ (blk_below (rb_ aa.out) hb); have n2_ := am_ (IsS93.below (zp45_0_ HI0.out ad.out) hb); have n3_ := am_ (KeepBut.trans (k1_ HK.out ae.out) (KeepBut.of_below hb g none) (.inl rfl)); have n4_ := am_ (below_step (b2_ HB.out (IsS93.ge HI0.out) ai.out) hb); clear aa; clear HI0; clear HK; clear HB; clear bz; have cB := n0_; have aa := n1_; have HI0 := n2_; have HK := n3_; have HB := n4_; clear n0_ n1_ n2_ n3_ n4_; clear hb ho40; obtain ⟨dt, du, ef⟩ := Kd.N_slice cB.out; subst ef; have eE := aj.out; have eF := ad.out; have cQ := ck_ (v := (.int .i64 0)) aa 0 rfl; have cR := ck_ (v := (.string (⟨#[]⟩ : ByteArray))) aa 1 rfl; have cS := ck_ (v := (.slice none 0 0)) aa 2 rfl; have cT := blk_frozen aa.out 0; have cU := blk_frozen aa.out 1; have cV := blk_frozen aa.out 2))
       refine bodyPost_ret (results_cell_row rfl _ _ ab 29 #[.int .i64 8, .string (⟨#[]⟩ : ByteArray), .slice dt cu.length du] (0, 0) _ rfl (by refine rb_ ?_; refine blk_put (cs := #[.int .i64 8, .string (⟨#[]⟩ : ByteArray), .slice none 0 0]) ?_ 2 _ rfl; refine rb_ ?_; refine blk_put (cs := #[.int .i64 8, .string (⟨#[]⟩ : ByteArray), .slice none 0 0]) ?_ 1 _ rfl; refine rb_ ?_; refine blk_put (cs := #[.int .i64 0, .string (⟨#[]⟩ : ByteArray), .slice none 0 0]) ?_ 0 _ rfl; refine rb_ ?_; exact aa.out) Try.underlying29 rfl (by kernel_rfl)) rfl ?_
       exact ⟨_, by first | rfl | (simp [errW_none, errW_some] <;> rfl) | (simp [*, errW_none, errW_some] <;> rfl), by refine rn_ ?_; exact Kd.N_mono (Kd.N_far (p := ⟨ab, 2, none⟩) (Kd.N_far (p := ⟨ab, 1, none⟩) (Kd.N_far (p := ⟨ab, 0, none⟩) (Kd.N_mono cB.out (fun k_ hk => (⟨hk, hk.2.1⟩ : _ ∧ k_ ≠ ab))) (fun _ hk => hk.2) (.int .i64 8)) (fun _ hk => hk.2) (.string (⟨#[]⟩ : ByteArray))) (fun _ hk => hk.2) (.slice dt cu.length du)) (fun _ hk => hk.1.1), by exact zp45_0_ HI0.out ad.out, by exact zp45_2_ HB.out (IsS93.ge HI0.out) ai.out, by exact zp45_1_ HK.out ae.out⟩
      ·replace c35 := Bool.eq_false_iff.mpr c35
       subst c35
       have H1 : (if ak = 3 then ((spec_l3Draw.f kj30 s0_0 aL aM (wrap64 (a1 - 1))).bind fun bt774 => (some (9, (⟨#[]⟩ : ByteArray), (([(⟨bt774.1, bt774.2.1, bt774.2.2.1⟩ : S29)] : List (S29))), bt774.2.2.2.1, bt774.2.2.2.2))) else (if ak = 4 then ((spec_l3Draw.f kj30 s0_0 aL aM (wrap64 (a1 - 1))).bind fun bt784 => ((spec_l3Draw.f kj30 s0_0 bt784.2.2.2.1 bt784.2.2.2.2 (wrap64 (a1 - 1))).bind fun bt792 => (some (7, (⟨#[]⟩ : ByteArray), (([(⟨bt784.1, bt784.2.1, bt784.2.2.1⟩ : S29), (⟨bt792.1, bt792.2.1, bt792.2.2.1⟩ : S29)] : List (S29))), bt792.2.2.2.1, bt792.2.2.2.2)))) else (if ak = 5 then (spec_l3Draw.j2 kj30 a1 (ak == 5) s0_0 aL aM) else (spec_l3Draw.j2 kj30 a1 (ak == 6) s0_0 aL aM)))) = some (r1, r2, r3, r4, r5) := by rw [if_neg (show ¬ (false = true) by decide)] at H; exact H
       clear H
       have H := H1
       clear H1
       by_cases c44 : ak = 3
       ·rw [if_pos c44] at H
        have c44b0 : (ak == 3) = true := beq_iff_eq.mpr c44
        have c44b1 : (ak != 3) = false := bne_eq_false_iff_eq.mpr c44
        clear c44
        replace H := Option.bind_eq_some_iff.mp H
        obtain ⟨⟨bi, bj, bk, dv, dw⟩, dx, H⟩ := H
        have A45 := am_ dx
        clear dx
        obtain ⟨cv, hy781⟩ : ∃ y_ : List (S29), y_ = (([(⟨bi, bj, bk⟩ : S29)] : List (S29))) := ⟨_, rfl⟩
        replace H : (some (9, (⟨#[]⟩ : ByteArray), cv, dv, dw)) = some (r1, r2, r3, r4, r5) := by first | (rw [hy781]; with_reducible exact H) | (have H2_ := (Option.bind_some _ _).symm.trans H; rw [hy781]; with_reducible exact H2_) | (have H2_ := (Option.bind_some _ _).symm.trans H; with_reducible exact H2_) | with_reducible exact H | (rw [hy781]; exact H) | exact H
        have cC := am_ hy781
        clear hy781
        simp only [Option.some.injEq, Prod.mk.injEq] at H
        obtain ⟨rfl, rfl, rfl, rfl, rfl⟩ := H
        go_wp2_with (first | ((with_reducible refine gate_callee (f := 61) rfl ?_); refine gL_ (some 46) Try.func61 #[.pointer (some ⟨g, 0, none⟩), .int .i64 (wrap64 (a1 - 1))] ?_; (with_reducible refine (ih kj30 (by have := HJ2.out; have := HJ30.out; omega) g s0_0 aL aM (wrap64 (a1 - 1)) bi bj bk dv dw w0 _ ?side1 ?side2 A45.out).mono ?_); (case side1 => exact zp45_0_ HI0.out ad.out); (case side2 => exact zp45_2_ HB.out (IsS93.ge HI0.out) ai.out); rintro e w46 ⟨eX, rfl, ho0, hi, hb, hk⟩; refine ⟨_, rfl, ?_⟩; have n0_ := am_ (KeepBut.blk hk (g' := ab) (o := .cells #[.int .i64 0, .string (⟨#[]⟩ : ByteArray), .slice none 0 0] 29 (0, 0)) (rb_ aa.out) aj.out (by simp)); have n1_ := am_ (Kd.N_lower (Kd.N_mono (ok' := fun k_ => (w.heap.size ≤ k_) ∧ k_ ≠ ab ∧ k_ ≠ g) ho0 (fun k_ hk_ => ⟨(Nat.le_trans (keep_size (w := w) (g := g) (row := none) (k1_ HK.out ae.out)) hk_), (Kd.freshB (g := ab) (o := .cells #[.int .i64 0, .string (⟨#[]⟩ : ByteArray), .slice none 0 0] 29 (0, 0)) (rb_ aa.out) k_ hk_), (IsS93.fresh (zp45_0_ HI0.out ad.out) k_ hk_)⟩)) (keep_size (w := w) (g := g) (row := none) (k1_ HK.out ae.out))); have n2_ := am_ (KeepBut.trans (k1_ HK.out ae.out) hk (.inl rfl)); have n3_ := am_ (hb); have n4_ := am_ (hi); clear aa; clear HK; clear HB; clear HI0; have aa := n0_; have bA := n1_; have HK := n2_; have HB := n3_; have HI0 := n4_; clear n0_ n1_ n2_ n3_ n4_; (try clear hb); (try clear hb2); (try clear hk); (try clear hi); (try clear ho0); obtain ⟨dy, dz, eg⟩ := Kd.N_slice bA.out; subst eg) | ((with_reducible refine gate_dst (N := 47) rfl ?_); refine Kd.N_lit k29 _ 29 ?hg (N' := 47) ?hd (xs := ([(⟨bi, bj, bk⟩ : S29)] : List (S29))) (inner := [.int .i64 bi, .string bj, .slice dy bk.length dz]) (ok := (fun k_ => (w.heap.size ≤ k_) ∧ k_ ≠ ab ∧ k_ ≠ g)) (okp := (fun k_ => (w.heap.size ≤ k_) ∧ k_ ≠ ab ∧ k_ ≠ g)) ?hr ?hp (fun _ hk => hk) ((show ∀ k_, w46.heap.size ≤ k_ → (fun k_ => (w.heap.size ≤ k_) ∧ k_ ≠ ab ∧ k_ ≠ g) k_ from fun k_ hk => ⟨(Nat.le_trans (keep_size (w := w) (g := g) (row := none) (k1_ HK.out ae.out)) hk), Kd.freshB (g := ab) (o := .cells #[.int .i64 0, .string (⟨#[]⟩ : ByteArray), .slice none 0 0] 29 (0, 0)) (rb_ aa.out) k_ hk, IsS93.fresh (zp45_0_ HI0.out ad.out) k_ hk⟩) _ (Nat.le_refl _)) (Below.refl _ _) (Nat.le_refl _) (by simp) ?_; (case hd => rfl); (case hg => rfl); (case hr => first | (go_simp; done) | (go_simp; rfl)); (case hp => exact (Reps.c3 (show Kd.FK k29 _ _ (⟨bi, bj, bk⟩ : S29) [.int .i64 bi, .string bj, .slice dy bk.length dz] from (k29_mkF _ _ (⟨bi, bj, bk⟩ : S29) (Kd.N_reads' (Kd.N_mono (ok' := (fun k_ => (w.heap.size ≤ k_) ∧ k_ ≠ ab ∧ k_ ≠ g)) (bA.out) (fun k_ hk => ⟨hk.1, ⟨hk.2.1, hk.2.2⟩⟩))).2.1 (Kd.N_F (Kd.N_mono (ok' := (fun k_ => (w.heap.size ≤ k_) ∧ k_ ≠ ab ∧ k_ ≠ g)) (bA.out) (fun k_ hk => ⟨hk.1, ⟨hk.2.1, hk.2.2⟩⟩))))) (Reps.none _ _))); intro eY w48 ho49 hb hg_ hnew_; clear hg_ hnew_; (first | rw [← cC.out] at ho49 | (simp only [Int.reduceToNat] at ho49; rw [← cC.out] at ho49)); have n0_ := am_ (Kd.N_lower ho49 (keep_size (w := w) (g := g) (row := none) (k1_ HK.out ae.out))); have n1_ := am_ (blk_below (rb_ aa.out) hb); have n2_ := am_ (IsS93.below (zp45_0_ HI0.out ad.out) hb); have n3_ := am_ (KeepBut.trans (k1_ HK.out ae.out) (KeepBut.of_below hb g none) (.inl rfl)); have n4_ := am_ (below_step (b2_ HB.out (IsS93.ge HI0.out) ai.out) hb); clear aa; clear HI0; clear HK; clear HB; clear bA; have cD := n0_; have aa := n1_; have HI0 := n2_; have HK := n3_; have HB := n4_; clear n0_ n1_ n2_ n3_ n4_; clear hb ho49; obtain ⟨dA, dB, eh⟩ := Kd.N_slice cD.out; subst eh; have eG := aj.out; have eH := ad.out; have cW := ck_ (v := (.int .i64 0)) aa 0 rfl; have cX := ck_ (v := (.string (⟨#[]⟩ : ByteArray))) aa 1 rfl; have cY := ck_ (v := (.slice none 0 0)) aa 2 rfl; have cZ := blk_frozen aa.out 0; have da := blk_frozen aa.out 1; have db := blk_frozen aa.out 2))
        refine bodyPost_ret (results_cell_row rfl _ _ ab 29 #[.int .i64 9, .string (⟨#[]⟩ : ByteArray), .slice dA cv.length dB] (0, 0) _ rfl (by refine rb_ ?_; refine blk_put (cs := #[.int .i64 9, .string (⟨#[]⟩ : ByteArray), .slice none 0 0]) ?_ 2 _ rfl; refine rb_ ?_; refine blk_put (cs := #[.int .i64 9, .string (⟨#[]⟩ : ByteArray), .slice none 0 0]) ?_ 1 _ rfl; refine rb_ ?_; refine blk_put (cs := #[.int .i64 0, .string (⟨#[]⟩ : ByteArray), .slice none 0 0]) ?_ 0 _ rfl; refine rb_ ?_; exact aa.out) Try.underlying29 rfl (by kernel_rfl)) rfl ?_
        exact ⟨_, by first | rfl | (simp [errW_none, errW_some] <;> rfl) | (simp [*, errW_none, errW_some] <;> rfl), by refine rn_ ?_; exact Kd.N_mono (Kd.N_far (p := ⟨ab, 2, none⟩) (Kd.N_far (p := ⟨ab, 1, none⟩) (Kd.N_far (p := ⟨ab, 0, none⟩) (Kd.N_mono cD.out (fun k_ hk => (⟨hk, hk.2.1⟩ : _ ∧ k_ ≠ ab))) (fun _ hk => hk.2) (.int .i64 9)) (fun _ hk => hk.2) (.string (⟨#[]⟩ : ByteArray))) (fun _ hk => hk.2) (.slice dA cv.length dB)) (fun _ hk => hk.1.1), by exact zp45_0_ HI0.out ad.out, by exact zp45_2_ HB.out (IsS93.ge HI0.out) ai.out, by exact zp45_1_ HK.out ae.out⟩
       ·rw [if_neg c44] at H
        have c44b0 : (ak == 3) = false := beq_eq_false_iff_ne.mpr c44
        have c44b1 : (ak != 3) = true := bne_iff_ne.mpr c44
        by_cases c53 : ak = 4
        ·rw [if_pos c53] at H
         have c53b0 : (ak == 4) = true := beq_iff_eq.mpr c53
         have c53b1 : (ak != 4) = false := bne_eq_false_iff_eq.mpr c53
         clear c53
         replace H := Option.bind_eq_some_iff.mp H
         obtain ⟨⟨ax, aC, ar, bH, bI⟩, dC, H⟩ := H
         have A54 := am_ dC
         clear dC
         replace H := Option.bind_eq_some_iff.mp H
         obtain ⟨⟨bm, bn, bo, dD, dE⟩, dF, H⟩ := H
         have A55 := am_ dF
         clear dF
         obtain ⟨cw, hy799⟩ : ∃ y_ : List (S29), y_ = (([(⟨ax, aC, ar⟩ : S29), (⟨bm, bn, bo⟩ : S29)] : List (S29))) := ⟨_, rfl⟩
         replace H : (some (7, (⟨#[]⟩ : ByteArray), cw, dD, dE)) = some (r1, r2, r3, r4, r5) := by first | (rw [hy799]; with_reducible exact H) | (have H2_ := (Option.bind_some _ _).symm.trans H; rw [hy799]; with_reducible exact H2_) | (have H2_ := (Option.bind_some _ _).symm.trans H; with_reducible exact H2_) | with_reducible exact H | (rw [hy799]; exact H) | exact H
         have cE := am_ hy799
         clear hy799
         simp only [Option.some.injEq, Prod.mk.injEq] at H
         obtain ⟨rfl, rfl, rfl, rfl, rfl⟩ := H
         try go_wp2_with (first | ((with_reducible refine gate_callee (f := 61) rfl ?_); refine gL_ (some 54) Try.func61 #[.pointer (some ⟨g, 0, none⟩), .int .i64 (wrap64 (a1 - 1))] ?_; (with_reducible refine (ih kj30 (by have := HJ2.out; have := HJ30.out; omega) g s0_0 aL aM (wrap64 (a1 - 1)) ax aC ar bH bI w0 _ ?side1 ?side2 A54.out).mono ?_); (case side1 => exact zp45_0_ HI0.out ad.out); (case side2 => exact zp45_2_ HB.out (IsS93.ge HI0.out) ai.out); rintro e w56 ⟨eZ, rfl, ho0, hi, hb, hk⟩; refine ⟨_, rfl, ?_⟩; have n0_ := am_ (KeepBut.blk hk (g' := ab) (o := .cells #[.int .i64 0, .string (⟨#[]⟩ : ByteArray), .slice none 0 0] 29 (0, 0)) (rb_ aa.out) aj.out (by simp)); have n1_ := am_ (Kd.N_lower (Kd.N_mono (ok' := fun k_ => (w.heap.size ≤ k_) ∧ k_ ≠ ab ∧ k_ ≠ g) ho0 (fun k_ hk_ => ⟨(Nat.le_trans (keep_size (w := w) (g := g) (row := none) (k1_ HK.out ae.out)) hk_), (Kd.freshB (g := ab) (o := .cells #[.int .i64 0, .string (⟨#[]⟩ : ByteArray), .slice none 0 0] 29 (0, 0)) (rb_ aa.out) k_ hk_), (IsS93.fresh (zp45_0_ HI0.out ad.out) k_ hk_)⟩)) (keep_size (w := w) (g := g) (row := none) (k1_ HK.out ae.out))); have n2_ := am_ (KeepBut.trans (k1_ HK.out ae.out) hk (.inl rfl)); have n3_ := am_ (hb); have n4_ := am_ (hi); clear aa; clear HK; clear HB; clear HI0; have aa := n0_; have aF := n1_; have HK := n2_; have HB := n3_; have HI0 := n4_; clear n0_ n1_ n2_ n3_ n4_; (try clear hb); (try clear hb2); (try clear hk); (try clear hi); (try clear ho0)) | ((with_reducible refine gate_dst (N := 5) rfl ?_); refine box_event ?hg (N := 5) ?hd (cs := #[.int .i64 0, .string (⟨#[]⟩ : ByteArray), .slice none 0 0]) (t := 29) ?hr ?_; (case hd => rfl); (case hg => rfl); (case hr => first | (go_simp; done) | (go_simp; rfl)); intro af hg w57 hbox hb; have n0_ := am_ (Kd.N_below (Kd.N_elderB (rn_ aF.out) af (Nat.le_of_eq hg.symm)) hb); have n1_ := am_ (blk_below (rb_ aa.out) hb); have n2_ := am_ (IsS93.below (zp45_0_ HI0.out ad.out) hb); have n3_ := am_ (KeepBut.trans (k1_ HK.out ae.out) (KeepBut.of_below hb g none) (.inl rfl)); have n4_ := am_ (below_step (b2_ HB.out (IsS93.ge HI0.out) ai.out) hb); have n5_ := am_ (hbox); have n6_ := am_ ((by rw [hg]; exact (keep_size (w := w) (g := g) (row := none) (k1_ HK.out ae.out)) : w.heap.size ≤ af)); have n7_ := am_ ((Nat.le_trans HW0.out (by rw [hg]; exact (keep_size (w := w) (g := g) (row := none) (k1_ HK.out ae.out)) : w.heap.size ≤ af) : w0.heap.size ≤ af)); have n8_ := am_ ((by rw [hg]; exact Nat.ne_of_lt (blk_lt (rb_ aa.out)) : ab ≠ af)); have n9_ := am_ ((by rw [hg]; exact Nat.ne_of_gt (blk_lt (rb_ aa.out)) : af ≠ ab)); have n10_ := am_ ((by rw [hg]; exact Nat.ne_of_lt (IsS93.lt (show IsS93 w0 _ g s0_0 bH bI from by exact zp45_0_ HI0.out ad.out)) : g ≠ af)); have n11_ := am_ ((by rw [hg]; exact Nat.ne_of_gt (IsS93.lt (show IsS93 w0 _ g s0_0 bH bI from by exact zp45_0_ HI0.out ad.out)) : af ≠ g)); clear aF; clear aa; clear HI0; clear HK; clear HB; have aF := n0_; have aa := n1_; have HI0 := n2_; have HK := n3_; have HB := n4_; have al := n5_; have aZ := n6_; have bB := n7_; have aN := n8_; have ao := n9_; have aW := n10_; have cl := n11_; clear n0_ n1_ n2_ n3_ n4_ n5_ n6_ n7_ n8_ n9_ n10_ n11_; clear hb hbox hg; have eI := ao.out; have eJ := aN.out; have eK := cl.out; have eL := aW.out; have dc := ck_ (v := (.int .i64 0)) al 0 rfl; have dd := ck_ (v := (.string (⟨#[]⟩ : ByteArray))) al 1 rfl; have de := ck_ (v := (.slice none 0 0)) al 2 rfl; have df := blk_frozen al.out 0; have dg := blk_frozen al.out 1; have dh := blk_frozen al.out 2; obtain ⟨aO, aP, ei⟩ := Kd.N_slice aF.out; subst ei))
         have n0_ : Aside0 (Kd.N k29 29 (((w57.setCell ⟨af, 0, none⟩ (.int .i64 ax)).setCell ⟨af, 1, none⟩ (.string aC)).setCell ⟨af, 2, none⟩ (.slice aO ar.length aP)) w.heap.size (fun k_ => (w.heap.size ≤ k_) ∧ k_ ≠ ab ∧ k_ ≠ g ∧ k_ ≠ af) (.slice aO ar.length aP) ar) := ⟨by refine rn_ ?_; exact Kd.N_mono (Kd.N_far (p := ⟨af, 2, none⟩) (Kd.N_far (p := ⟨af, 1, none⟩) (Kd.N_far (p := ⟨af, 0, none⟩) (Kd.N_mono aF.out (fun k_ hk => (⟨hk, hk.2⟩ : _ ∧ k_ ≠ af))) (fun _ hk => hk.2) (.int .i64 ax)) (fun _ hk => hk.2) (.string aC)) (fun _ hk => hk.2) (.slice aO ar.length aP)) (fun _ hk => ⟨hk.1.1.1, ⟨hk.1.1.2.1, ⟨hk.1.1.2.2, hk.1.2⟩⟩⟩)⟩
         have n1_ : Aside0 ((((w57.setCell ⟨af, 0, none⟩ (.int .i64 ax)).setCell ⟨af, 1, none⟩ (.string aC)).setCell ⟨af, 2, none⟩ (.slice aO ar.length aP)).heap[ab]? = some (.cells #[.int .i64 0, .string (⟨#[]⟩ : ByteArray), .slice none 0 0] 29 (0, 0))) := ⟨by refine rb_ ?_; refine blk_far ?_ aN.out _; refine rb_ ?_; refine blk_far ?_ aN.out _; refine rb_ ?_; refine blk_far ?_ aN.out _; refine rb_ ?_; exact aa.out⟩
         have n2_ : Aside0 ((((w57.setCell ⟨af, 0, none⟩ (.int .i64 ax)).setCell ⟨af, 1, none⟩ (.string aC)).setCell ⟨af, 2, none⟩ (.slice aO ar.length aP)).heap[af]? = some (.cells #[.int .i64 ax, .string aC, .slice aO ar.length aP] 29 (0, 0))) := ⟨by refine rb_ ?_; refine blk_put (cs := #[.int .i64 ax, .string aC, .slice none 0 0]) ?_ 2 _ rfl; refine rb_ ?_; refine blk_put (cs := #[.int .i64 ax, .string (⟨#[]⟩ : ByteArray), .slice none 0 0]) ?_ 1 _ rfl; refine rb_ ?_; refine blk_put (cs := #[.int .i64 0, .string (⟨#[]⟩ : ByteArray), .slice none 0 0]) ?_ 0 _ rfl; refine rb_ ?_; exact al.out⟩
         have n3_ : Aside0 (IsS93 w0 (((w57.setCell ⟨af, 0, none⟩ (.int .i64 ax)).setCell ⟨af, 1, none⟩ (.string aC)).setCell ⟨af, 2, none⟩ (.slice aO ar.length aP)) g s0_0 bH bI) := ⟨by exact zp45_3_ HI0.out ad.out aW.out⟩
         have n4_ : Aside0 (KeepBut w (((w57.setCell ⟨af, 0, none⟩ (.int .i64 ax)).setCell ⟨af, 1, none⟩ (.string aC)).setCell ⟨af, 2, none⟩ (.slice aO ar.length aP)) g none) := ⟨by exact zp45_4_ HK.out ae.out aZ.out⟩
         have n5_ : Aside0 (Below w0.heap.size w0 (((w57.setCell ⟨af, 0, none⟩ (.int .i64 ax)).setCell ⟨af, 1, none⟩ (.string aC)).setCell ⟨af, 2, none⟩ (.slice aO ar.length aP))) := ⟨by exact zp45_5_ HB.out (IsS93.ge HI0.out) ai.out bB.out⟩
         (try clear aF)
         (try clear aa)
         (try clear al)
         (try clear HI0)
         (try clear HK)
         (try clear HB)
         generalize (((w57.setCell ⟨af, 0, none⟩ (.int .i64 ax)).setCell ⟨af, 1, none⟩ (.string aC)).setCell ⟨af, 2, none⟩ (.slice aO ar.length aP)) = w62 at n0_ n1_ n2_ n3_ n4_ n5_ ⊢
         have aF := n0_; have aa := n1_; have al := n2_; have HI0 := n3_; have HK := n4_; have HB := n5_
         clear n0_ n1_ n2_ n3_ n4_ n5_
         replace aF := am_ (Kd.N_drew aF.out)
         replace aa := am_ (blk_drew aa.out)
         replace al := am_ (blk_drew al.out)
         replace HI0 := am_ (IsS93.drew HI0.out)
         replace HK := am_ (keep_drew HK.out)
         replace HB := am_ (below_drew1 HB.out)
         refine start_ (n := 8) (S := fun w' => w'.cell? ⟨af, 0, none⟩ = some (.int .i64 ax) ∧ w'.cell? ⟨af, 1, none⟩ = some (.string aC) ∧ w'.cell? ⟨af, 2, none⟩ = some (.slice aO ar.length aP)) (ds := []) (bl 8 0) (by kernel_rfl) rfl rfl ⟨(blk_cell al.out 0).trans rfl, (blk_cell al.out 1).trans rfl, (blk_cell al.out 2).trans rfl⟩ (fun hHeld => ?_); refine with_tabW spec_l3Draw.tab19 spec_l3Draw.bits19 (fun HT_ HW_ => ?_)
         generalize w62.drew = w63 at aF aa al HI0 HK HB hHeld ⊢
         refine pu_ 1 56 (bl 8 2) HT_ ?_
         refine pu_ 2 57 (bl 8 6) HT_ ?_
         refine pu_ 3 58 (bl 8 14) HT_ ?_
         refine tk_ 0 55 (bl 8 15) HT_ HW_ hHeld ?_
         refine on_ 4 (some 59) (bl 8 31) HT_ (fun K hK => ?_)
         refine gO_ Try.func61 #[.pointer (some ⟨g, 0, none⟩), .int .i64 (wrap64 (a1 - 1))] ?_
         with_reducible refine (ih kj30 (by have := HJ2.out; have := HJ30.out; omega) g s0_0 bH bI (wrap64 (a1 - 1)) bm bn bo dD dE w0 _ ?side1 ?side2 A55.out).mono ?_
         (case side1 => exact zp45_3_ HI0.out ad.out aW.out)
         (case side2 => exact zp45_5_ HB.out (IsS93.ge HI0.out) ai.out bB.out)
         rintro e w64 ⟨fa, rfl, ho0, hi, hb, hk⟩
         refine ⟨_, rfl, ?_⟩
         replace bC := am_ (Kd.N_lower (Kd.N_mono (ok' := fun k_ => (w.heap.size ≤ k_) ∧ some k_ ≠ (.slice aO ar.length aP : Value).ownBlock ∧ k_ ≠ ab ∧ k_ ≠ af ∧ k_ ≠ g) ho0 (fun k_ hk_ => ⟨(Nat.le_trans (keep_size (w := w) (g := g) (row := none) (k2_ HK.out ae.out aZ.out)) hk_), (Kd.fresh' (Kd.N_lt (rn_ aF.out)) k_ hk_), (Kd.freshB (g := ab) (o := .cells #[.int .i64 0, .string (⟨#[]⟩ : ByteArray), .slice none 0 0] 29 (0, 0)) (rb_ aa.out) k_ hk_), (Kd.freshB (g := af) (o := .cells #[.int .i64 ax, .string aC, .slice aO ar.length aP] 29 (0, 0)) (rb_ al.out) k_ hk_), (IsS93.fresh (zp45_3_ HI0.out ad.out aW.out) k_ hk_)⟩)) (keep_size (w := w) (g := g) (row := none) (k2_ HK.out ae.out aZ.out)))
         replace aa := am_ (KeepBut.blk hk (g' := ab) (o := .cells #[.int .i64 0, .string (⟨#[]⟩ : ByteArray), .slice none 0 0] 29 (0, 0)) (rb_ aa.out) aj.out (by simp))
         replace aF := am_ (Kd.N_mono (Kd.N_told (Kd.N_oldK (Kd.N_mono (ok := fun k_ => (((w.heap.size ≤ k_)) ∧ (k_ ≠ ab ∧ (k_ ≠ g ∧ k_ ≠ af)))) (rn_ aF.out) (fun k_ hk_ => (⟨hk_, hk_.2.2.1⟩ : _ ∧ k_ ≠ g))) hk) (Kd.N_base ho0)) (fun _ h_ => h_.1))
         replace al := am_ (KeepBut.blk hk (g' := af) (o := .cells #[.int .i64 ax, .string aC, .slice aO ar.length aP] 29 (0, 0)) (rb_ al.out) cl.out (by simp))
         replace HK := am_ (KeepBut.trans (k2_ HK.out ae.out aZ.out) hk (.inl rfl))
         replace HB := am_ (hb)
         replace HI0 := am_ (hi)
         (try clear hb)
         (try clear hb2)
         (try clear hk)
         (try clear hi)
         (try clear ho0)
         obtain ⟨dG, dH, dI⟩ := Kd.N_slice bC.out
         (first | subst dI | (injection dI with f1_ f2_ f3_; have f4_ := f1_.symm; have f5_ := f3_.symm; clear f1_ f2_ f3_; subst f4_; subst f5_))
         refine hK.out _ _ ⟨(blk_cell al.out 0).trans rfl, (blk_cell al.out 1).trans rfl, (blk_cell al.out 2).trans rfl⟩ (fun hHeld => ?_)
         clear hK K
         refine norm_ (a' := ?_) ?_ ?_
         rotate_left
         ·show Act.put _ (some 59) _ = _
          simp only [pn_, sz_, ss_, i64_w, i32_w]
          rfl
         refine on_ 5 (some 60) (bl 8 63) HT_ (fun K hK => ?_)
         refine Kd.N_lit_step k29 _ 29 ?hg (N' := 60) ?hd (xs := ([(⟨ax, aC, ar⟩ : S29), (⟨bm, bn, bo⟩ : S29)] : List (S29))) (inner := [.int .i64 ax, .string aC, .slice aO ar.length aP, .int .i64 bm, .string bn, .slice dG bo.length dH]) (ok := (fun k_ => (w.heap.size ≤ k_) ∧ k_ ≠ ab ∧ k_ ≠ af ∧ k_ ≠ g)) (okp := (fun k_ => (w.heap.size ≤ k_) ∧ k_ ≠ ab ∧ k_ ≠ af ∧ k_ ≠ g)) ?hr ?hp (fun _ hk => hk) ((show ∀ k_, w64.heap.size ≤ k_ → (fun k_ => (w.heap.size ≤ k_) ∧ k_ ≠ ab ∧ k_ ≠ af ∧ k_ ≠ g) k_ from fun k_ hk => ⟨(Nat.le_trans (keep_size (w := w) (g := g) (row := none) (k2_ HK.out ae.out aZ.out)) hk), Kd.freshB (g := ab) (o := .cells #[.int .i64 0, .string (⟨#[]⟩ : ByteArray), .slice none 0 0] 29 (0, 0)) (rb_ aa.out) k_ hk, Kd.freshB (g := af) (o := .cells #[.int .i64 ax, .string aC, .slice aO ar.length aP] 29 (0, 0)) (rb_ al.out) k_ hk, IsS93.fresh (zp45_3_ HI0.out ad.out aW.out) k_ hk⟩) _ (Nat.le_refl _)) (Below.refl _ _) (Nat.le_refl _) (by simp) ?_; (case hd => rfl); (case hg => rfl); (case hr => first | (go_simp; done) | (go_simp; rfl)); (case hp => exact (Reps.c3 (show Kd.FK k29 _ _ (⟨ax, aC, ar⟩ : S29) [.int .i64 ax, .string aC, .slice aO ar.length aP] from (k29_mkF _ _ (⟨ax, aC, ar⟩ : S29) (Kd.N_reads' (Kd.N_mono (ok' := (fun k_ => (w.heap.size ≤ k_) ∧ k_ ≠ ab ∧ k_ ≠ af ∧ k_ ≠ g)) (aF.out) (fun k_ hk => ⟨hk.1.1, ⟨hk.1.2.1, ⟨hk.1.2.2.2, hk.1.2.2.1⟩⟩⟩))).2.1 (Kd.N_F (Kd.N_mono (ok' := (fun k_ => (w.heap.size ≤ k_) ∧ k_ ≠ ab ∧ k_ ≠ af ∧ k_ ≠ g)) (aF.out) (fun k_ hk => ⟨hk.1.1, ⟨hk.1.2.1, ⟨hk.1.2.2.2, hk.1.2.2.1⟩⟩⟩))))) (Reps.c3 (show Kd.FK k29 _ _ (⟨bm, bn, bo⟩ : S29) [.int .i64 bm, .string bn, .slice dG bo.length dH] from (k29_mkF _ _ (⟨bm, bn, bo⟩ : S29) (Kd.N_reads' (Kd.N_mono (ok' := (fun k_ => (w.heap.size ≤ k_) ∧ k_ ≠ ab ∧ k_ ≠ af ∧ k_ ≠ g)) (bC.out) (fun k_ hk => ⟨hk.1, ⟨hk.2.2.1, ⟨hk.2.2.2.1, hk.2.2.2.2⟩⟩⟩))).2.1 (Kd.N_F (Kd.N_mono (ok' := (fun k_ => (w.heap.size ≤ k_) ∧ k_ ≠ ab ∧ k_ ≠ af ∧ k_ ≠ g)) (bC.out) (fun k_ hk => ⟨hk.1, ⟨hk.2.2.1, ⟨hk.2.2.2.1, hk.2.2.2.2⟩⟩⟩))))) (Reps.none _ _))))
         intro fb w66 ho67 hb hg_ hnew_
         clear hg_ hnew_
         (first | rw [← cE.out] at ho67 | (simp only [Int.reduceToNat] at ho67; rw [← cE.out] at ho67))
         replace cF := am_ (Kd.N_lower ho67 (keep_size (w := w) (g := g) (row := none) (k2_ HK.out ae.out aZ.out)))
         replace aa := am_ (blk_below (rb_ aa.out) hb)
         replace al := am_ (blk_below (rb_ al.out) hb)
         replace HK := am_ (KeepBut.trans (k2_ HK.out ae.out aZ.out) (KeepBut.of_below hb g none) (.inl rfl))
         replace HB := am_ (below_step (b3_ HB.out (IsS93.ge HI0.out) ai.out bB.out) hb)
         replace HI0 := am_ (IsS93.below (zp45_3_ HI0.out ad.out aW.out) hb)
         clear aF bC hb ho67
         obtain ⟨dJ, dK, dL⟩ := Kd.N_slice cF.out
         (first | subst dL | (injection dL with f1_ f2_ f3_; have f4_ := f1_.symm; have f5_ := f3_.symm; clear f1_ f2_ f3_; subst f4_; subst f5_))
         refine hK.out _ _ ⟨(blk_cell al.out 0).trans rfl, (blk_cell al.out 1).trans rfl, (blk_cell al.out 2).trans rfl⟩ (fun hHeld => ?_)
         clear hK K
         refine norm_ (a' := ?_) ?_ ?_
         rotate_left
         ·show Act.put _ (some 60) _ = _
          simp only [pn_, sz_, ss_, i64_w, i32_w]
          rfl
         refine pu_ 6 61 (bl 8 127) HT_ ?_
         refine on_ 7 none (bl 8 255) HT_ (fun K hK => ?_)
         have hs69 : w66.cell? ⟨ab, 0, none⟩ = some (.int .i64 0) := (blk_cell aa.out 0).trans rfl
         have hfs69 := blk_frozen aa.out 0
         have hns69_1 := ao.out
         have hms69_1 := aN.out
         have hs70 : w66.cell? ⟨ab, 1, none⟩ = some (.string (⟨#[]⟩ : ByteArray)) := (blk_cell aa.out 1).trans rfl
         have hfs70 := blk_frozen aa.out 1
         have hns70_1 := ao.out
         have hms70_1 := aN.out
         have hs71 : w66.cell? ⟨ab, 2, none⟩ = some (.slice none 0 0) := (blk_cell aa.out 2).trans rfl
         have hfs71 := blk_frozen aa.out 2
         have hns71_1 := ao.out
         have hms71_1 := aN.out
         refine skip_ (w1 := ?_) (by rfl) rfl ?_ ?_
         rotate_left
         ·go_simp
          rfl
         refine hK.out _ _ ⟨((cell_far (p := ⟨ab, _, none⟩) ao.out _).trans (((cell_far (p := ⟨ab, _, none⟩) ao.out _).trans (((cell_far (p := ⟨ab, _, none⟩) ao.out _).trans (hHeld.1)))))), ((cell_far (p := ⟨ab, _, none⟩) ao.out _).trans (((cell_far (p := ⟨ab, _, none⟩) ao.out _).trans (((cell_far (p := ⟨ab, _, none⟩) ao.out _).trans (hHeld.2.1)))))), ((cell_far (p := ⟨ab, _, none⟩) ao.out _).trans (((cell_far (p := ⟨ab, _, none⟩) ao.out _).trans (((cell_far (p := ⟨ab, _, none⟩) ao.out _).trans (hHeld.2.2))))))⟩ (fun hHeld => ?_)
         clear hK K
         refine done_ (done_of HT_.out (by kernel_rfl)) ?_
         try go_wp2
         refine bodyPost_ret (results_cell_row rfl _ _ ab 29 #[.int .i64 7, .string (⟨#[]⟩ : ByteArray), .slice dJ cw.length dK] (0, 0) _ rfl (by refine rb_ ?_; refine blk_put (cs := #[.int .i64 7, .string (⟨#[]⟩ : ByteArray), .slice none 0 0]) ?_ 2 _ rfl; refine rb_ ?_; refine blk_put (cs := #[.int .i64 7, .string (⟨#[]⟩ : ByteArray), .slice none 0 0]) ?_ 1 _ rfl; refine rb_ ?_; refine blk_put (cs := #[.int .i64 0, .string (⟨#[]⟩ : ByteArray), .slice none 0 0]) ?_ 0 _ rfl; refine rb_ ?_; exact aa.out) Try.underlying29 rfl (by kernel_rfl)) rfl ?_
         exact ⟨_, by first | rfl | (simp [errW_none, errW_some] <;> rfl) | (simp [*, errW_none, errW_some] <;> rfl), by refine rn_ ?_; exact Kd.N_mono (Kd.N_far (p := ⟨ab, 2, none⟩) (Kd.N_far (p := ⟨ab, 1, none⟩) (Kd.N_far (p := ⟨ab, 0, none⟩) (Kd.N_mono cF.out (fun k_ hk => (⟨hk, hk.2.1⟩ : _ ∧ k_ ≠ ab))) (fun _ hk => hk.2) (.int .i64 7)) (fun _ hk => hk.2) (.string (⟨#[]⟩ : ByteArray))) (fun _ hk => hk.2) (.slice dJ cw.length dK)) (fun _ hk => hk.1.1), by exact zp45_3_ HI0.out ad.out aW.out, by exact zp45_5_ HB.out (IsS93.ge HI0.out) ai.out bB.out, by exact zp45_4_ HK.out ae.out aZ.out⟩
        ·rw [if_neg c53] at H
         have c53b0 : (ak == 4) = false := beq_eq_false_iff_ne.mpr c53
         have c53b1 : (ak != 4) = true := bne_iff_ne.mpr c53
         have HC72 := am_ H
         clear H
         go_upto_if 62 with (fail)
         go_cut [62] (fun v62 wc => ∃ (kq : Nat) (bw : Bool), v62 = .bool bw ∧ Aside0 (spec_l3Draw.j2 kq a1 bw s0_0 aL aM = some (r1, r2, r3, r4, r5)) ∧ Aside0 (kq ≤ kj30) ∧ Aside0 (wc.heap[ab]? = some (.cells #[.int .i64 0, .string (⟨#[]⟩ : ByteArray), (.slice none 0 0)] 29 (0, 0))) ∧ Aside0 (IsS93 w0 wc g s0_0 aL aM) ∧ Aside0 (KeepBut w wc g none) ∧ Aside0 (Below w0.heap.size w0 wc))
         case first =>
          have H := HC72.out
          clear HC72
          by_cases c73 : ak = 5
          ·rw [if_pos c73] at H
           have c73b0 : (ak == 5) = true := beq_iff_eq.mpr c73
           have c73b1 : (ak != 5) = false := bne_eq_false_iff_eq.mpr c73
           clear c73
           (first | rw [c73b0] | (simp only [i64_w, i32_w]; rw [c73b0]) | skip)
           have H' := am_ H
           clear H
           go_wp2
           go_meet
           case rel => exact ⟨_, ((ak == 5)), (by first | rfl | (simp; done) | (simp [*]; done)), H', ⟨by have := HJ2.out; have := HJ30.out; first | omega | exact Nat.le_refl _⟩, ⟨by refine rb_ ?_; exact aa.out⟩, ⟨by exact zp45_0_ HI0.out ad.out⟩, ⟨by exact zp45_1_ HK.out ae.out⟩, ⟨by exact zp45_2_ HB.out (IsS93.ge HI0.out) ai.out⟩⟩
          ·rw [if_neg c73] at H
           have c73b0 : (ak == 5) = false := beq_eq_false_iff_ne.mpr c73
           have c73b1 : (ak != 5) = true := bne_iff_ne.mpr c73
           (first | rw [c73b0] | (simp only [i64_w, i32_w]; rw [c73b0]) | skip)
           have H' := am_ H
           clear H
           go_wp2
           go_meet
           case rel => exact ⟨_, ((ak == 6)), (by first | rfl | (simp; done) | (simp [*]; done)), H', ⟨by have := HJ2.out; have := HJ30.out; first | omega | exact Nat.le_refl _⟩, ⟨by refine rb_ ?_; exact aa.out⟩, ⟨by exact zp45_0_ HI0.out ad.out⟩, ⟨by exact zp45_1_ HK.out ae.out⟩, ⟨by exact zp45_2_ HB.out (IsS93.ge HI0.out) ai.out⟩⟩
         case rest =>
          clear HC72
          try clear c1
          try clear c2
          try clear p2
          try clear c3
          try clear c4
          try clear c5
          try clear c5b0
          try clear c6
          try clear p6
          try clear c7
          try clear c8
          try clear c10
          try clear c10b0
          try clear c10b1
          try clear c12
          try clear c14
          try clear c14b0
          try clear c14b1
          try clear c16
          try clear c18
          try clear c18b0
          try clear c18b1
          try clear c20
          try clear c28
          try clear c33
          try clear c33b0
          try clear c33b1
          try clear c34
          try clear c34b0
          try clear c34b1
          try clear c35
          try clear c42
          try clear c44
          try clear c44b0
          try clear c44b1
          try clear c51
          try clear c53
          try clear c53b0
          try clear c53b1
          try clear c58
          try clear c59
          try clear c60
          try clear c61
          try clear c62
          try clear p64
          try clear c73
          try clear c73b0
          try clear c73b1
          try clear bN
          try clear bO
          try clear bP
          try clear bT
          try clear bU
          try clear bV
          try clear bZ
          try clear ca
          try clear cb
          try clear cf
          try clear cg
          try clear ch
          try clear cQ
          try clear cR
          try clear cS
          try clear cW
          try clear cX
          try clear cY
          try clear dc
          try clear dd
          try clear de
          try clear bQ
          try clear bR
          try clear bS
          try clear bW
          try clear bX
          try clear bY
          try clear cc
          try clear cd
          try clear ce
          try clear ci
          try clear cj
          try clear ck
          try clear cT
          try clear cU
          try clear cV
          try clear cZ
          try clear da
          try clear db
          try clear df
          try clear dg
          try clear dh
          try clear p2
          obtain ⟨kq, bw, rfl, HA, HJ71, aa, HI0, HK, HB⟩ := hcut
          cases kq with
          | zero => exact absurd HA.out (by simp [spec_l3Draw.j2])
          | succ kj71 =>
           have H := HA.out
           clear HA
           simp only [spec_l3Draw.j2] at H
           by_cases c74 : bw = true
           ·subst c74
            have H1 : ((spec_l3Draw.f kj71 s0_0 aL aM (wrap64 (a1 - 1))).bind fun bt802 => ((spec_l3Draw.f kj71 s0_0 bt802.2.2.2.1 bt802.2.2.2.2 (wrap64 (a1 - 1))).bind fun bt810 => (some (6, (⟨#[]⟩ : ByteArray), (([(⟨bt802.1, bt802.2.1, bt802.2.2.1⟩ : S29), (⟨bt810.1, bt810.2.1, bt810.2.2.1⟩ : S29)] : List (S29))), bt810.2.2.2.1, bt810.2.2.2.2)))) = some (r1, r2, r3, r4, r5) := by rw [if_pos rfl] at H; exact H
            clear H
            have H := H1
            clear H1
            replace H := Option.bind_eq_some_iff.mp H
            obtain ⟨⟨ay, aD, au, bJ, bK⟩, dM, H⟩ := H
            have A75 := am_ dM
            clear dM
            replace H := Option.bind_eq_some_iff.mp H
            obtain ⟨⟨bp, bq, br, dN, dO⟩, dP, H⟩ := H
            have A76 := am_ dP
            clear dP
            obtain ⟨cx, hy817⟩ : ∃ y_ : List (S29), y_ = (([(⟨ay, aD, au⟩ : S29), (⟨bp, bq, br⟩ : S29)] : List (S29))) := ⟨_, rfl⟩
            replace H : (some (6, (⟨#[]⟩ : ByteArray), cx, dN, dO)) = some (r1, r2, r3, r4, r5) := by first | (rw [hy817]; with_reducible exact H) | (have H2_ := (Option.bind_some _ _).symm.trans H; rw [hy817]; with_reducible exact H2_) | (have H2_ := (Option.bind_some _ _).symm.trans H; with_reducible exact H2_) | with_reducible exact H | (rw [hy817]; exact H) | exact H
            have cG := am_ hy817
            clear hy817
            simp only [Option.some.injEq, Prod.mk.injEq] at H
            obtain ⟨rfl, rfl, rfl, rfl, rfl⟩ := H
            try go_wp2_with (first | ((with_reducible refine gate_callee (f := 61) rfl ?_); refine gL_ (some 68) Try.func61 #[.pointer (some ⟨g, 0, none⟩), .int .i64 (wrap64 (a1 - 1))] ?_; (with_reducible refine (ih kj71 (by have := HJ2.out; have := HJ30.out; have := HJ71.out; omega) g s0_0 aL aM (wrap64 (a1 - 1)) ay aD au bJ bK w0 _ ?side1 ?side2 A75.out).mono ?_); (case side1 => exact zp45_0_ HI0.out ad.out); (case side2 => exact zp45_2_ HB.out (IsS93.ge HI0.out) ai.out); rintro e w77 ⟨fc, rfl, ho0, hi, hb, hk⟩; refine ⟨_, rfl, ?_⟩; have n0_ := am_ (KeepBut.blk hk (g' := ab) (o := .cells #[.int .i64 0, .string (⟨#[]⟩ : ByteArray), .slice none 0 0] 29 (0, 0)) (rb_ aa.out) aj.out (by simp)); have n1_ := am_ (Kd.N_lower (Kd.N_mono (ok' := fun k_ => (w.heap.size ≤ k_) ∧ k_ ≠ ab ∧ k_ ≠ g) ho0 (fun k_ hk_ => ⟨(Nat.le_trans (keep_size (w := w) (g := g) (row := none) (k1_ HK.out ae.out)) hk_), (Kd.freshB (g := ab) (o := .cells #[.int .i64 0, .string (⟨#[]⟩ : ByteArray), .slice none 0 0] 29 (0, 0)) (rb_ aa.out) k_ hk_), (IsS93.fresh (zp45_0_ HI0.out ad.out) k_ hk_)⟩)) (keep_size (w := w) (g := g) (row := none) (k1_ HK.out ae.out))); have n2_ := am_ (KeepBut.trans (k1_ HK.out ae.out) hk (.inl rfl)); have n3_ := am_ (hb); have n4_ := am_ (hi); clear aa; clear HK; clear HB; clear HI0; have aa := n0_; have aG := n1_; have HK := n2_; have HB := n3_; have HI0 := n4_; clear n0_ n1_ n2_ n3_ n4_; (try clear hb); (try clear hb2); (try clear hk); (try clear hi); (try clear ho0)) | ((with_reducible refine gate_dst (N := 6) rfl ?_); refine box_event ?hg (N := 6) ?hd (cs := #[.int .i64 0, .string (⟨#[]⟩ : ByteArray), .slice none 0 0]) (t := 29) ?hr ?_; (case hd => rfl); (case hg => rfl); (case hr => first | (go_simp; done) | (go_simp; rfl)); intro ag hg w78 hbox hb; have n0_ := am_ (Kd.N_below (Kd.N_elderB (rn_ aG.out) ag (Nat.le_of_eq hg.symm)) hb); have n1_ := am_ (blk_below (rb_ aa.out) hb); have n2_ := am_ (IsS93.below (zp45_0_ HI0.out ad.out) hb); have n3_ := am_ (KeepBut.trans (k1_ HK.out ae.out) (KeepBut.of_below hb g none) (.inl rfl)); have n4_ := am_ (below_step (b2_ HB.out (IsS93.ge HI0.out) ai.out) hb); have n5_ := am_ (hbox); have n6_ := am_ ((by rw [hg]; exact (keep_size (w := w) (g := g) (row := none) (k1_ HK.out ae.out)) : w.heap.size ≤ ag)); have n7_ := am_ ((Nat.le_trans HW0.out (by rw [hg]; exact (keep_size (w := w) (g := g) (row := none) (k1_ HK.out ae.out)) : w.heap.size ≤ ag) : w0.heap.size ≤ ag)); have n8_ := am_ ((by rw [hg]; exact Nat.ne_of_lt (blk_lt (rb_ aa.out)) : ab ≠ ag)); have n9_ := am_ ((by rw [hg]; exact Nat.ne_of_gt (blk_lt (rb_ aa.out)) : ag ≠ ab)); have n10_ := am_ ((by rw [hg]; exact Nat.ne_of_lt (IsS93.lt (show IsS93 w0 _ g s0_0 bJ bK from by exact zp45_0_ HI0.out ad.out)) : g ≠ ag)); have n11_ := am_ ((by rw [hg]; exact Nat.ne_of_gt (IsS93.lt (show IsS93 w0 _ g s0_0 bJ bK from by exact zp45_0_ HI0.out ad.out)) : ag ≠ g)); clear aG; clear aa; clear HI0; clear HK; clear HB; have aG := n0_; have aa := n1_; have HI0 := n2_; have HK := n3_; have HB := n4_; have am := n5_; have ba := n6_; have bD := n7_; have aQ := n8_; have ap := n9_; have aX := n10_; have cm := n11_; clear n0_ n1_ n2_ n3_ n4_ n5_ n6_ n7_ n8_ n9_ n10_ n11_; clear hb hbox hg; have eM := ap.out; have eN := aQ.out; have eO := cm.out; have eP := aX.out; have ek := ck_ (v := (.int .i64 0)) am 0 rfl; have el := ck_ (v := (.string (⟨#[]⟩ : ByteArray))) am 1 rfl; have em := ck_ (v := (.slice none 0 0)) am 2 rfl; have en := blk_frozen am.out 0; have eo := blk_frozen am.out 1; have ep := blk_frozen am.out 2; obtain ⟨aR, aS, ej⟩ := Kd.N_slice aG.out; subst ej))
            have n0_ : Aside0 (Kd.N k29 29 (((w78.setCell ⟨ag, 0, none⟩ (.int .i64 ay)).setCell ⟨ag, 1, none⟩ (.string aD)).setCell ⟨ag, 2, none⟩ (.slice aR au.length aS)) w.heap.size (fun k_ => (w.heap.size ≤ k_) ∧ k_ ≠ ab ∧ k_ ≠ g ∧ k_ ≠ ag) (.slice aR au.length aS) au) := ⟨by refine rn_ ?_; exact Kd.N_mono (Kd.N_far (p := ⟨ag, 2, none⟩) (Kd.N_far (p := ⟨ag, 1, none⟩) (Kd.N_far (p := ⟨ag, 0, none⟩) (Kd.N_mono aG.out (fun k_ hk => (⟨hk, hk.2⟩ : _ ∧ k_ ≠ ag))) (fun _ hk => hk.2) (.int .i64 ay)) (fun _ hk => hk.2) (.string aD)) (fun _ hk => hk.2) (.slice aR au.length aS)) (fun _ hk => ⟨hk.1.1.1, ⟨hk.1.1.2.1, ⟨hk.1.1.2.2, hk.1.2⟩⟩⟩)⟩
            have n1_ : Aside0 ((((w78.setCell ⟨ag, 0, none⟩ (.int .i64 ay)).setCell ⟨ag, 1, none⟩ (.string aD)).setCell ⟨ag, 2, none⟩ (.slice aR au.length aS)).heap[ab]? = some (.cells #[.int .i64 0, .string (⟨#[]⟩ : ByteArray), .slice none 0 0] 29 (0, 0))) := ⟨by refine rb_ ?_; refine blk_far ?_ aQ.out _; refine rb_ ?_; refine blk_far ?_ aQ.out _; refine rb_ ?_; refine blk_far ?_ aQ.out _; refine rb_ ?_; exact aa.out⟩
            have n2_ : Aside0 ((((w78.setCell ⟨ag, 0, none⟩ (.int .i64 ay)).setCell ⟨ag, 1, none⟩ (.string aD)).setCell ⟨ag, 2, none⟩ (.slice aR au.length aS)).heap[ag]? = some (.cells #[.int .i64 ay, .string aD, .slice aR au.length aS] 29 (0, 0))) := ⟨by refine rb_ ?_; refine blk_put (cs := #[.int .i64 ay, .string aD, .slice none 0 0]) ?_ 2 _ rfl; refine rb_ ?_; refine blk_put (cs := #[.int .i64 ay, .string (⟨#[]⟩ : ByteArray), .slice none 0 0]) ?_ 1 _ rfl; refine rb_ ?_; refine blk_put (cs := #[.int .i64 0, .string (⟨#[]⟩ : ByteArray), .slice none 0 0]) ?_ 0 _ rfl; refine rb_ ?_; exact am.out⟩
            have n3_ : Aside0 (IsS93 w0 (((w78.setCell ⟨ag, 0, none⟩ (.int .i64 ay)).setCell ⟨ag, 1, none⟩ (.string aD)).setCell ⟨ag, 2, none⟩ (.slice aR au.length aS)) g s0_0 bJ bK) := ⟨by exact zp45_3_ HI0.out ad.out aX.out⟩
            have n4_ : Aside0 (KeepBut w (((w78.setCell ⟨ag, 0, none⟩ (.int .i64 ay)).setCell ⟨ag, 1, none⟩ (.string aD)).setCell ⟨ag, 2, none⟩ (.slice aR au.length aS)) g none) := ⟨by exact zp45_4_ HK.out ae.out ba.out⟩
            have n5_ : Aside0 (Below w0.heap.size w0 (((w78.setCell ⟨ag, 0, none⟩ (.int .i64 ay)).setCell ⟨ag, 1, none⟩ (.string aD)).setCell ⟨ag, 2, none⟩ (.slice aR au.length aS))) := ⟨by exact zp45_5_ HB.out (IsS93.ge HI0.out) ai.out bD.out⟩
            (try clear aG)
            (try clear aa)
            (try clear am)
            (try clear HI0)
            (try clear HK)
            (try clear HB)
            generalize (((w78.setCell ⟨ag, 0, none⟩ (.int .i64 ay)).setCell ⟨ag, 1, none⟩ (.string aD)).setCell ⟨ag, 2, none⟩ (.slice aR au.length aS)) = w83 at n0_ n1_ n2_ n3_ n4_ n5_ ⊢
            have aG := n0_; have aa := n1_; have am := n2_; have HI0 := n3_; have HK := n4_; have HB := n5_
            clear n0_ n1_ n2_ n3_ n4_ n5_
            replace aG := am_ (Kd.N_drew aG.out)
            replace aa := am_ (blk_drew aa.out)
            replace am := am_ (blk_drew am.out)
            replace HI0 := am_ (IsS93.drew HI0.out)
            replace HK := am_ (keep_drew HK.out)
            replace HB := am_ (below_drew1 HB.out)
            refine start_ (n := 8) (S := fun w' => w'.cell? ⟨ag, 0, none⟩ = some (.int .i64 ay) ∧ w'.cell? ⟨ag, 1, none⟩ = some (.string aD) ∧ w'.cell? ⟨ag, 2, none⟩ = some (.slice aR au.length aS)) (ds := []) (bl 8 0) (by kernel_rfl) rfl rfl ⟨(blk_cell am.out 0).trans rfl, (blk_cell am.out 1).trans rfl, (blk_cell am.out 2).trans rfl⟩ (fun hHeld => ?_); refine with_tabW spec_l3Draw.tab23 spec_l3Draw.bits23 (fun HT_ HW_ => ?_)
            generalize w83.drew = w84 at aG aa am HI0 HK HB hHeld ⊢
            refine pu_ 1 70 (bl 8 2) HT_ ?_
            refine pu_ 2 71 (bl 8 6) HT_ ?_
            refine pu_ 3 72 (bl 8 14) HT_ ?_
            refine tk_ 0 69 (bl 8 15) HT_ HW_ hHeld ?_
            refine on_ 4 (some 73) (bl 8 31) HT_ (fun K hK => ?_)
            refine gO_ Try.func61 #[.pointer (some ⟨g, 0, none⟩), .int .i64 (wrap64 (a1 - 1))] ?_
            with_reducible refine (ih kj71 (by have := HJ2.out; have := HJ30.out; have := HJ71.out; omega) g s0_0 bJ bK (wrap64 (a1 - 1)) bp bq br dN dO w0 _ ?side1 ?side2 A76.out).mono ?_
            (case side1 => exact zp45_3_ HI0.out ad.out aX.out)
            (case side2 => exact zp45_5_ HB.out (IsS93.ge HI0.out) ai.out bD.out)
            rintro e w85 ⟨fd, rfl, ho0, hi, hb, hk⟩
            refine ⟨_, rfl, ?_⟩
            replace bE := am_ (Kd.N_lower (Kd.N_mono (ok' := fun k_ => (w.heap.size ≤ k_) ∧ some k_ ≠ (.slice aR au.length aS : Value).ownBlock ∧ k_ ≠ ab ∧ k_ ≠ ag ∧ k_ ≠ g) ho0 (fun k_ hk_ => ⟨(Nat.le_trans (keep_size (w := w) (g := g) (row := none) (k2_ HK.out ae.out ba.out)) hk_), (Kd.fresh' (Kd.N_lt (rn_ aG.out)) k_ hk_), (Kd.freshB (g := ab) (o := .cells #[.int .i64 0, .string (⟨#[]⟩ : ByteArray), .slice none 0 0] 29 (0, 0)) (rb_ aa.out) k_ hk_), (Kd.freshB (g := ag) (o := .cells #[.int .i64 ay, .string aD, .slice aR au.length aS] 29 (0, 0)) (rb_ am.out) k_ hk_), (IsS93.fresh (zp45_3_ HI0.out ad.out aX.out) k_ hk_)⟩)) (keep_size (w := w) (g := g) (row := none) (k2_ HK.out ae.out ba.out)))
            replace aa := am_ (KeepBut.blk hk (g' := ab) (o := .cells #[.int .i64 0, .string (⟨#[]⟩ : ByteArray), .slice none 0 0] 29 (0, 0)) (rb_ aa.out) aj.out (by simp))
            replace aG := am_ (Kd.N_mono (Kd.N_told (Kd.N_oldK (Kd.N_mono (ok := fun k_ => (((w.heap.size ≤ k_)) ∧ (k_ ≠ ab ∧ (k_ ≠ g ∧ k_ ≠ ag)))) (rn_ aG.out) (fun k_ hk_ => (⟨hk_, hk_.2.2.1⟩ : _ ∧ k_ ≠ g))) hk) (Kd.N_base ho0)) (fun _ h_ => h_.1))
            replace am := am_ (KeepBut.blk hk (g' := ag) (o := .cells #[.int .i64 ay, .string aD, .slice aR au.length aS] 29 (0, 0)) (rb_ am.out) cm.out (by simp))
            replace HK := am_ (KeepBut.trans (k2_ HK.out ae.out ba.out) hk (.inl rfl))
            replace HB := am_ (hb)
            replace HI0 := am_ (hi)
            (try clear hb)
            (try clear hb2)
            (try clear hk)
            (try clear hi)
            (try clear ho0)
            obtain ⟨dQ, dR, dS⟩ := Kd.N_slice bE.out
            (first | subst dS | (injection dS with f1_ f2_ f3_; have f4_ := f1_.symm; have f5_ := f3_.symm; clear f1_ f2_ f3_; subst f4_; subst f5_))
            refine hK.out _ _ ⟨(blk_cell am.out 0).trans rfl, (blk_cell am.out 1).trans rfl, (blk_cell am.out 2).trans rfl⟩ (fun hHeld => ?_)
            clear hK K
            refine norm_ (a' := ?_) ?_ ?_
            rotate_left
            ·show Act.put _ (some 73) _ = _
             simp only [pn_, sz_, ss_, i64_w, i32_w]
             rfl
            refine on_ 5 (some 74) (bl 8 63) HT_ (fun K hK => ?_)
            refine Kd.N_lit_step k29 _ 29 ?hg (N' := 74) ?hd (xs := ([(⟨ay, aD, au⟩ : S29), (⟨bp, bq, br⟩ : S29)] : List (S29))) (inner := [.int .i64 ay, .string aD, .slice aR au.length aS, .int .i64 bp, .string bq, .slice dQ br.length dR]) (ok := (fun k_ => (w.heap.size ≤ k_) ∧ k_ ≠ ab ∧ k_ ≠ ag ∧ k_ ≠ g)) (okp := (fun k_ => (w.heap.size ≤ k_) ∧ k_ ≠ ab ∧ k_ ≠ ag ∧ k_ ≠ g)) ?hr ?hp (fun _ hk => hk) ((show ∀ k_, w85.heap.size ≤ k_ → (fun k_ => (w.heap.size ≤ k_) ∧ k_ ≠ ab ∧ k_ ≠ ag ∧ k_ ≠ g) k_ from fun k_ hk => ⟨(Nat.le_trans (keep_size (w := w) (g := g) (row := none) (k2_ HK.out ae.out ba.out)) hk), Kd.freshB (g := ab) (o := .cells #[.int .i64 0, .string (⟨#[]⟩ : ByteArray), .slice none 0 0] 29 (0, 0)) (rb_ aa.out) k_ hk, Kd.freshB (g := ag) (o := .cells #[.int .i64 ay, .string aD, .slice aR au.length aS] 29 (0, 0)) (rb_ am.out) k_ hk, IsS93.fresh (zp45_3_ HI0.out ad.out aX.out) k_ hk⟩) _ (Nat.le_refl _)) (Below.refl _ _) (Nat.le_refl _) (by simp) ?_; (case hd => rfl); (case hg => rfl); (case hr => first | (go_simp; done) | (go_simp; rfl)); (case hp => exact (Reps.c3 (show Kd.FK k29 _ _ (⟨ay, aD, au⟩ : S29) [.int .i64 ay, .string aD, .slice aR au.length aS] from (k29_mkF _ _ (⟨ay, aD, au⟩ : S29) (Kd.N_reads' (Kd.N_mono (ok' := (fun k_ => (w.heap.size ≤ k_) ∧ k_ ≠ ab ∧ k_ ≠ ag ∧ k_ ≠ g)) (aG.out) (fun k_ hk => ⟨hk.1.1, ⟨hk.1.2.1, ⟨hk.1.2.2.2, hk.1.2.2.1⟩⟩⟩))).2.1 (Kd.N_F (Kd.N_mono (ok' := (fun k_ => (w.heap.size ≤ k_) ∧ k_ ≠ ab ∧ k_ ≠ ag ∧ k_ ≠ g)) (aG.out) (fun k_ hk => ⟨hk.1.1, ⟨hk.1.2.1, ⟨hk.1.2.2.2, hk.1.2.2.1⟩⟩⟩))))) (Reps.c3 (show Kd.FK k29 _ _ (⟨bp, bq, br⟩ : S29) [.int .i64 bp, .string bq, .slice dQ br.length dR] from (k29_mkF _ _ (⟨bp, bq, br⟩ : S29) (Kd.N_reads' (Kd.N_mono (ok' := (fun k_ => (w.heap.size ≤ k_) ∧ k_ ≠ ab ∧ k_ ≠ ag ∧ k_ ≠ g)) (bE.out) (fun k_ hk => ⟨hk.1, ⟨hk.2.2.1, ⟨hk.2.2.2.1, hk.2.2.2.2⟩⟩⟩))).2.1 (Kd.N_F (Kd.N_mono (ok' := (fun k_ => (w.heap.size ≤ k_) ∧ k_ ≠ ab ∧ k_ ≠ ag ∧ k_ ≠ g)) (bE.out) (fun k_ hk => ⟨hk.1, ⟨hk.2.2.1, ⟨hk.2.2.2.1, hk.2.2.2.2⟩⟩⟩))))) (Reps.none _ _))))
            intro fe w87 ho88 hb hg_ hnew_
            clear hg_ hnew_
            (first | rw [← cG.out] at ho88 | (simp only [Int.reduceToNat] at ho88; rw [← cG.out] at ho88))
            replace cH := am_ (Kd.N_lower ho88 (keep_size (w := w) (g := g) (row := none) (k2_ HK.out ae.out ba.out)))
            replace aa := am_ (blk_below (rb_ aa.out) hb)
            replace am := am_ (blk_below (rb_ am.out) hb)
            replace HK := am_ (KeepBut.trans (k2_ HK.out ae.out ba.out) (KeepBut.of_below hb g none) (.inl rfl))
            replace HB := am_ (below_step (b3_ HB.out (IsS93.ge HI0.out) ai.out bD.out) hb)
            replace HI0 := am_ (IsS93.below (zp45_3_ HI0.out ad.out aX.out) hb)
            clear aG bE hb ho88
            obtain ⟨dT, dU, dV⟩ := Kd.N_slice cH.out
            (first | subst dV | (injection dV with f1_ f2_ f3_; have f4_ := f1_.symm; have f5_ := f3_.symm; clear f1_ f2_ f3_; subst f4_; subst f5_))
            refine hK.out _ _ ⟨(blk_cell am.out 0).trans rfl, (blk_cell am.out 1).trans rfl, (blk_cell am.out 2).trans rfl⟩ (fun hHeld => ?_)
            clear hK K
            refine norm_ (a' := ?_) ?_ ?_
            rotate_left
            ·show Act.put _ (some 74) _ = _
             simp only [pn_, sz_, ss_, i64_w, i32_w]
             rfl
            refine pu_ 6 75 (bl 8 127) HT_ ?_
            refine on_ 7 none (bl 8 255) HT_ (fun K hK => ?_)
            have hs90 : w87.cell? ⟨ab, 0, none⟩ = some (.int .i64 0) := (blk_cell aa.out 0).trans rfl
            have hfs90 := blk_frozen aa.out 0
            have hns90_1 := ap.out
            have hms90_1 := aQ.out
            have hs91 : w87.cell? ⟨ab, 1, none⟩ = some (.string (⟨#[]⟩ : ByteArray)) := (blk_cell aa.out 1).trans rfl
            have hfs91 := blk_frozen aa.out 1
            have hns91_1 := ap.out
            have hms91_1 := aQ.out
            have hs92 : w87.cell? ⟨ab, 2, none⟩ = some (.slice none 0 0) := (blk_cell aa.out 2).trans rfl
            have hfs92 := blk_frozen aa.out 2
            have hns92_1 := ap.out
            have hms92_1 := aQ.out
            refine skip_ (w1 := ?_) (by rfl) rfl ?_ ?_
            rotate_left
            ·go_simp
             rfl
            refine hK.out _ _ ⟨((cell_far (p := ⟨ab, _, none⟩) ap.out _).trans (((cell_far (p := ⟨ab, _, none⟩) ap.out _).trans (((cell_far (p := ⟨ab, _, none⟩) ap.out _).trans (hHeld.1)))))), ((cell_far (p := ⟨ab, _, none⟩) ap.out _).trans (((cell_far (p := ⟨ab, _, none⟩) ap.out _).trans (((cell_far (p := ⟨ab, _, none⟩) ap.out _).trans (hHeld.2.1)))))), ((cell_far (p := ⟨ab, _, none⟩) ap.out _).trans (((cell_far (p := ⟨ab, _, none⟩) ap.out _).trans (((cell_far (p := ⟨ab, _, none⟩) ap.out _).trans (hHeld.2.2))))))⟩ (fun hHeld => ?_)
            clear hK K
            refine done_ (done_of HT_.out (by kernel_rfl)) ?_
            try go_wp2
            refine bodyPost_ret (results_cell_row rfl _ _ ab 29 #[.int .i64 6, .string (⟨#[]⟩ : ByteArray), .slice dT cx.length dU] (0, 0) _ rfl (by refine rb_ ?_; refine blk_put (cs := #[.int .i64 6, .string (⟨#[]⟩ : ByteArray), .slice none 0 0]) ?_ 2 _ rfl; refine rb_ ?_; refine blk_put (cs := #[.int .i64 6, .string (⟨#[]⟩ : ByteArray), .slice none 0 0]) ?_ 1 _ rfl; refine rb_ ?_; refine blk_put (cs := #[.int .i64 0, .string (⟨#[]⟩ : ByteArray), .slice none 0 0]) ?_ 0 _ rfl; refine rb_ ?_; exact aa.out) Try.underlying29 rfl (by kernel_rfl)) rfl ?_
            exact ⟨_, by first | rfl | (simp [errW_none, errW_some] <;> rfl) | (simp [*, errW_none, errW_some] <;> rfl), by refine rn_ ?_; exact Kd.N_mono (Kd.N_far (p := ⟨ab, 2, none⟩) (Kd.N_far (p := ⟨ab, 1, none⟩) (Kd.N_far (p := ⟨ab, 0, none⟩) (Kd.N_mono cH.out (fun k_ hk => (⟨hk, hk.2.1⟩ : _ ∧ k_ ≠ ab))) (fun _ hk => hk.2) (.int .i64 6)) (fun _ hk => hk.2) (.string (⟨#[]⟩ : ByteArray))) (fun _ hk => hk.2) (.slice dT cx.length dU)) (fun _ hk => hk.1.1), by exact zp45_3_ HI0.out ad.out aX.out, by exact zp45_5_ HB.out (IsS93.ge HI0.out) ai.out bD.out, by exact zp45_4_ HK.out ae.out ba.out⟩
           ·replace c74 := Bool.eq_false_iff.mpr c74
            subst c74
            have H1 : ((spec_l3Draw.f kj71 s0_0 aL aM (wrap64 (a1 - 1))).bind fun bt820 => ((spec_l3Draw.f kj71 s0_0 bt820.2.2.2.1 bt820.2.2.2.2 (wrap64 (a1 - 1))).bind fun bt828 => (some (5, (⟨#[]⟩ : ByteArray), (([(⟨bt820.1, bt820.2.1, bt820.2.2.1⟩ : S29), (⟨bt828.1, bt828.2.1, bt828.2.2.1⟩ : S29)] : List (S29))), bt828.2.2.2.1, bt828.2.2.2.2)))) = some (r1, r2, r3, r4, r5) := by rw [if_neg (show ¬ (false = true) by decide)] at H; exact H
            clear H
            have H := H1
            clear H1
            replace H := Option.bind_eq_some_iff.mp H
            obtain ⟨⟨az, aE, av, bL, bM⟩, dW, H⟩ := H
            have A93 := am_ dW
            clear dW
            replace H := Option.bind_eq_some_iff.mp H
            obtain ⟨⟨bs, bt, bu, dX, dY⟩, dZ, H⟩ := H
            have A94 := am_ dZ
            clear dZ
            obtain ⟨cy, hy835⟩ : ∃ y_ : List (S29), y_ = (([(⟨az, aE, av⟩ : S29), (⟨bs, bt, bu⟩ : S29)] : List (S29))) := ⟨_, rfl⟩
            replace H : (some (5, (⟨#[]⟩ : ByteArray), cy, dX, dY)) = some (r1, r2, r3, r4, r5) := by first | (rw [hy835]; with_reducible exact H) | (have H2_ := (Option.bind_some _ _).symm.trans H; rw [hy835]; with_reducible exact H2_) | (have H2_ := (Option.bind_some _ _).symm.trans H; with_reducible exact H2_) | with_reducible exact H | (rw [hy835]; exact H) | exact H
            have cI := am_ hy835
            clear hy835
            simp only [Option.some.injEq, Prod.mk.injEq] at H
            obtain ⟨rfl, rfl, rfl, rfl, rfl⟩ := H
            try go_wp2_with (first | ((with_reducible refine gate_callee (f := 61) rfl ?_); refine gL_ (some 79) Try.func61 #[.pointer (some ⟨g, 0, none⟩), .int .i64 (wrap64 (a1 - 1))] ?_; (with_reducible refine (ih kj71 (by have := HJ2.out; have := HJ30.out; have := HJ71.out; omega) g s0_0 aL aM (wrap64 (a1 - 1)) az aE av bL bM w0 _ ?side1 ?side2 A93.out).mono ?_); (case side1 => exact zp45_0_ HI0.out ad.out); (case side2 => exact zp45_2_ HB.out (IsS93.ge HI0.out) ai.out); rintro e w95 ⟨ff, rfl, ho0, hi, hb, hk⟩; refine ⟨_, rfl, ?_⟩; have n0_ := am_ (KeepBut.blk hk (g' := ab) (o := .cells #[.int .i64 0, .string (⟨#[]⟩ : ByteArray), .slice none 0 0] 29 (0, 0)) (rb_ aa.out) aj.out (by simp)); have n1_ := am_ (Kd.N_lower (Kd.N_mono (ok' := fun k_ => (w.heap.size ≤ k_) ∧ k_ ≠ ab ∧ k_ ≠ g) ho0 (fun k_ hk_ => ⟨(Nat.le_trans (keep_size (w := w) (g := g) (row := none) (k1_ HK.out ae.out)) hk_), (Kd.freshB (g := ab) (o := .cells #[.int .i64 0, .string (⟨#[]⟩ : ByteArray), .slice none 0 0] 29 (0, 0)) (rb_ aa.out) k_ hk_), (IsS93.fresh (zp45_0_ HI0.out ad.out) k_ hk_)⟩)) (keep_size (w := w) (g := g) (row := none) (k1_ HK.out ae.out))); have n2_ := am_ (KeepBut.trans (k1_ HK.out ae.out) hk (.inl rfl)); have n3_ := am_ (hb); have n4_ := am_ (hi); clear aa; clear HK; clear HB; clear HI0; have aa := n0_; have aH := n1_; have HK := n2_; have HB := n3_; have HI0 := n4_; clear n0_ n1_ n2_ n3_ n4_; (try clear hb); (try clear hb2); (try clear hk); (try clear hi); (try clear ho0)) | ((with_reducible refine gate_dst (N := 7) rfl ?_); refine box_event ?hg (N := 7) ?hd (cs := #[.int .i64 0, .string (⟨#[]⟩ : ByteArray), .slice none 0 0]) (t := 29) ?hr ?_; (case hd => rfl); (case hg => rfl); (case hr => first | (go_simp; done) | (go_simp; rfl)); intro ah hg w96 hbox hb; have n0_ := am_ (Kd.N_below (Kd.N_elderB (rn_ aH.out) ah (Nat.le_of_eq hg.symm)) hb); have n1_ := am_ (blk_below (rb_ aa.out) hb); have n2_ := am_ (IsS93.below (zp45_0_ HI0.out ad.out) hb); have n3_ := am_ (KeepBut.trans (k1_ HK.out ae.out) (KeepBut.of_below hb g none) (.inl rfl)); have n4_ := am_ (below_step (b2_ HB.out (IsS93.ge HI0.out) ai.out) hb); have n5_ := am_ (hbox); have n6_ := am_ ((by rw [hg]; exact (keep_size (w := w) (g := g) (row := none) (k1_ HK.out ae.out)) : w.heap.size ≤ ah)); have n7_ := am_ ((Nat.le_trans HW0.out (by rw [hg]; exact (keep_size (w := w) (g := g) (row := none) (k1_ HK.out ae.out)) : w.heap.size ≤ ah) : w0.heap.size ≤ ah)); have n8_ := am_ ((by rw [hg]; exact Nat.ne_of_lt (blk_lt (rb_ aa.out)) : ab ≠ ah)); have n9_ := am_ ((by rw [hg]; exact Nat.ne_of_gt (blk_lt (rb_ aa.out)) : ah ≠ ab)); have n10_ := am_ ((by rw [hg]; exact Nat.ne_of_lt (IsS93.lt (show IsS93 w0 _ g s0_0 bL bM from by exact zp45_0_ HI0.out ad.out)) : g ≠ ah)); have n11_ := am_ ((by rw [hg]; exact Nat.ne_of_gt (IsS93.lt (show IsS93 w0 _ g s0_0 bL bM from by exact zp45_0_ HI0.out ad.out)) : ah ≠ g)); clear aH; clear aa; clear HI0; clear HK; clear HB; have aH := n0_; have aa := n1_; have HI0 := n2_; have HK := n3_; have HB := n4_; have an := n5_; have bb := n6_; have bF := n7_; have aT := n8_; have aq := n9_; have aY := n10_; have cn := n11_; clear n0_ n1_ n2_ n3_ n4_ n5_ n6_ n7_ n8_ n9_ n10_ n11_; clear hb hbox hg; have eQ := aq.out; have eR := aT.out; have eS := cn.out; have eT := aY.out; have eq := ck_ (v := (.int .i64 0)) an 0 rfl; have er := ck_ (v := (.string (⟨#[]⟩ : ByteArray))) an 1 rfl; have es := ck_ (v := (.slice none 0 0)) an 2 rfl; have et := blk_frozen an.out 0; have eu := blk_frozen an.out 1; have ev := blk_frozen an.out 2; obtain ⟨aA, aB, ea⟩ := Kd.N_slice aH.out; subst ea))
            have n0_ : Aside0 (Kd.N k29 29 (((w96.setCell ⟨ah, 0, none⟩ (.int .i64 az)).setCell ⟨ah, 1, none⟩ (.string aE)).setCell ⟨ah, 2, none⟩ (.slice aA av.length aB)) w.heap.size (fun k_ => (w.heap.size ≤ k_) ∧ k_ ≠ ab ∧ k_ ≠ g ∧ k_ ≠ ah) (.slice aA av.length aB) av) := ⟨by refine rn_ ?_; exact Kd.N_mono (Kd.N_far (p := ⟨ah, 2, none⟩) (Kd.N_far (p := ⟨ah, 1, none⟩) (Kd.N_far (p := ⟨ah, 0, none⟩) (Kd.N_mono aH.out (fun k_ hk => (⟨hk, hk.2⟩ : _ ∧ k_ ≠ ah))) (fun _ hk => hk.2) (.int .i64 az)) (fun _ hk => hk.2) (.string aE)) (fun _ hk => hk.2) (.slice aA av.length aB)) (fun _ hk => ⟨hk.1.1.1, ⟨hk.1.1.2.1, ⟨hk.1.1.2.2, hk.1.2⟩⟩⟩)⟩
            have n1_ : Aside0 ((((w96.setCell ⟨ah, 0, none⟩ (.int .i64 az)).setCell ⟨ah, 1, none⟩ (.string aE)).setCell ⟨ah, 2, none⟩ (.slice aA av.length aB)).heap[ab]? = some (.cells #[.int .i64 0, .string (⟨#[]⟩ : ByteArray), .slice none 0 0] 29 (0, 0))) := ⟨by refine rb_ ?_; refine blk_far ?_ aT.out _; refine rb_ ?_; refine blk_far ?_ aT.out _; refine rb_ ?_; refine blk_far ?_ aT.out _; refine rb_ ?_; exact aa.out⟩
            have n2_ : Aside0 ((((w96.setCell ⟨ah, 0, none⟩ (.int .i64 az)).setCell ⟨ah, 1, none⟩ (.string aE)).setCell ⟨ah, 2, none⟩ (.slice aA av.length aB)).heap[ah]? = some (.cells #[.int .i64 az, .string aE, .slice aA av.length aB] 29 (0, 0))) := ⟨by refine rb_ ?_; refine blk_put (cs := #[.int .i64 az, .string aE, .slice none 0 0]) ?_ 2 _ rfl; refine rb_ ?_; refine blk_put (cs := #[.int .i64 az, .string (⟨#[]⟩ : ByteArray), .slice none 0 0]) ?_ 1 _ rfl; refine rb_ ?_; refine blk_put (cs := #[.int .i64 0, .string (⟨#[]⟩ : ByteArray), .slice none 0 0]) ?_ 0 _ rfl; refine rb_ ?_; exact an.out⟩
            have n3_ : Aside0 (IsS93 w0 (((w96.setCell ⟨ah, 0, none⟩ (.int .i64 az)).setCell ⟨ah, 1, none⟩ (.string aE)).setCell ⟨ah, 2, none⟩ (.slice aA av.length aB)) g s0_0 bL bM) := ⟨by exact zp45_3_ HI0.out ad.out aY.out⟩
            have n4_ : Aside0 (KeepBut w (((w96.setCell ⟨ah, 0, none⟩ (.int .i64 az)).setCell ⟨ah, 1, none⟩ (.string aE)).setCell ⟨ah, 2, none⟩ (.slice aA av.length aB)) g none) := ⟨by exact zp45_4_ HK.out ae.out bb.out⟩
            have n5_ : Aside0 (Below w0.heap.size w0 (((w96.setCell ⟨ah, 0, none⟩ (.int .i64 az)).setCell ⟨ah, 1, none⟩ (.string aE)).setCell ⟨ah, 2, none⟩ (.slice aA av.length aB))) := ⟨by exact zp45_5_ HB.out (IsS93.ge HI0.out) ai.out bF.out⟩
            (try clear aH)
            (try clear aa)
            (try clear an)
            (try clear HI0)
            (try clear HK)
            (try clear HB)
            generalize (((w96.setCell ⟨ah, 0, none⟩ (.int .i64 az)).setCell ⟨ah, 1, none⟩ (.string aE)).setCell ⟨ah, 2, none⟩ (.slice aA av.length aB)) = w101 at n0_ n1_ n2_ n3_ n4_ n5_ ⊢
            have aH := n0_; have aa := n1_; have an := n2_; have HI0 := n3_; have HK := n4_; have HB := n5_
            clear n0_ n1_ n2_ n3_ n4_ n5_
            replace aH := am_ (Kd.N_drew aH.out)
            replace aa := am_ (blk_drew aa.out)
            replace an := am_ (blk_drew an.out)
            replace HI0 := am_ (IsS93.drew HI0.out)
            replace HK := am_ (keep_drew HK.out)
            replace HB := am_ (below_drew1 HB.out)
            refine start_ (n := 8) (S := fun w' => w'.cell? ⟨ah, 0, none⟩ = some (.int .i64 az) ∧ w'.cell? ⟨ah, 1, none⟩ = some (.string aE) ∧ w'.cell? ⟨ah, 2, none⟩ = some (.slice aA av.length aB)) (ds := []) (bl 8 0) (by kernel_rfl) rfl rfl ⟨(blk_cell an.out 0).trans rfl, (blk_cell an.out 1).trans rfl, (blk_cell an.out 2).trans rfl⟩ (fun hHeld => ?_); refine with_tabW spec_l3Draw.tab25 spec_l3Draw.bits25 (fun HT_ HW_ => ?_)
            generalize w101.drew = w102 at aH aa an HI0 HK HB hHeld ⊢
            refine pu_ 1 81 (bl 8 2) HT_ ?_
            refine pu_ 2 82 (bl 8 6) HT_ ?_
            refine pu_ 3 83 (bl 8 14) HT_ ?_
            refine tk_ 0 80 (bl 8 15) HT_ HW_ hHeld ?_
            refine on_ 4 (some 84) (bl 8 31) HT_ (fun K hK => ?_)
            refine gO_ Try.func61 #[.pointer (some ⟨g, 0, none⟩), .int .i64 (wrap64 (a1 - 1))] ?_
            with_reducible refine (ih kj71 (by have := HJ2.out; have := HJ30.out; have := HJ71.out; omega) g s0_0 bL bM (wrap64 (a1 - 1)) bs bt bu dX dY w0 _ ?side1 ?side2 A94.out).mono ?_
            (case side1 => exact zp45_3_ HI0.out ad.out aY.out)
            (case side2 => exact zp45_5_ HB.out (IsS93.ge HI0.out) ai.out bF.out)
            rintro e w103 ⟨fg, rfl, ho0, hi, hb, hk⟩
            refine ⟨_, rfl, ?_⟩
            replace bG := am_ (Kd.N_lower (Kd.N_mono (ok' := fun k_ => (w.heap.size ≤ k_) ∧ some k_ ≠ (.slice aA av.length aB : Value).ownBlock ∧ k_ ≠ ab ∧ k_ ≠ ah ∧ k_ ≠ g) ho0 (fun k_ hk_ => ⟨(Nat.le_trans (keep_size (w := w) (g := g) (row := none) (k2_ HK.out ae.out bb.out)) hk_), (Kd.fresh' (Kd.N_lt (rn_ aH.out)) k_ hk_), (Kd.freshB (g := ab) (o := .cells #[.int .i64 0, .string (⟨#[]⟩ : ByteArray), .slice none 0 0] 29 (0, 0)) (rb_ aa.out) k_ hk_), (Kd.freshB (g := ah) (o := .cells #[.int .i64 az, .string aE, .slice aA av.length aB] 29 (0, 0)) (rb_ an.out) k_ hk_), (IsS93.fresh (zp45_3_ HI0.out ad.out aY.out) k_ hk_)⟩)) (keep_size (w := w) (g := g) (row := none) (k2_ HK.out ae.out bb.out)))
            replace aa := am_ (KeepBut.blk hk (g' := ab) (o := .cells #[.int .i64 0, .string (⟨#[]⟩ : ByteArray), .slice none 0 0] 29 (0, 0)) (rb_ aa.out) aj.out (by simp))
            replace aH := am_ (Kd.N_mono (Kd.N_told (Kd.N_oldK (Kd.N_mono (ok := fun k_ => (((w.heap.size ≤ k_)) ∧ (k_ ≠ ab ∧ (k_ ≠ g ∧ k_ ≠ ah)))) (rn_ aH.out) (fun k_ hk_ => (⟨hk_, hk_.2.2.1⟩ : _ ∧ k_ ≠ g))) hk) (Kd.N_base ho0)) (fun _ h_ => h_.1))
            replace an := am_ (KeepBut.blk hk (g' := ah) (o := .cells #[.int .i64 az, .string aE, .slice aA av.length aB] 29 (0, 0)) (rb_ an.out) cn.out (by simp))
            replace HK := am_ (KeepBut.trans (k2_ HK.out ae.out bb.out) hk (.inl rfl))
            replace HB := am_ (hb)
            replace HI0 := am_ (hi)
            (try clear hb)
            (try clear hb2)
            (try clear hk)
            (try clear hi)
            (try clear ho0)
            obtain ⟨cJ, cK, cL⟩ := Kd.N_slice bG.out
            (first | subst cL | (injection cL with f1_ f2_ f3_; have f4_ := f1_.symm; have f5_ := f3_.symm; clear f1_ f2_ f3_; subst f4_; subst f5_))
            refine hK.out _ _ ⟨(blk_cell an.out 0).trans rfl, (blk_cell an.out 1).trans rfl, (blk_cell an.out 2).trans rfl⟩ (fun hHeld => ?_)
            clear hK K
            refine norm_ (a' := ?_) ?_ ?_
            rotate_left
            ·show Act.put _ (some 84) _ = _
             simp only [pn_, sz_, ss_, i64_w, i32_w]
             rfl
            refine on_ 5 (some 85) (bl 8 63) HT_ (fun K hK => ?_)
            refine Kd.N_lit_step k29 _ 29 ?hg (N' := 85) ?hd (xs := ([(⟨az, aE, av⟩ : S29), (⟨bs, bt, bu⟩ : S29)] : List (S29))) (inner := [.int .i64 az, .string aE, .slice aA av.length aB, .int .i64 bs, .string bt, .slice cJ bu.length cK]) (ok := (fun k_ => (w.heap.size ≤ k_) ∧ k_ ≠ ab ∧ k_ ≠ ah ∧ k_ ≠ g)) (okp := (fun k_ => (w.heap.size ≤ k_) ∧ k_ ≠ ab ∧ k_ ≠ ah ∧ k_ ≠ g)) ?hr ?hp (fun _ hk => hk) ((show ∀ k_, w103.heap.size ≤ k_ → (fun k_ => (w.heap.size ≤ k_) ∧ k_ ≠ ab ∧ k_ ≠ ah ∧ k_ ≠ g) k_ from fun k_ hk => ⟨(Nat.le_trans (keep_size (w := w) (g := g) (row := none) (k2_ HK.out ae.out bb.out)) hk), Kd.freshB (g := ab) (o := .cells #[.int .i64 0, .string (⟨#[]⟩ : ByteArray), .slice none 0 0] 29 (0, 0)) (rb_ aa.out) k_ hk, Kd.freshB (g := ah) (o := .cells #[.int .i64 az, .string aE, .slice aA av.length aB] 29 (0, 0)) (rb_ an.out) k_ hk, IsS93.fresh (zp45_3_ HI0.out ad.out aY.out) k_ hk⟩) _ (Nat.le_refl _)) (Below.refl _ _) (Nat.le_refl _) (by simp) ?_; (case hd => rfl); (case hg => rfl); (case hr => first | (go_simp; done) | (go_simp; rfl)); (case hp => exact (Reps.c3 (show Kd.FK k29 _ _ (⟨az, aE, av⟩ : S29) [.int .i64 az, .string aE, .slice aA av.length aB] from (k29_mkF _ _ (⟨az, aE, av⟩ : S29) (Kd.N_reads' (Kd.N_mono (ok' := (fun k_ => (w.heap.size ≤ k_) ∧ k_ ≠ ab ∧ k_ ≠ ah ∧ k_ ≠ g)) (aH.out) (fun k_ hk => ⟨hk.1.1, ⟨hk.1.2.1, ⟨hk.1.2.2.2, hk.1.2.2.1⟩⟩⟩))).2.1 (Kd.N_F (Kd.N_mono (ok' := (fun k_ => (w.heap.size ≤ k_) ∧ k_ ≠ ab ∧ k_ ≠ ah ∧ k_ ≠ g)) (aH.out) (fun k_ hk => ⟨hk.1.1, ⟨hk.1.2.1, ⟨hk.1.2.2.2, hk.1.2.2.1⟩⟩⟩))))) (Reps.c3 (show Kd.FK k29 _ _ (⟨bs, bt, bu⟩ : S29) [.int .i64 bs, .string bt, .slice cJ bu.length cK] from (k29_mkF _ _ (⟨bs, bt, bu⟩ : S29) (Kd.N_reads' (Kd.N_mono (ok' := (fun k_ => (w.heap.size ≤ k_) ∧ k_ ≠ ab ∧ k_ ≠ ah ∧ k_ ≠ g)) (bG.out) (fun k_ hk => ⟨hk.1, ⟨hk.2.2.1, ⟨hk.2.2.2.1, hk.2.2.2.2⟩⟩⟩))).2.1 (Kd.N_F (Kd.N_mono (ok' := (fun k_ => (w.heap.size ≤ k_) ∧ k_ ≠ ab ∧ k_ ≠ ah ∧ k_ ≠ g)) (bG.out) (fun k_ hk => ⟨hk.1, ⟨hk.2.2.1, ⟨hk.2.2.2.1, hk.2.2.2.2⟩⟩⟩))))) (Reps.none _ _))))
            intro fh w105 ho106 hb hg_ hnew_
            clear hg_ hnew_
            (first | rw [← cI.out] at ho106 | (simp only [Int.reduceToNat] at ho106; rw [← cI.out] at ho106))
            replace cM := am_ (Kd.N_lower ho106 (keep_size (w := w) (g := g) (row := none) (k2_ HK.out ae.out bb.out)))
            replace aa := am_ (blk_below (rb_ aa.out) hb)
            replace an := am_ (blk_below (rb_ an.out) hb)
            replace HK := am_ (KeepBut.trans (k2_ HK.out ae.out bb.out) (KeepBut.of_below hb g none) (.inl rfl))
            replace HB := am_ (below_step (b3_ HB.out (IsS93.ge HI0.out) ai.out bF.out) hb)
            replace HI0 := am_ (IsS93.below (zp45_3_ HI0.out ad.out aY.out) hb)
            clear aH bG hb ho106
            obtain ⟨cN, cO, cP⟩ := Kd.N_slice cM.out
            (first | subst cP | (injection cP with f1_ f2_ f3_; have f4_ := f1_.symm; have f5_ := f3_.symm; clear f1_ f2_ f3_; subst f4_; subst f5_))
            refine hK.out _ _ ⟨(blk_cell an.out 0).trans rfl, (blk_cell an.out 1).trans rfl, (blk_cell an.out 2).trans rfl⟩ (fun hHeld => ?_)
            clear hK K
            refine norm_ (a' := ?_) ?_ ?_
            rotate_left
            ·show Act.put _ (some 85) _ = _
             simp only [pn_, sz_, ss_, i64_w, i32_w]
             rfl
            refine pu_ 6 86 (bl 8 127) HT_ ?_
            refine on_ 7 none (bl 8 255) HT_ (fun K hK => ?_)
            have hs108 : w105.cell? ⟨ab, 0, none⟩ = some (.int .i64 0) := (blk_cell aa.out 0).trans rfl
            have hfs108 := blk_frozen aa.out 0
            have hns108_1 := aq.out
            have hms108_1 := aT.out
            have hs109 : w105.cell? ⟨ab, 1, none⟩ = some (.string (⟨#[]⟩ : ByteArray)) := (blk_cell aa.out 1).trans rfl
            have hfs109 := blk_frozen aa.out 1
            have hns109_1 := aq.out
            have hms109_1 := aT.out
            have hs110 : w105.cell? ⟨ab, 2, none⟩ = some (.slice none 0 0) := (blk_cell aa.out 2).trans rfl
            have hfs110 := blk_frozen aa.out 2
            have hns110_1 := aq.out
            have hms110_1 := aT.out
            refine skip_ (w1 := ?_) (by rfl) rfl ?_ ?_
            rotate_left
            ·go_simp
             rfl
            refine hK.out _ _ ⟨((cell_far (p := ⟨ab, _, none⟩) aq.out _).trans (((cell_far (p := ⟨ab, _, none⟩) aq.out _).trans (((cell_far (p := ⟨ab, _, none⟩) aq.out _).trans (hHeld.1)))))), ((cell_far (p := ⟨ab, _, none⟩) aq.out _).trans (((cell_far (p := ⟨ab, _, none⟩) aq.out _).trans (((cell_far (p := ⟨ab, _, none⟩) aq.out _).trans (hHeld.2.1)))))), ((cell_far (p := ⟨ab, _, none⟩) aq.out _).trans (((cell_far (p := ⟨ab, _, none⟩) aq.out _).trans (((cell_far (p := ⟨ab, _, none⟩) aq.out _).trans (hHeld.2.2))))))⟩ (fun hHeld => ?_)
            clear hK K
            refine done_ (done_of HT_.out (by kernel_rfl)) ?_
            try go_wp2
            refine bodyPost_ret (results_cell_row rfl _ _ ab 29 #[.int .i64 5, .string (⟨#[]⟩ : ByteArray), .slice cN cy.length cO] (0, 0) _ rfl (by refine rb_ ?_; refine blk_put (cs := #[.int .i64 5, .string (⟨#[]⟩ : ByteArray), .slice none 0 0]) ?_ 2 _ rfl; refine rb_ ?_; refine blk_put (cs := #[.int .i64 5, .string (⟨#[]⟩ : ByteArray), .slice none 0 0]) ?_ 1 _ rfl; refine rb_ ?_; refine blk_put (cs := #[.int .i64 0, .string (⟨#[]⟩ : ByteArray), .slice none 0 0]) ?_ 0 _ rfl; refine rb_ ?_; exact aa.out) Try.underlying29 rfl (by kernel_rfl)) rfl ?_
            exact ⟨_, by first | rfl | (simp [errW_none, errW_some] <;> rfl) | (simp [*, errW_none, errW_some] <;> rfl), by refine rn_ ?_; exact Kd.N_mono (Kd.N_far (p := ⟨ab, 2, none⟩) (Kd.N_far (p := ⟨ab, 1, none⟩) (Kd.N_far (p := ⟨ab, 0, none⟩) (Kd.N_mono cM.out (fun k_ hk => (⟨hk, hk.2.1⟩ : _ ∧ k_ ≠ ab))) (fun _ hk => hk.2) (.int .i64 5)) (fun _ hk => hk.2) (.string (⟨#[]⟩ : ByteArray))) (fun _ hk => hk.2) (.slice cN cy.length cO)) (fun _ hk => hk.1.1), by exact zp45_3_ HI0.out ad.out aY.out, by exact zp45_5_ HB.out (IsS93.ge HI0.out) ai.out bF.out, by exact zp45_4_ HK.out ae.out bb.out⟩
end Go.Proofs.Ytldgkgdgcfllmaa.P
end
