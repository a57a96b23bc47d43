/- Texts of the proof of FnRegexText, put together. No condition. -/
import Derived.Test.YtldgkgdgcfllmaaQFnRegexText3
import Derived.Test.YtldgkgdgcfllmaaQFnRegexText2
import Derived.Shelf.Small.Strs
import Derived.Shelf.Strings.Search1
import Derived.Test.YtldgkgdgcfllmaaProg
section
namespace Go.Proofs.Ytldgkgdgcfllmaa.P
open Go.RowKit Go.Proofs.YtldgkgdgcfllmaaW.PrintWords Go.Proofs.YtldgkgdgcfllmaaW.PrintLast Go.Proofs.YtldgkgdgcfllmaaW.PrintMore
attribute [local go_sem] max2_int min2_int max_two min_two max_three min_three max_four min_four
set_option linter.unusedVariables false
set_option linter.unusedSimpArgs false
mutual
def spec_l3Left.l0 : Nat → Int → Int → Int → ByteArray → List (S29) → Option (Int)
  | 0, _, _, _, _, _ => none
  | k + 1, x1, x5, aA, aB, ag => if x5 < (ag.length : Int) then (if x1 ≥ 0 then (if 0 ≤ x5 then ((spec_l3Left.f k ((rd_T29 ag x5).f0) ((rd_T29 ag x5).f1) ((rd_T29 ag x5).f2) x1).bind fun au => (spec_l3Left.l0 k au (wrap64 (x5 + 1)) aA aB ag)) else (none)) else (some x1)) else (some x1)
def spec_l3Left.f : Nat → Int → ByteArray → List (S29) → Int → Option (Int)
  | 0, _, _, _, _ => none
  | k + 1, a0_0, a0_1, l0_2, a1 => spec_l3Left.l0 k (wrap64 (a1 - 1)) 0 a0_0 a0_1 l0_2
end
theorem spec_l3Left.mono_l : ∀ k, (∀ y0 y1 y2 y3, LeO (spec_l3Left.f k y0 y1 y2 y3) (spec_l3Left.f (k + 1) y0 y1 y2 y3)) ∧ (∀ y0 y1 y2 y3 y4, LeO (spec_l3Left.l0 k y0 y1 y2 y3 y4) (spec_l3Left.l0 (k + 1) y0 y1 y2 y3 y4))
  | 0 => ⟨fun _ _ _ _ r h => by simp [spec_l3Left.f] at h, fun _ _ _ _ _ r h => by simp [spec_l3Left.l0] at h⟩
  | k + 1 => by
    obtain ⟨ih0, ih1⟩ := spec_l3Left.mono_l k
    refine ⟨?_, ?_⟩
    · intro y0 y1 y2 y3
      unfold spec_l3Left.f
      repeat' first
      | (with_reducible exact ih0 _ _ _ _)
      | (with_reducible exact ih1 _ _ _ _ _)
      | (with_reducible exact LeO.refl _)
      | (with_reducible exact LeO.none _)
      | (with_reducible refine LeO.ite ?_ ?_)
      | (with_reducible refine LeO.bind ?_ (fun _ => ?_))
      | exact ih0 _ _ _ _
      | exact ih1 _ _ _ _ _
      | exact LeO.none _
      | refine LeO.ite ?_ ?_
      | refine LeO.bind ?_ (fun _ => ?_)
    · intro y0 y1 y2 y3 y4
      unfold spec_l3Left.l0
      repeat' first
      | (with_reducible exact ih0 _ _ _ _)
      | (with_reducible exact ih1 _ _ _ _ _)
      | (with_reducible exact LeO.refl _)
      | (with_reducible exact LeO.none _)
      | (with_reducible refine LeO.ite ?_ ?_)
      | (with_reducible refine LeO.bind ?_ (fun _ => ?_))
      | exact ih0 _ _ _ _
      | exact ih1 _ _ _ _ _
      | exact LeO.none _
      | refine LeO.ite ?_ ?_
      | refine LeO.bind ?_ (fun _ => ?_)
theorem spec_l3Left.mono : ∀ a0 a1 a2 a3 k, LeO (spec_l3Left.f k a0 a1 a2 a3) (spec_l3Left.f (k + 1) a0 a1 a2 a3) := by
  intro a0 a1 a2 a3 k
  obtain ⟨ih0, ih1⟩ := spec_l3Left.mono_l k
  exact ih0 a0 a1 a2 a3
theorem zp10_0_ {p q g1 : Prop} (h : p) (h1 : g1) (c : p → g1 → q := by intro h_ h1_; repeat (first | (with_reducible first | exact h_ | apply below_alloc | apply pw_below_drewN | apply below_drew1 | refine below_set ?_ h1_) | exact h_)) : q := c h h1
set_option maxHeartbeats 8000000 in
set_option maxRecDepth 100000 in
theorem spec_l3Left.calls (k : Nat) : ∀ (a0_0 : Int) (a0_1 : ByteArray) (A0_2 : Option Addr) (c0_2 : Nat) (l0_2 : List (S29)) (a1 : Int) (r : Int) (w : World) (hr0_2 : Kd.C k29 w A0_2 l0_2.length l0_2) (hc0_2 : l0_2.length ≤ c0_2) (h : spec_l3Left.f k a0_0 a0_1 l0_2 a1 = some r),
    Calls Try.prog 41 #[.agg #[.int .i64 a0_0, .string a0_1, .slice A0_2 l0_2.length c0_2], .int .i64 a1] w fun e w' => e = .returned (.int .i64 r) ∧ Below w.heap.size w w' := by
  induction k using Nat.strongRecOn with
  | _ k ih =>
  intro a0_0 a0_1 A0_2 c0_2 l0_2 a1 r w hr0_2 hc0_2 h
  cases k with
  | zero => exact absurd h (by simp [spec_l3Left.f])
  | succ k =>
  simp only [spec_l3Left.f] at h
  have hu29 := Try.underlying29
  have ax := am_ hr0_2
  have aI := am_ hc0_2
  clear hr0_2 hc0_2
  have HB := am_ (Below.refl w.heap.size w)
  have H : (spec_l3Left.l0 k (wrap64 (a1 - 1)) 0 a0_0 a0_1 l0_2) = some r := h
  clear h
  have H' := am_ H
  clear H
  go_enter Try.func41, Try.ntmps41
  go_wp2_with (first | ((with_reducible refine gate_dst (N := 2) rfl ?_); refine box_event ?hg (N := 2) ?hd (cs := #[.int .i64 a0_0, .string a0_1, .slice A0_2 l0_2.length c0_2]) (t := 29) ?hr ?_; (case hd => rfl); (case hg => rfl); (case hr => first | (go_simp; done) | (go_simp; rfl)); intro ay hg w3 hbox hb; replace ab := am_ (hbox); replace bn := am_ ((by rw [hg]; exact (below_size (b0_ HB.out)) : w.heap.size ≤ ay)); replace ak := am_ ((by rw [hg]; exact (below_size (b0_ HB.out)) : w.heap.size ≤ ay)); replace HB := am_ (below_step (b0_ HB.out) hb); clear hb hbox hg))
  go_loopg [1, 5] k (fun kq v1 v5 w' => ∃ (ai : Int) (af : Int), v1 = .int .i64 ai ∧ v5 = .int .i64 af ∧ Aside0 (spec_l3Left.l0 kq ai af a0_0 a0_1 l0_2 = some r) ∧ Aside0 (kq ≤ k) ∧ Aside0 (w'.heap[ay]? = some (.cells #[.int .i64 a0_0, .string a0_1, (.slice A0_2 l0_2.length c0_2)] 29 (0, 0))) ∧ Aside0 (Below w.heap.size w w'))
  case atStart => exact ⟨(wrap64 (a1 - 1)), (0), (by first | rfl | (simp; done) | (simp [*]; done)), (by first | rfl | (simp; done) | (simp [*]; done)), H', ⟨Nat.le_refl _⟩, ⟨by refine rb_ ?_; exact ab.out⟩, ⟨by exact zp10_0_ HB.out ak.out⟩⟩
  case round =>
    clear H'
    try clear p2
    obtain ⟨ai, af, rfl, rfl, HA, HK1, ab, HB⟩ := hrel
    cases gk with
    | zero => exact absurd HA.out (by simp [spec_l3Left.l0])
    | succ k1 =>
      have H := HA.out
      clear HA
      simp only [spec_l3Left.l0] at H
      by_cases c4 : af < (l0_2.length : Int)
      · rw [if_pos c4] at H
        have c4b0 : decide (af < (l0_2.length : Int)) = true := decide_eq_true c4
        clear c4
        by_cases c5 : ai ≥ 0
        · rw [if_pos c5] at H
          have c5b0 : decide (0 ≤ ai) = true := decide_eq_true c5
          clear c5
          by_cases c6 : 0 ≤ af
          · rw [if_pos c6] at H
            have c6b0 : decide (0 ≤ af) = true := decide_eq_true c6
            clear c6
            replace H := Option.bind_eq_some_iff.mp H
            obtain ⟨au, A70, H⟩ := H
            replace H : (spec_l3Left.l0 k1 au (wrap64 (af + 1)) a0_0 a0_1 l0_2) = some r := H
            have A7 := am_ A70
            clear A70
            have H' := am_ H
            clear H
            have aV := ck_ (v := (.int .i64 a0_0)) ab 0 rfl
            have aW := ck_ (v := (.string a0_1)) ab 1 rfl
            have aX := ck_ (v := (.slice A0_2 l0_2.length c0_2)) ab 2 rfl
            have aY := blk_frozen ab.out 0
            have aZ := blk_frozen ab.out 1
            have ba := blk_frozen ab.out 2
            have p199 : 0 ≤ (af : Int) := of_decide_eq_true ah_
            have q199 : af < (l0_2.length : Int) := of_decide_eq_true ah_
            obtain ⟨bo, A199_2, c199_2, e199, al, am, an, hl199_2, hi199_2⟩ := at_T29 ax.out af p199 q199
            cases e199
            replace al := (HB.out.cell (World.block_lt_of_cell? w _ al)).trans al
            replace am := (HB.out.cell (World.block_lt_of_cell? w _ am)).trans am
            replace an := (HB.out.cell (World.block_lt_of_cell? w _ an)).trans an
            have aC := am_ hi199_2
            have aD := am_ hl199_2
            clear hi199_2 hl199_2
            replace p199 := eq_true p199
            replace q199 := eq_true q199
            go_wp2_with (first | ((with_reducible refine gate_callee (f := 41) rfl ?_); refine gL_ (some 25) Try.func41 #[.agg #[.int .i64 ((rd_T29 l0_2 af).f0), .string ((rd_T29 l0_2 af).f1), .slice A199_2 ((rd_T29 l0_2 af).f2).length c199_2], .int .i64 ai] ?_; (with_reducible refine (ih k1 (by have := HK1.out; omega) ((rd_T29 l0_2 af).f0) ((rd_T29 l0_2 af).f1) _ _ ((rd_T29 l0_2 af).f2) ai au _ ?side1 ?side2 A7.out).mono ?_); (case side1 => exact rc_ (Kd.C_below aC.out HB.out)); (case side2 => exact aD.out); rintro e w9 ⟨rfl, hb⟩; refine ⟨_, rfl, ?_⟩; have n0_ := am_ (blk_below (rb_ ab.out) hb); have n1_ := am_ (below_step (b1_ HB.out ak.out) hb); clear ab; clear HB; have ab := n0_; have HB := n1_; clear n0_ n1_; (try clear hb); (try clear hb2); (try clear hk); (try clear hi)))
            go_roundg k1
            case measure => have := HK1.out; omega
            case rel => exact ⟨(au), (wrap64 (af + 1)), (by first | rfl | (simp; done) | (simp [*]; done)), (by first | rfl | (simp; done) | (simp [*]; done)), H', ⟨by have := HK1.out; omega⟩, ⟨by refine rb_ ?_; exact ab.out⟩, ⟨by exact zp10_0_ HB.out ak.out⟩⟩
          · rw [if_neg c6] at H
            exact absurd H (by simp)
        · rw [if_neg c5] at H
          have c5b0 : decide (0 ≤ ai) = false := decide_eq_false c5
          clear c5
          obtain rfl := Option.some.inj H
          simp only [Option.some.injEq, Prod.mk.injEq] at H
          obtain ⟨rfl⟩ := H
          have aJ := ck_ (v := (.int .i64 a0_0)) ab 0 rfl
          have aK := ck_ (v := (.string a0_1)) ab 1 rfl
          have aL := ck_ (v := (.slice A0_2 l0_2.length c0_2)) ab 2 rfl
          have aM := blk_frozen ab.out 0
          have aN := blk_frozen ab.out 1
          have aO := blk_frozen ab.out 2
          go_wp2
          go_ret
          exact ⟨by first | rfl | (simp [errW_none, errW_some] <;> rfl) | (simp [*, errW_none, errW_some] <;> rfl), by exact zp10_0_ HB.out ak.out⟩
      · rw [if_neg c4] at H
        have c4b0 : decide (af < (l0_2.length : Int)) = false := decide_eq_false c4
        clear c4
        obtain rfl := Option.some.inj H
        simp only [Option.some.injEq, Prod.mk.injEq] at H
        obtain ⟨rfl⟩ := H
        have aP := ck_ (v := (.int .i64 a0_0)) ab 0 rfl
        have aQ := ck_ (v := (.string a0_1)) ab 1 rfl
        have aR := ck_ (v := (.slice A0_2 l0_2.length c0_2)) ab 2 rfl
        have aS := blk_frozen ab.out 0
        have aT := blk_frozen ab.out 1
        have aU := blk_frozen ab.out 2
        go_wp2
        go_ret
        exact ⟨by first | rfl | (simp [errW_none, errW_some] <;> rfl) | (simp [*, errW_none, errW_some] <;> rfl), by exact zp10_0_ HB.out ak.out⟩
def spec_l1Max.f (a0 : Int) (a1 : Int) : Option (Int) := if a0 > a1 then (some a0) else (some a1)
set_option maxHeartbeats 8000000 in
set_option maxRecDepth 100000 in
theorem spec_l1Max.calls (a0 : Int) (a1 : Int) (r : Int) (w : World) (h : spec_l1Max.f a0 a1 = some r) :
    Calls Try.prog 67 #[.int .i64 a0, .int .i64 a1] w fun e w' => e = .returned (.int .i64 r) ∧ Drawn0 w w' := by
  have H : (if a0 > a1 then (some a0) else (some a1)) = some r := h
  clear h
  by_cases c3 : a0 > a1
  · rw [if_pos c3] at H
    have c3b0 : decide (a1 < a0) = true := decide_eq_true c3
    clear c3
    obtain rfl := Option.some.inj H
    simp only [Option.some.injEq, Prod.mk.injEq] at H
    obtain ⟨rfl⟩ := H
    go_enter Try.func67, Try.ntmps67
    go_wp2
    go_ret
    exact ⟨by first | rfl | (simp; done) | (simp [*]; done), by repeat (first | exact Drawn0.refl _ | apply Drawn0.step)⟩
  · rw [if_neg c3] at H
    have c3b0 : decide (a1 < a0) = false := decide_eq_false c3
    clear c3
    obtain rfl := Option.some.inj H
    simp only [Option.some.injEq, Prod.mk.injEq] at H
    obtain ⟨rfl⟩ := H
    go_enter Try.func67, Try.ntmps67
    go_wp2
    go_ret
    exact ⟨by first | rfl | (simp; done) | (simp [*]; done), by repeat (first | exact Drawn0.refl _ | apply Drawn0.step)⟩
mutual
def spec_l3Depth.l0 : Nat → Int → Int → Int → ByteArray → List (S29) → Option (Int)
  | 0, _, _, _, _, _ => none
  | k + 1, x3, x4, aE, aF, ah => if x4 < (ah.length : Int) then (if 0 ≤ x4 then ((spec_l3Depth.f k ((rd_T29 ah x4).f0) ((rd_T29 ah x4).f1) ((rd_T29 ah x4).f2)).bind fun av => ((spec_l1Max.f x3 av).bind fun aw => (spec_l3Depth.l0 k aw (wrap64 (x4 + 1)) aE aF ah))) else (none)) else (some (wrap64 (x3 + 1)))
def spec_l3Depth.f : Nat → Int → ByteArray → List (S29) → Option (Int)
  | 0, _, _, _ => none
  | k + 1, a0_0, a0_1, l0_2 => spec_l3Depth.l0 k 0 0 a0_0 a0_1 l0_2
end
theorem spec_l3Depth.mono_l : ∀ k, (∀ y0 y1 y2, LeO (spec_l3Depth.f k y0 y1 y2) (spec_l3Depth.f (k + 1) y0 y1 y2)) ∧ (∀ y0 y1 y2 y3 y4, LeO (spec_l3Depth.l0 k y0 y1 y2 y3 y4) (spec_l3Depth.l0 (k + 1) y0 y1 y2 y3 y4))
  | 0 => ⟨fun _ _ _ r h => by simp [spec_l3Depth.f] at h, fun _ _ _ _ _ r h => by simp [spec_l3Depth.l0] at h⟩
  | k + 1 => by
    obtain ⟨ih0, ih1⟩ := spec_l3Depth.mono_l k
    refine ⟨?_, ?_⟩
    · intro y0 y1 y2
      unfold spec_l3Depth.f
      repeat' first
      | (with_reducible exact ih0 _ _ _)
      | (with_reducible exact ih1 _ _ _ _ _)
      | (with_reducible exact LeO.refl _)
      | (with_reducible exact LeO.none _)
      | (with_reducible refine LeO.ite ?_ ?_)
      | (with_reducible refine LeO.bind ?_ (fun _ => ?_))
      | exact ih0 _ _ _
      | exact ih1 _ _ _ _ _
      | exact LeO.none _
      | refine LeO.ite ?_ ?_
      | refine LeO.bind ?_ (fun _ => ?_)
    · intro y0 y1 y2 y3 y4
      unfold spec_l3Depth.l0
      repeat' first
      | (with_reducible exact ih0 _ _ _)
      | (with_reducible exact ih1 _ _ _ _ _)
      | (with_reducible exact LeO.refl _)
      | (with_reducible exact LeO.none _)
      | (with_reducible refine LeO.ite ?_ ?_)
      | (with_reducible refine LeO.bind ?_ (fun _ => ?_))
      | exact ih0 _ _ _
      | exact ih1 _ _ _ _ _
      | exact LeO.none _
      | refine LeO.ite ?_ ?_
      | refine LeO.bind ?_ (fun _ => ?_)
theorem spec_l3Depth.mono : ∀ a0 a1 a2 k, LeO (spec_l3Depth.f k a0 a1 a2) (spec_l3Depth.f (k + 1) a0 a1 a2) := by
  intro a0 a1 a2 k
  obtain ⟨ih0, ih1⟩ := spec_l3Depth.mono_l k
  exact ih0 a0 a1 a2
set_option maxHeartbeats 8000000 in
set_option maxRecDepth 100000 in
theorem spec_l3Depth.calls (k : Nat) : ∀ (a0_0 : Int) (a0_1 : ByteArray) (A0_2 : Option Addr) (c0_2 : Nat) (l0_2 : List (S29)) (r : Int) (w : World) (hr0_2 : Kd.C k29 w A0_2 l0_2.length l0_2) (hc0_2 : l0_2.length ≤ c0_2) (h : spec_l3Depth.f k a0_0 a0_1 l0_2 = some r),
    Calls Try.prog 42 #[.agg #[.int .i64 a0_0, .string a0_1, .slice A0_2 l0_2.length c0_2]] w fun e w' => e = .returned (.int .i64 r) ∧ Below w.heap.size w w' := by
  induction k using Nat.strongRecOn with
  | _ k ih =>
  intro a0_0 a0_1 A0_2 c0_2 l0_2 r w hr0_2 hc0_2 h
  cases k with
  | zero => exact absurd h (by simp [spec_l3Depth.f])
  | succ k =>
  simp only [spec_l3Depth.f] at h
  have hu29 := Try.underlying29
  have ax := am_ hr0_2
  have aI := am_ hc0_2
  clear hr0_2 hc0_2
  have HB := am_ (Below.refl w.heap.size w)
  have H : (spec_l3Depth.l0 k 0 0 a0_0 a0_1 l0_2) = some r := h
  clear h
  have H' := am_ H
  clear H
  go_enter Try.func42, Try.ntmps42
  go_wp2_with (first | ((with_reducible refine gate_dst (N := 1) rfl ?_); refine box_event ?hg (N := 1) ?hd (cs := #[.int .i64 a0_0, .string a0_1, .slice A0_2 l0_2.length c0_2]) (t := 29) ?hr ?_; (case hd => rfl); (case hg => rfl); (case hr => first | (go_simp; done) | (go_simp; rfl)); intro az hg w2 hbox hb; replace ae := am_ (hbox); replace bp := am_ ((by rw [hg]; exact (below_size (b0_ HB.out)) : w.heap.size ≤ az)); replace ar := am_ ((by rw [hg]; exact (below_size (b0_ HB.out)) : w.heap.size ≤ az)); replace HB := am_ (below_step (b0_ HB.out) hb); clear hb hbox hg))
  go_loopg [3, 4] k (fun kq v3 v4 w' => ∃ (aa : Int) (ad : Int), v3 = .int .i64 aa ∧ v4 = .int .i64 ad ∧ Aside0 (spec_l3Depth.l0 kq aa ad a0_0 a0_1 l0_2 = some r) ∧ Aside0 (kq ≤ k) ∧ Aside0 (w'.heap[az]? = some (.cells #[.int .i64 a0_0, .string a0_1, (.slice A0_2 l0_2.length c0_2)] 29 (0, 0))) ∧ Aside0 (Below w.heap.size w w'))
  case atStart => exact ⟨(0), (0), (by first | rfl | (simp; done) | (simp [*]; done)), (by first | rfl | (simp; done) | (simp [*]; done)), H', ⟨Nat.le_refl _⟩, ⟨by refine rb_ ?_; exact ae.out⟩, ⟨by exact zp10_0_ HB.out ar.out⟩⟩
  case round =>
    clear H'
    try clear p2
    obtain ⟨aa, ad, rfl, rfl, HA, HK1, ae, HB⟩ := hrel
    cases gk with
    | zero => exact absurd HA.out (by simp [spec_l3Depth.l0])
    | succ k1 =>
      have H := HA.out
      clear HA
      simp only [spec_l3Depth.l0] at H
      by_cases c3 : ad < (l0_2.length : Int)
      · rw [if_pos c3] at H
        have c3b0 : decide (ad < (l0_2.length : Int)) = true := decide_eq_true c3
        clear c3
        by_cases c4 : 0 ≤ ad
        · rw [if_pos c4] at H
          have c4b0 : decide (0 ≤ ad) = true := decide_eq_true c4
          clear c4
          replace H := Option.bind_eq_some_iff.mp H
          obtain ⟨av, A50, H⟩ := H
          have A5 := am_ A50
          clear A50
          replace H := Option.bind_eq_some_iff.mp H
          obtain ⟨aw, A60, H⟩ := H
          replace H : (spec_l3Depth.l0 k1 aw (wrap64 (ad + 1)) a0_0 a0_1 l0_2) = some r := H
          have A6 := am_ A60
          clear A60
          have H' := am_ H
          clear H
          have bb := ck_ (v := (.int .i64 a0_0)) ae 0 rfl
          have bc := ck_ (v := (.string a0_1)) ae 1 rfl
          have bd := ck_ (v := (.slice A0_2 l0_2.length c0_2)) ae 2 rfl
          have be := blk_frozen ae.out 0
          have bf := blk_frozen ae.out 1
          have bg := blk_frozen ae.out 2
          have p202 : 0 ≤ (ad : Int) := of_decide_eq_true ah_
          have q202 : ad < (l0_2.length : Int) := of_decide_eq_true ah_
          obtain ⟨bq, A202_2, c202_2, e202, ao, ap, aq, hl202_2, hi202_2⟩ := at_T29 ax.out ad p202 q202
          cases e202
          replace ao := (HB.out.cell (World.block_lt_of_cell? w _ ao)).trans ao
          replace ap := (HB.out.cell (World.block_lt_of_cell? w _ ap)).trans ap
          replace aq := (HB.out.cell (World.block_lt_of_cell? w _ aq)).trans aq
          have aG := am_ hi202_2
          have aH := am_ hl202_2
          clear hi202_2 hl202_2
          replace p202 := eq_true p202
          replace q202 := eq_true q202
          go_wp2_with (first | ((with_reducible refine gate_callee (f := 42) rfl ?_); refine gL_ (some 18) Try.func42 #[.agg #[.int .i64 ((rd_T29 l0_2 ad).f0), .string ((rd_T29 l0_2 ad).f1), .slice A202_2 ((rd_T29 l0_2 ad).f2).length c202_2]] ?_; (with_reducible refine (ih k1 (by have := HK1.out; omega) ((rd_T29 l0_2 ad).f0) ((rd_T29 l0_2 ad).f1) _ _ ((rd_T29 l0_2 ad).f2) av _ ?side1 ?side2 A5.out).mono ?_); (case side1 => exact rc_ (Kd.C_below aG.out HB.out)); (case side2 => exact aH.out); rintro e w8 ⟨rfl, hb⟩; refine ⟨_, rfl, ?_⟩; have n0_ := am_ (blk_below (rb_ ae.out) hb); have n1_ := am_ (below_step (b1_ HB.out ar.out) hb); clear ae; clear HB; have ae := n0_; have HB := n1_; clear n0_ n1_; (try clear hb); (try clear hb2); (try clear hk); (try clear hi)) | ((with_reducible refine gate_callee (f := 67) rfl ?_); refine gL_ (some 19) Try.func67 #[.int .i64 aa, .int .i64 av] ?_; (with_reducible refine (spec_l1Max.calls aa av aw _ A6.out).mono ?_); rintro e w' ⟨rfl, ⟨nd, rfl⟩⟩; refine ⟨_, rfl, ?_⟩))
          go_roundg k1
          case measure => have := HK1.out; omega
          case rel => exact ⟨(aw), (wrap64 (ad + 1)), (by first | rfl | (simp; done) | (simp [*]; done)), (by first | rfl | (simp; done) | (simp [*]; done)), H', ⟨by have := HK1.out; omega⟩, ⟨by refine rb_ ?_; exact ae.out⟩, ⟨by exact zp10_0_ HB.out ar.out⟩⟩
        · rw [if_neg c4] at H
          exact absurd H (by simp)
      · rw [if_neg c3] at H
        have c3b0 : decide (ad < (l0_2.length : Int)) = false := decide_eq_false c3
        clear c3
        obtain rfl := Option.some.inj H
        simp only [Option.some.injEq, Prod.mk.injEq] at H
        obtain ⟨rfl⟩ := H
        have bh := ck_ (v := (.int .i64 a0_0)) ae 0 rfl
        have bi := ck_ (v := (.string a0_1)) ae 1 rfl
        have bj := ck_ (v := (.slice A0_2 l0_2.length c0_2)) ae 2 rfl
        have bk := blk_frozen ae.out 0
        have bl := blk_frozen ae.out 1
        have bm := blk_frozen ae.out 2
        go_wp2
        go_ret
        exact ⟨by first | rfl | (simp [errW_none, errW_some] <;> rfl) | (simp [*, errW_none, errW_some] <;> rfl), by exact zp10_0_ HB.out ar.out⟩
def spec_LetterIndex.l0 : Nat → Int → Int → Option (Int)
  | 0, _, _ => none
  | k + 1, x0, x3 => if x3 < 3 then (if 0 ≤ x3 then (if (bt (⟨#[97, 98, 99]⟩ : ByteArray) x3) = x0 then (some x3) else (spec_LetterIndex.l0 k x0 (wrap64 (x3 + 1)))) else (none)) else (some (-1))
def spec_LetterIndex.f (k : Nat) (a0 : Int) : Option (Int) := spec_LetterIndex.l0 k a0 0
theorem spec_LetterIndex.mono_l : ∀ k, (∀ y0 y1, LeO (spec_LetterIndex.l0 k y0 y1) (spec_LetterIndex.l0 (k + 1) y0 y1))
  | 0 => fun _ _ r h => by simp [spec_LetterIndex.l0] at h
  | k + 1 => by
    have ih0 := spec_LetterIndex.mono_l k
    · intro y0 y1
      unfold spec_LetterIndex.l0
      repeat' first
      | (with_reducible exact ih0 _ _)
      | (with_reducible exact LeO.refl _)
      | (with_reducible exact LeO.none _)
      | (with_reducible refine LeO.ite ?_ ?_)
      | (with_reducible refine LeO.bind ?_ (fun _ => ?_))
      | exact ih0 _ _
      | exact LeO.none _
      | refine LeO.ite ?_ ?_
      | refine LeO.bind ?_ (fun _ => ?_)
theorem spec_LetterIndex.mono : ∀ a0 k, LeO (spec_LetterIndex.f k a0) (spec_LetterIndex.f (k + 1) a0) := by
  intro a0 k
  have ih0 := spec_LetterIndex.mono_l k
  unfold spec_LetterIndex.f
  repeat' first
      | (with_reducible exact ih0 _ _)
      | (with_reducible exact LeO.refl _)
      | (with_reducible exact LeO.none _)
      | (with_reducible refine LeO.ite ?_ ?_)
      | (with_reducible refine LeO.bind ?_ (fun _ => ?_))
      | exact ih0 _ _
      | exact LeO.none _
      | refine LeO.ite ?_ ?_
      | refine LeO.bind ?_ (fun _ => ?_)
set_option maxHeartbeats 8000000 in
set_option maxRecDepth 100000 in
theorem spec_LetterIndex.calls (k : Nat) (a0 : Int) (r : Int) (w : World) (h : spec_LetterIndex.f k a0 = some r) :
    Calls Try.prog 75 #[.int .u8 a0] w fun e w' => e = .returned (.int .i64 r) ∧ Drawn0 w w' := by
  have H : (spec_LetterIndex.l0 k a0 0) = some r := h
  clear h
  have H' := am_ H
  clear H
  go_enter Try.func75, Try.ntmps75
  go_wp2
  go_loopg [3] k (fun kq v3 w' => ∃ (aa : Int), v3 = .int .i64 aa ∧ Aside0 (spec_LetterIndex.l0 kq a0 aa = some r) ∧ Aside0 (kq ≤ k) ∧ Drawn0 w w')
  case atStart => exact ⟨(0), (by first | rfl | (simp; done) | (simp [*]; done)), H', ⟨Nat.le_refl _⟩, by repeat (first | exact Drawn0.refl _ | apply Drawn0.step)⟩
  case round =>
    clear H'
    obtain ⟨aa, rfl, HA, HK1, ⟨m1, rfl⟩⟩ := hrel
    cases gk with
    | zero => exact absurd HA.out (by simp [spec_LetterIndex.l0])
    | succ k1 =>
      have H := HA.out
      clear HA
      simp only [spec_LetterIndex.l0] at H
      by_cases c2 : aa < 3
      · rw [if_pos c2] at H
        have c2b0 : decide (aa < 3) = true := decide_eq_true c2
        clear c2
        by_cases c3 : 0 ≤ aa
        · rw [if_pos c3] at H
          have c3b0 : decide (0 ≤ aa) = true := decide_eq_true c3
          clear c3
          by_cases c5 : (bt (⟨#[97, 98, 99]⟩ : ByteArray) aa) = a0
          · rw [if_pos c5] at H
            have c5b0 : ((bt (⟨#[97, 98, 99]⟩ : ByteArray) aa) == a0) = true := beq_iff_eq.mpr c5
            have c5b1 : ((bt (⟨#[97, 98, 99]⟩ : ByteArray) aa) != a0) = false := bne_eq_false_iff_eq.mpr c5
            clear c5
            obtain rfl := Option.some.inj H
            simp only [Option.some.injEq, Prod.mk.injEq] at H
            obtain ⟨rfl⟩ := H
            have p4 : 0 ≤ (aa : Int) := of_decide_eq_true ah_
            have q4 : aa < (3 : Int) := of_decide_eq_true ah_
            have hx4 := bt_at (⟨#[97, 98, 99]⟩ : ByteArray) aa
            replace p4 := eq_true p4
            replace q4 := eq_true q4
            go_wp2
            go_ret
            exact ⟨by first | rfl | (simp; done) | (simp [*]; done), by repeat (first | exact Drawn0.refl _ | apply Drawn0.step)⟩
          · rw [if_neg c5] at H
            have c5b0 : ((bt (⟨#[97, 98, 99]⟩ : ByteArray) aa) == a0) = false := beq_eq_false_iff_ne.mpr c5
            have c5b1 : ((bt (⟨#[97, 98, 99]⟩ : ByteArray) aa) != a0) = true := bne_iff_ne.mpr c5
            have H' := am_ H
            clear H
            have p4 : 0 ≤ (aa : Int) := of_decide_eq_true ah_
            have q4 : aa < (3 : Int) := of_decide_eq_true ah_
            have hx4 := bt_at (⟨#[97, 98, 99]⟩ : ByteArray) aa
            replace p4 := eq_true p4
            replace q4 := eq_true q4
            go_wp2
            go_roundg k1
            case measure => have := HK1.out; omega
            case rel => exact ⟨(wrap64 (aa + 1)), (by first | rfl | (simp; done) | (simp [*]; done)), H', ⟨by have := HK1.out; omega⟩, by repeat (first | exact Drawn0.refl _ | apply Drawn0.step)⟩
        · rw [if_neg c3] at H
          exact absurd H (by simp)
      · rw [if_neg c2] at H
        have c2b0 : decide (aa < 3) = false := decide_eq_false c2
        clear c2
        obtain rfl := Option.some.inj H
        simp only [Option.some.injEq, Prod.mk.injEq] at H
        obtain ⟨rfl⟩ := H
        go_wp2
        go_ret
        exact ⟨by first | rfl | (simp; done) | (simp [*]; done), by repeat (first | exact Drawn0.refl _ | apply Drawn0.step)⟩
def spec_IsWord.l0 : Nat → ByteArray → Int → Option (Bool)
  | 0, _, _ => none
  | k + 1, x0, x3 => if x3 < (x0.size : Int) then (if 0 ≤ x3 then ((spec_LetterIndex.f k (bt x0 x3)).bind fun aj => (if aj < 0 then (some false) else (spec_IsWord.l0 k x0 (wrap64 (x3 + 1))))) else (none)) else (some (decide ((x0.size : Int) ≤ 30)))
def spec_IsWord.f (k : Nat) (a0 : ByteArray) : Option (Bool) := spec_IsWord.l0 k a0 0
theorem spec_IsWord.mono_l : ∀ k, (∀ y0 y1, LeO (spec_IsWord.l0 k y0 y1) (spec_IsWord.l0 (k + 1) y0 y1))
  | 0 => fun _ _ r h => by simp [spec_IsWord.l0] at h
  | k + 1 => by
    have ih0 := spec_IsWord.mono_l k
    · intro y0 y1
      unfold spec_IsWord.l0
      repeat' first
      | (with_reducible exact ih0 _ _)
      | (with_reducible exact spec_LetterIndex.mono _ _)
      | (with_reducible exact LeO.refl _)
      | (with_reducible exact LeO.none _)
      | (with_reducible refine LeO.ite ?_ ?_)
      | (with_reducible refine LeO.bind ?_ (fun _ => ?_))
      | exact ih0 _ _
      | exact spec_LetterIndex.mono _ _
      | exact LeO.none _
      | refine LeO.ite ?_ ?_
      | refine LeO.bind ?_ (fun _ => ?_)
theorem spec_IsWord.mono : ∀ a0 k, LeO (spec_IsWord.f k a0) (spec_IsWord.f (k + 1) a0) := by
  intro a0 k
  have ih0 := spec_IsWord.mono_l k
  unfold spec_IsWord.f
  repeat' first
      | (with_reducible exact ih0 _ _)
      | (with_reducible exact spec_LetterIndex.mono _ _)
      | (with_reducible exact LeO.refl _)
      | (with_reducible exact LeO.none _)
      | (with_reducible refine LeO.ite ?_ ?_)
      | (with_reducible refine LeO.bind ?_ (fun _ => ?_))
      | exact ih0 _ _
      | exact spec_LetterIndex.mono _ _
      | exact LeO.none _
      | refine LeO.ite ?_ ?_
      | refine LeO.bind ?_ (fun _ => ?_)
set_option maxHeartbeats 8000000 in
set_option maxRecDepth 100000 in
theorem spec_IsWord.calls (k : Nat) (a0 : ByteArray) (r : Bool) (w : World) (h : spec_IsWord.f k a0 = some r) :
    Calls Try.prog 51 #[.string a0] w fun e w' => e = .returned (.bool r) ∧ Drawn0 w w' := by
  have H : (spec_IsWord.l0 k a0 0) = some r := h
  clear h
  have H' := am_ H
  clear H
  go_enter Try.func51, Try.ntmps51
  go_wp2
  go_loopg [3] k (fun kq v3 w' => ∃ (aa : Int), v3 = .int .i64 aa ∧ Aside0 (spec_IsWord.l0 kq a0 aa = some r) ∧ Aside0 (kq ≤ k) ∧ Drawn0 w w')
  case atStart => exact ⟨(0), (by first | rfl | (simp; done) | (simp [*]; done)), H', ⟨Nat.le_refl _⟩, by repeat (first | exact Drawn0.refl _ | apply Drawn0.step)⟩
  case round =>
    clear H'
    obtain ⟨aa, rfl, HA, HK1, ⟨m1, rfl⟩⟩ := hrel
    cases gk with
    | zero => exact absurd HA.out (by simp [spec_IsWord.l0])
    | succ k1 =>
      have H := HA.out
      clear HA
      simp only [spec_IsWord.l0] at H
      by_cases c2 : aa < (a0.size : Int)
      · rw [if_pos c2] at H
        have c2b0 : decide (aa < (a0.size : Int)) = true := decide_eq_true c2
        clear c2
        by_cases c3 : 0 ≤ aa
        · rw [if_pos c3] at H
          have c3b0 : decide (0 ≤ aa) = true := decide_eq_true c3
          clear c3
          replace H := Option.bind_eq_some_iff.mp H
          obtain ⟨aj, A50, H⟩ := H
          have A5 := am_ A50
          clear A50
          by_cases c6 : aj < 0
          · rw [if_pos c6] at H
            have c6b0 : decide (aj < 0) = true := decide_eq_true c6
            clear c6
            obtain rfl := Option.some.inj H
            simp only [Option.some.injEq, Prod.mk.injEq] at H
            obtain ⟨rfl⟩ := H
            have p4 : 0 ≤ (aa : Int) := of_decide_eq_true ah_
            have q4 : aa < (a0.size : Int) := of_decide_eq_true ah_
            have hx4 := bt_at a0 aa
            replace p4 := eq_true p4
            replace q4 := eq_true q4
            go_wp2_with (first | ((with_reducible refine gate_callee (f := 75) rfl ?_); refine gL_ (some 13) Try.func75 #[.int .u8 (bt a0 aa)] ?_; (with_reducible refine (spec_LetterIndex.calls k1 (bt a0 aa) aj _ A5.out).mono ?_); rintro e w' ⟨rfl, ⟨nd, rfl⟩⟩; refine ⟨_, rfl, ?_⟩))
            go_ret
            exact ⟨by first | rfl | (simp; done) | (simp [*]; done), by repeat (first | exact Drawn0.refl _ | apply Drawn0.step)⟩
          · rw [if_neg c6] at H
            have c6b0 : decide (aj < 0) = false := decide_eq_false c6
            clear c6
            have H' := am_ H
            clear H
            have p4 : 0 ≤ (aa : Int) := of_decide_eq_true ah_
            have q4 : aa < (a0.size : Int) := of_decide_eq_true ah_
            have hx4 := bt_at a0 aa
            replace p4 := eq_true p4
            replace q4 := eq_true q4
            go_wp2_with (first | ((with_reducible refine gate_callee (f := 75) rfl ?_); refine gL_ (some 13) Try.func75 #[.int .u8 (bt a0 aa)] ?_; (with_reducible refine (spec_LetterIndex.calls k1 (bt a0 aa) aj _ A5.out).mono ?_); rintro e w' ⟨rfl, ⟨nd, rfl⟩⟩; refine ⟨_, rfl, ?_⟩))
            go_roundg k1
            case measure => have := HK1.out; omega
            case rel => exact ⟨(wrap64 (aa + 1)), (by first | rfl | (simp; done) | (simp [*]; done)), H', ⟨by have := HK1.out; omega⟩, by repeat (first | exact Drawn0.refl _ | apply Drawn0.step)⟩
        · rw [if_neg c3] at H
          exact absurd H (by simp)
      · rw [if_neg c2] at H
        have c2b0 : decide (aa < (a0.size : Int)) = false := decide_eq_false c2
        clear c2
        obtain rfl := Option.some.inj H
        simp only [Option.some.injEq, Prod.mk.injEq] at H
        obtain ⟨rfl⟩ := H
        go_wp2
        go_ret
        exact ⟨by first | rfl | (simp; done) | (simp [*]; done), by repeat (first | exact Drawn0.refl _ | apply Drawn0.step)⟩
def spec_l1In.f (a0 : Int) (a1 : Int) (a2 : Int) : Option (Bool) := if a0 ≥ a1 then (some (decide (a0 ≤ a2))) else (some false)
set_option maxHeartbeats 8000000 in
set_option maxRecDepth 100000 in
theorem spec_l1In.calls (a0 : Int) (a1 : Int) (a2 : Int) (r : Bool) (w : World) (h : spec_l1In.f a0 a1 a2 = some r) :
    Calls Try.prog 68 #[.int .i64 a0, .int .i64 a1, .int .i64 a2] w fun e w' => e = .returned (.bool r) ∧ Drawn0 w w' := by
  have H : (if a0 ≥ a1 then (some (decide (a0 ≤ a2))) else (some false)) = some r := h
  clear h
  by_cases c4 : a0 ≥ a1
  · rw [if_pos c4] at H
    have c4b0 : decide (a1 ≤ a0) = true := decide_eq_true c4
    clear c4
    obtain rfl := Option.some.inj H
    simp only [Option.some.injEq, Prod.mk.injEq] at H
    obtain ⟨rfl⟩ := H
    go_enter Try.func68, Try.ntmps68
    go_wp2
    go_ret
    exact ⟨by first | rfl | (simp; done) | (simp [*]; done), by repeat (first | exact Drawn0.refl _ | apply Drawn0.step)⟩
  · rw [if_neg c4] at H
    have c4b0 : decide (a1 ≤ a0) = false := decide_eq_false c4
    clear c4
    obtain rfl := Option.some.inj H
    simp only [Option.some.injEq, Prod.mk.injEq] at H
    obtain ⟨rfl⟩ := H
    go_enter Try.func68, Try.ntmps68
    go_wp2
    go_ret
    exact ⟨by first | rfl | (simp; done) | (simp [*]; done), by repeat (first | exact Drawn0.refl _ | apply Drawn0.step)⟩
def spec_l3Args.j0 : Nat → Int → Bool → Option (Int)
  | 0, _, _ => none
  | k + 1, x3, x4 => if x4 = true then (some 2) else (if x3 = 8 then (some 1) else (if x3 = 9 then (some 1) else (some 0)))
def spec_l3Args.f (k : Nat) (a0 : Int) : Option (Int) := if a0 = 5 then (spec_l3Args.j0 k a0 (a0 == 5)) else (if a0 = 6 then (spec_l3Args.j0 k a0 (a0 == 6)) else (spec_l3Args.j0 k a0 (a0 == 7)))
theorem spec_l3Args.mono_l : ∀ k, (∀ y0 y1, LeO (spec_l3Args.j0 k y0 y1) (spec_l3Args.j0 (k + 1) y0 y1))
  | 0 => fun _ _ r h => by simp [spec_l3Args.j0] at h
  | k + 1 => by
    have ih0 := spec_l3Args.mono_l k
    · intro y0 y1
      unfold spec_l3Args.j0
      repeat' first
      | (with_reducible exact ih0 _ _)
      | (with_reducible exact LeO.refl _)
      | (with_reducible exact LeO.none _)
      | (with_reducible refine LeO.ite ?_ ?_)
      | (with_reducible refine LeO.bind ?_ (fun _ => ?_))
      | exact ih0 _ _
      | exact LeO.none _
      | refine LeO.ite ?_ ?_
      | refine LeO.bind ?_ (fun _ => ?_)
theorem spec_l3Args.mono : ∀ a0 k, LeO (spec_l3Args.f k a0) (spec_l3Args.f (k + 1) a0) := by
  intro a0 k
  have ih0 := spec_l3Args.mono_l k
  unfold spec_l3Args.f
  repeat' first
      | (with_reducible exact ih0 _ _)
      | (with_reducible exact LeO.refl _)
      | (with_reducible exact LeO.none _)
      | (with_reducible refine LeO.ite ?_ ?_)
      | (with_reducible refine LeO.bind ?_ (fun _ => ?_))
      | exact ih0 _ _
      | exact LeO.none _
      | refine LeO.ite ?_ ?_
      | refine LeO.bind ?_ (fun _ => ?_)
set_option maxHeartbeats 8000000 in
set_option maxRecDepth 100000 in
theorem spec_l3Args.calls (k : Nat) (a0 : Int) (r : Int) (w : World) (h : spec_l3Args.f k a0 = some r) :
    Calls Try.prog 69 #[.int .i64 a0] w fun e w' => e = .returned (.int .i64 r) ∧ Drawn0 w w' := by
  have H : (if a0 = 5 then (spec_l3Args.j0 k a0 (a0 == 5)) else (if a0 = 6 then (spec_l3Args.j0 k a0 (a0 == 6)) else (spec_l3Args.j0 k a0 (a0 == 7)))) = some r := h
  clear h
  have HC2 := am_ H
  clear H
  go_enter Try.func69, Try.ntmps69
  go_upto_if 4 with (fail)
  go_cut [4] (fun v4 wc => ∃ (kq : Nat) (ad : Bool), v4 = .bool ad ∧ Aside0 (spec_l3Args.j0 kq a0 ad = some r) ∧ Aside0 (kq ≤ k) ∧ Drawn0 w wc)
  case first =>
    have H := HC2.out
    clear HC2
    by_cases c3 : a0 = 5
    · rw [if_pos c3] at H
      have c3b0 : (a0 == 5) = true := beq_iff_eq.mpr c3
      have c3b1 : (a0 != 5) = false := bne_eq_false_iff_eq.mpr c3
      clear c3
      (first | rw [c3b0] | (simp only [i64_w, i32_w]; rw [c3b0]) | skip)
      have H' := am_ H
      clear H
      go_wp2
      go_meet
      case rel => exact ⟨_, ((a0 == 5)), (by first | rfl | (simp; done) | (simp [*]; done)), H', ⟨by first | omega | exact Nat.le_refl _⟩, by repeat (first | exact Drawn0.refl _ | apply Drawn0.step)⟩
    · rw [if_neg c3] at H
      have c3b0 : (a0 == 5) = false := beq_eq_false_iff_ne.mpr c3
      have c3b1 : (a0 != 5) = true := bne_iff_ne.mpr c3
      (first | rw [c3b0] | (simp only [i64_w, i32_w]; rw [c3b0]) | skip)
      by_cases c4 : a0 = 6
      · rw [if_pos c4] at H
        have c4b0 : (a0 == 6) = true := beq_iff_eq.mpr c4
        have c4b1 : (a0 != 6) = false := bne_eq_false_iff_eq.mpr c4
        clear c4
        have H' := am_ H
        clear H
        go_wp2
        go_meet
        case rel => exact ⟨_, ((a0 == 6)), (by first | rfl | (simp; done) | (simp [*]; done)), H', ⟨by first | omega | exact Nat.le_refl _⟩, by repeat (first | exact Drawn0.refl _ | apply Drawn0.step)⟩
      · rw [if_neg c4] at H
        have c4b0 : (a0 == 6) = false := beq_eq_false_iff_ne.mpr c4
        have c4b1 : (a0 != 6) = true := bne_iff_ne.mpr c4
        have H' := am_ H
        clear H
        go_wp2
        go_meet
        case rel => exact ⟨_, ((a0 == 7)), (by first | rfl | (simp; done) | (simp [*]; done)), H', ⟨by first | omega | exact Nat.le_refl _⟩, by repeat (first | exact Drawn0.refl _ | apply Drawn0.step)⟩
  case rest =>
    clear HC2
    try clear p2
    try clear c3
    try clear c3b0
    try clear c3b1
    try clear c4
    try clear c4b0
    try clear c4b1
    obtain ⟨kq, ad, rfl, HA, HJ1, ⟨mc1, rfl⟩⟩ := hcut
    cases kq with
    | zero => exact absurd HA.out (by simp [spec_l3Args.j0])
    | succ kj1 =>
      have H := HA.out
      clear HA
      simp only [spec_l3Args.j0] at H
      by_cases c5 : ad = true
      · subst c5
        have H1 : (some 2) = some r := by rw [if_pos rfl] at H; exact H
        clear H
        have H := H1
        clear H1
        obtain rfl := Option.some.inj H
        simp only [Option.some.injEq, Prod.mk.injEq] at H
        obtain ⟨rfl⟩ := H
        go_wp2
        go_ret
        exact ⟨by first | rfl | (simp; done) | (simp [*]; done), by repeat (first | exact Drawn0.refl _ | apply Drawn0.step)⟩
      · replace c5 := Bool.eq_false_iff.mpr c5
        subst c5
        have H1 : (if a0 = 8 then (some 1) else (if a0 = 9 then (some 1) else (some 0))) = some r := by rw [if_neg (show ¬ (false = true) by decide)] at H; exact H
        clear H
        have H := H1
        clear H1
        by_cases c6 : a0 = 8
        · rw [if_pos c6] at H
          have c6b0 : (a0 == 8) = true := beq_iff_eq.mpr c6
          have c6b1 : (a0 != 8) = false := bne_eq_false_iff_eq.mpr c6
          clear c6
          obtain rfl := Option.some.inj H
          simp only [Option.some.injEq, Prod.mk.injEq] at H
          obtain ⟨rfl⟩ := H
          go_wp2
          go_ret
          exact ⟨by first | rfl | (simp; done) | (simp [*]; done), by repeat (first | exact Drawn0.refl _ | apply Drawn0.step)⟩
        · rw [if_neg c6] at H
          have c6b0 : (a0 == 8) = false := beq_eq_false_iff_ne.mpr c6
          have c6b1 : (a0 != 8) = true := bne_iff_ne.mpr c6
          by_cases c7 : a0 = 9
          · rw [if_pos c7] at H
            have c7b0 : (a0 == 9) = true := beq_iff_eq.mpr c7
            have c7b1 : (a0 != 9) = false := bne_eq_false_iff_eq.mpr c7
            clear c7
            obtain rfl := Option.some.inj H
            simp only [Option.some.injEq, Prod.mk.injEq] at H
            obtain ⟨rfl⟩ := H
            go_wp2
            go_ret
            exact ⟨by first | rfl | (simp; done) | (simp [*]; done), by repeat (first | exact Drawn0.refl _ | apply Drawn0.step)⟩
          · rw [if_neg c7] at H
            have c7b0 : (a0 == 9) = false := beq_eq_false_iff_ne.mpr c7
            have c7b1 : (a0 != 9) = true := bne_iff_ne.mpr c7
            obtain rfl := Option.some.inj H
            simp only [Option.some.injEq, Prod.mk.injEq] at H
            obtain ⟨rfl⟩ := H
            go_wp2
            go_ret
            exact ⟨by first | rfl | (simp; done) | (simp [*]; done), by repeat (first | exact Drawn0.refl _ | apply Drawn0.step)⟩
end Go.Proofs.Ytldgkgdgcfllmaa.P
end
section
namespace Go.Proofs.Ytldgkgdgcfllmaa.P
open Go.RowKit Go.Proofs.YtldgkgdgcfllmaaW.PrintWords Go.Proofs.YtldgkgdgcfllmaaW.PrintLast Go.Proofs.YtldgkgdgcfllmaaW.PrintMore
attribute [local go_sem] max2_int min2_int max_two min_two max_three min_three max_four min_four
set_option linter.unusedVariables false
set_option linter.unusedSimpArgs false
mutual
def spec_l3All.l0 : Nat → Int → Int → ByteArray → List (S29) → Option (Bool)
  | 0, _, _, _, _ => none
  | k + 1, x3, am, an, ae => if x3 < (ae.length : Int) then (if 0 ≤ x3 then ((spec_l3All.f k ((rd_T29 ae x3).f0) ((rd_T29 ae x3).f1) ((rd_T29 ae x3).f2)).bind fun ao => (if ao = true then (spec_l3All.l0 k (wrap64 (x3 + 1)) am an ae) else (some false))) else (none)) else (if am = 3 then (if (an.size : Int) = 1 then ((spec_IsWord.f k an).bind fun ap => (if ap = true then (some ((ae.length : Int) == 0)) else (some false))) else (some false)) else ((spec_l1In.f am 1 9).bind fun aq => (if aq = true then (if an.toList = ([] : List UInt8) then ((spec_l3Args.f k am).bind fun al => (some ((ae.length : Int) == al))) else (some false)) else (some false))))
def spec_l3All.f : Nat → Int → ByteArray → List (S29) → Option (Bool)
  | 0, _, _, _ => none
  | k + 1, a0_0, a0_1, l0_2 => spec_l3All.l0 k 0 a0_0 a0_1 l0_2
end
theorem spec_l3All.mono_l : ∀ k, (∀ y0 y1 y2, LeO (spec_l3All.f k y0 y1 y2) (spec_l3All.f (k + 1) y0 y1 y2)) ∧ (∀ y0 y1 y2 y3, LeO (spec_l3All.l0 k y0 y1 y2 y3) (spec_l3All.l0 (k + 1) y0 y1 y2 y3))
 | 0 => ⟨fun _ _ _ r h => by simp [spec_l3All.f] at h, fun _ _ _ _ r h => by simp [spec_l3All.l0] at h⟩
 | k + 1 => by
  obtain ⟨ih0, ih1⟩ := spec_l3All.mono_l k
  refine ⟨?_, ?_⟩
  ·intro y0 y1 y2
   unfold spec_l3All.f
   repeat' first
   | (with_reducible exact ih0 _ _ _)
   | (with_reducible exact ih1 _ _ _ _)
   | (with_reducible exact spec_IsWord.mono _ _)
   | (with_reducible exact spec_l3Args.mono _ _)
   | (with_reducible exact LeO.refl _)
   | (with_reducible exact LeO.none _)
   | (with_reducible refine LeO.ite ?_ ?_)
   | (with_reducible refine LeO.bind ?_ (fun _ => ?_))
   | exact ih0 _ _ _
   | exact ih1 _ _ _ _
   | exact spec_IsWord.mono _ _
   | exact spec_l3Args.mono _ _
   | exact LeO.none _
   | refine LeO.ite ?_ ?_
   | refine LeO.bind ?_ (fun _ => ?_)
  ·intro y0 y1 y2 y3
   unfold spec_l3All.l0
   repeat' first
   | (with_reducible exact ih0 _ _ _)
   | (with_reducible exact ih1 _ _ _ _)
   | (with_reducible exact spec_IsWord.mono _ _)
   | (with_reducible exact spec_l3Args.mono _ _)
   | (with_reducible exact LeO.refl _)
   | (with_reducible exact LeO.none _)
   | (with_reducible refine LeO.ite ?_ ?_)
   | (with_reducible refine LeO.bind ?_ (fun _ => ?_))
   | exact ih0 _ _ _
   | exact ih1 _ _ _ _
   | exact spec_IsWord.mono _ _
   | exact spec_l3Args.mono _ _
   | exact LeO.none _
   | refine LeO.ite ?_ ?_
   | refine LeO.bind ?_ (fun _ => ?_)
theorem spec_l3All.mono : ∀ a0 a1 a2 k, LeO (spec_l3All.f k a0 a1 a2) (spec_l3All.f (k + 1) a0 a1 a2) := by
 intro a0 a1 a2 k
 obtain ⟨ih0, ih1⟩ := spec_l3All.mono_l k
 exact ih0 a0 a1 a2
theorem zp11_0_ {p q g1 : Prop} (h : p) (h1 : g1) (c : p → g1 → q := by intro h_ h1_; repeat (first | (with_reducible first | exact h_ | apply below_alloc | apply pw_below_drewN | apply below_drew1 | refine below_set ?_ h1_) | exact h_)) : q := c h h1
set_option maxHeartbeats 8000000 in
set_option maxRecDepth 100000 in
theorem spec_l3All.calls (k : Nat) : ∀ (a0_0 : Int) (a0_1 : ByteArray) (A0_2 : Option Addr) (c0_2 : Nat) (l0_2 : List (S29)) (r : Bool) (w : World) (hr0_2 : Kd.C k29 w A0_2 l0_2.length l0_2) (hc0_2 : l0_2.length ≤ c0_2) (h : spec_l3All.f k a0_0 a0_1 l0_2 = some r),
  Calls Try.prog 43 #[.agg #[.int .i64 a0_0, .string a0_1, .slice A0_2 l0_2.length c0_2]] w fun e w' => e = .returned (.bool r) ∧ Below w.heap.size w w' := by
 induction k using Nat.strongRecOn with
 | _ k ih =>
 intro a0_0 a0_1 A0_2 c0_2 l0_2 r w hr0_2 hc0_2 h
 cases k with
 | zero => exact absurd h (by simp [spec_l3All.f])
 | succ k =>
 simp only [spec_l3All.f] at h
 have hu29 := Try.underlying29
 have ar := am_ hr0_2
 have bv := am_ hc0_2
 clear hr0_2 hc0_2
 have HB := am_ (Below.refl w.heap.size w)
 have H : (spec_l3All.l0 k 0 a0_0 a0_1 l0_2) = some r := h
 clear h
 have H' := am_ H
 clear H
 go_enter Try.func43, Try.ntmps43
 go_wp2_with (first | ((with_reducible refine gate_dst (N := 1) rfl ?_); (try (refine gate_guard (by rfl) ?_; dsimp only)); refine box_event ?hg (N := 1) ?hd (cs := #[.int .i64 a0_0, .string a0_1, .slice A0_2 l0_2.length c0_2]) (t := 29) ?hr ?_; (case hd => rfl); (case hg => rfl); (case hr => first | (go_simp; done) | (go_simp; rfl)); intro ak hg w2 hbox hb; replace aa := am_ (hbox); replace au := am_ ((by rw [hg]; exact (below_size (b0_ HB.out)) : w.heap.size ≤ ak)); replace ad := am_ ((by rw [hg]; exact (below_size (b0_ HB.out)) : w.heap.size ≤ ak)); replace HB := am_ (below_step (b0_ HB.out) hb); clear hb hbox hg))
 repeat (go_quiet (first | ((with_reducible refine gate_dst (N := 1) rfl ?_); (try (refine gate_guard (by rfl) ?_; dsimp only)); refine box_event ?hg (N := 1) ?hd (cs := #[.int .i64 a0_0, .string a0_1, .slice A0_2 l0_2.length c0_2]) (t := 29) ?hr ?_; (case hd => rfl); (case hg => rfl); (case hr => first | (go_simp; done) | (go_simp; rfl)); intro ak hg w2 hbox hb; replace aa := am_ (hbox); replace au := am_ ((by rw [hg]; exact (below_size (b0_ HB.out)) : w.heap.size ≤ ak)); replace ad := am_ ((by rw [hg]; exact (below_size (b0_ HB.out)) : w.heap.size ≤ ak)); replace HB := am_ (below_step (b0_ HB.out) hb); clear hb hbox hg)); try go_wp2_with (first | ((with_reducible refine gate_dst (N := 1) rfl ?_); (try (refine gate_guard (by rfl) ?_; dsimp only)); refine box_event ?hg (N := 1) ?hd (cs := #[.int .i64 a0_0, .string a0_1, .slice A0_2 l0_2.length c0_2]) (t := 29) ?hr ?_; (case hd => rfl); (case hg => rfl); (case hr => first | (go_simp; done) | (go_simp; rfl)); intro ak hg w2 hbox hb; replace aa := am_ (hbox); replace au := am_ ((by rw [hg]; exact (below_size (b0_ HB.out)) : w.heap.size ≤ ak)); replace ad := am_ ((by rw [hg]; exact (below_size (b0_ HB.out)) : w.heap.size ≤ ak)); replace HB := am_ (below_step (b0_ HB.out) hb); clear hb hbox hg)))
 go_loopg [3] k (fun kq v3 w' => ∃ (ab : Int), v3 = .int .i64 ab ∧ Aside0 (spec_l3All.l0 kq ab a0_0 a0_1 l0_2 = some r) ∧ Aside0 (kq ≤ k) ∧ Aside0 (w'.heap[ak]? = some (.cells #[.int .i64 a0_0, .string a0_1, (.slice A0_2 l0_2.length c0_2)] 29 (0, 0))) ∧ Aside0 (Below w.heap.size w w'))
 case atStart => exact ⟨(0), (by first | rfl | (simp; done) | (simp [*]; done)), H', ⟨Nat.le_refl _⟩, ⟨by refine rb_ ?_; exact aa.out⟩, ⟨by exact zp11_0_ HB.out ad.out⟩⟩
 case round =>
  clear H'
  try clear p2
  obtain ⟨ab, rfl, HA, HK1, aa, HB⟩ := hrel
  cases gk with
  | zero => exact absurd HA.out (by simp [spec_l3All.l0])
  | succ k1 =>
   have H := HA.out
   clear HA
   simp only [spec_l3All.l0] at H
   by_cases c3 : ab < (l0_2.length : Int)
   ·rw [if_pos c3] at H
    have c3b0 : decide (ab < (l0_2.length : Int)) = true := decide_eq_true c3
    clear c3
    by_cases c4 : 0 ≤ ab
    ·rw [if_pos c4] at H
     have c4b0 : decide (0 ≤ ab) = true := decide_eq_true c4
     clear c4
     replace H := Option.bind_eq_some_iff.mp H
     obtain ⟨ao, A50, H⟩ := H
     have A5 := am_ A50
     clear A50
     by_cases c6 : ao = true
     ·subst c6
      have H1 : (spec_l3All.l0 k1 (wrap64 (ab + 1)) a0_0 a0_1 l0_2) = some r := by rw [if_pos rfl] at H; exact H
      clear H
      have H := H1
      clear H1
      have H' := am_ H
      clear H
      have bj := ck_ (v := (.int .i64 a0_0)) aa 0 rfl
      have bk := ck_ (v := (.string a0_1)) aa 1 rfl
      have bl := ck_ (v := (.slice A0_2 l0_2.length c0_2)) aa 2 rfl
      have bm := blk_frozen aa.out 0
      have bn := blk_frozen aa.out 1
      have bo := blk_frozen aa.out 2
      have p207 : 0 ≤ (ab : Int) := of_decide_eq_true ah_
      have q207 : ab < (l0_2.length : Int) := of_decide_eq_true ah_
      obtain ⟨ay, A207_2, c207_2, e207, af, ag, ah, hl207_2, hi207_2⟩ := at_T29 ar.out ab p207 q207
      cases e207
      replace af := (HB.out.cell (World.block_lt_of_cell? w _ af)).trans af
      replace ag := (HB.out.cell (World.block_lt_of_cell? w _ ag)).trans ag
      replace ah := (HB.out.cell (World.block_lt_of_cell? w _ ah)).trans ah
      have ai := am_ hi207_2
      have aj := am_ hl207_2
      clear hi207_2 hl207_2
      replace p207 := eq_true p207
      replace q207 := eq_true q207
      go_wp2_with (first | (go_at_call 43; (with_reducible refine (ih k1 (by have := HK1.out; omega) ((rd_T29 l0_2 ab).f0) ((rd_T29 l0_2 ab).f1) _ _ ((rd_T29 l0_2 ab).f2) true _ ?side1 ?side2 A5.out).mono ?_); (case side1 => exact rc_ (Kd.C_below ai.out HB.out)); (case side2 => exact aj.out); rintro e w8 ⟨rfl, hb⟩; have n0_ := am_ (blk_below (rb_ aa.out) hb); have n1_ := am_ (below_step (b1_ HB.out ad.out) hb); clear aa; clear HB; have aa := n0_; have HB := n1_; clear n0_ n1_; (try clear hb); (try clear hb2); (try clear hk); (try clear hi)))
      repeat (go_quiet (first | (go_at_call 43; (with_reducible refine (ih k1 (by have := HK1.out; omega) ((rd_T29 l0_2 ab).f0) ((rd_T29 l0_2 ab).f1) _ _ ((rd_T29 l0_2 ab).f2) true _ ?side1 ?side2 A5.out).mono ?_); (case side1 => exact rc_ (Kd.C_below ai.out HB.out)); (case side2 => exact aj.out); rintro e w8 ⟨rfl, hb⟩; have n0_ := am_ (blk_below (rb_ aa.out) hb); have n1_ := am_ (below_step (b1_ HB.out ad.out) hb); clear aa; clear HB; have aa := n0_; have HB := n1_; clear n0_ n1_; (try clear hb); (try clear hb2); (try clear hk); (try clear hi))); try go_wp2_with (first | (go_at_call 43; (with_reducible refine (ih k1 (by have := HK1.out; omega) ((rd_T29 l0_2 ab).f0) ((rd_T29 l0_2 ab).f1) _ _ ((rd_T29 l0_2 ab).f2) true _ ?side1 ?side2 A5.out).mono ?_); (case side1 => exact rc_ (Kd.C_below ai.out HB.out)); (case side2 => exact aj.out); rintro e w8 ⟨rfl, hb⟩; have n0_ := am_ (blk_below (rb_ aa.out) hb); have n1_ := am_ (below_step (b1_ HB.out ad.out) hb); clear aa; clear HB; have aa := n0_; have HB := n1_; clear n0_ n1_; (try clear hb); (try clear hb2); (try clear hk); (try clear hi))))
      go_roundg k1
      case measure => have := HK1.out; omega
      case rel => exact ⟨(wrap64 (ab + 1)), (by first | rfl | (simp; done) | (simp [*]; done)), H', ⟨by have := HK1.out; omega⟩, ⟨by refine rb_ ?_; exact aa.out⟩, ⟨by exact zp11_0_ HB.out ad.out⟩⟩
     ·replace c6 := Bool.eq_false_iff.mpr c6
      subst c6
      have H1 : (some false) = some r := by rw [if_neg (show ¬ (false = true) by decide)] at H; exact H
      clear H
      have H := H1
      clear H1
      obtain rfl := Option.some.inj H
      simp only [Option.some.injEq, Prod.mk.injEq] at H
      obtain ⟨rfl⟩ := H
      have bp := ck_ (v := (.int .i64 a0_0)) aa 0 rfl
      have bq := ck_ (v := (.string a0_1)) aa 1 rfl
      have br := ck_ (v := (.slice A0_2 l0_2.length c0_2)) aa 2 rfl
      have bs := blk_frozen aa.out 0
      have bt := blk_frozen aa.out 1
      have bu := blk_frozen aa.out 2
      have p207 : 0 ≤ (ab : Int) := of_decide_eq_true ah_
      have q207 : ab < (l0_2.length : Int) := of_decide_eq_true ah_
      obtain ⟨ay, A207_2, c207_2, e207, af, ag, ah, hl207_2, hi207_2⟩ := at_T29 ar.out ab p207 q207
      cases e207
      replace af := (HB.out.cell (World.block_lt_of_cell? w _ af)).trans af
      replace ag := (HB.out.cell (World.block_lt_of_cell? w _ ag)).trans ag
      replace ah := (HB.out.cell (World.block_lt_of_cell? w _ ah)).trans ah
      have ai := am_ hi207_2
      have aj := am_ hl207_2
      clear hi207_2 hl207_2
      replace p207 := eq_true p207
      replace q207 := eq_true q207
      go_wp2_with (first | (go_at_call 43; (with_reducible refine (ih k1 (by have := HK1.out; omega) ((rd_T29 l0_2 ab).f0) ((rd_T29 l0_2 ab).f1) _ _ ((rd_T29 l0_2 ab).f2) false _ ?side1 ?side2 A5.out).mono ?_); (case side1 => exact rc_ (Kd.C_below ai.out HB.out)); (case side2 => exact aj.out); rintro e w10 ⟨rfl, hb⟩; have n0_ := am_ (blk_below (rb_ aa.out) hb); have n1_ := am_ (below_step (b1_ HB.out ad.out) hb); clear aa; clear HB; have aa := n0_; have HB := n1_; clear n0_ n1_; (try clear hb); (try clear hb2); (try clear hk); (try clear hi)))
      repeat (go_quiet (first | (go_at_call 43; (with_reducible refine (ih k1 (by have := HK1.out; omega) ((rd_T29 l0_2 ab).f0) ((rd_T29 l0_2 ab).f1) _ _ ((rd_T29 l0_2 ab).f2) false _ ?side1 ?side2 A5.out).mono ?_); (case side1 => exact rc_ (Kd.C_below ai.out HB.out)); (case side2 => exact aj.out); rintro e w10 ⟨rfl, hb⟩; have n0_ := am_ (blk_below (rb_ aa.out) hb); have n1_ := am_ (below_step (b1_ HB.out ad.out) hb); clear aa; clear HB; have aa := n0_; have HB := n1_; clear n0_ n1_; (try clear hb); (try clear hb2); (try clear hk); (try clear hi))); try go_wp2_with (first | (go_at_call 43; (with_reducible refine (ih k1 (by have := HK1.out; omega) ((rd_T29 l0_2 ab).f0) ((rd_T29 l0_2 ab).f1) _ _ ((rd_T29 l0_2 ab).f2) false _ ?side1 ?side2 A5.out).mono ?_); (case side1 => exact rc_ (Kd.C_below ai.out HB.out)); (case side2 => exact aj.out); rintro e w10 ⟨rfl, hb⟩; have n0_ := am_ (blk_below (rb_ aa.out) hb); have n1_ := am_ (below_step (b1_ HB.out ad.out) hb); clear aa; clear HB; have aa := n0_; have HB := n1_; clear n0_ n1_; (try clear hb); (try clear hb2); (try clear hk); (try clear hi))))
      go_ret
      exact ⟨by first | rfl | (simp [errW_none, errW_some] <;> rfl) | (simp [*, errW_none, errW_some] <;> rfl), by exact zp11_0_ HB.out ad.out⟩
    ·rw [if_neg c4] at H
     exact absurd H (by simp)
   ·rw [if_neg c3] at H
    have c3b0 : decide (ab < (l0_2.length : Int)) = false := decide_eq_false c3
    clear c3
    by_cases c11 : a0_0 = 3
    ·rw [if_pos c11] at H
     have c11b0 : (a0_0 == 3) = true := beq_iff_eq.mpr c11
     have c11b1 : (a0_0 != 3) = false := bne_eq_false_iff_eq.mpr c11
     clear c11
     by_cases c12 : (a0_1.size : Int) = 1
     ·rw [if_pos c12] at H
      have c12b0 : ((a0_1.size : Int) == 1) = true := beq_iff_eq.mpr c12
      have c12b1 : ((a0_1.size : Int) != 1) = false := bne_eq_false_iff_eq.mpr c12
      clear c12
      replace H := Option.bind_eq_some_iff.mp H
      obtain ⟨ap, av, H⟩ := H
      have A13 := am_ av
      clear av
      by_cases c14 : ap = true
      ·subst c14
       have H1 : (some ((l0_2.length : Int) == 0)) = some r := by rw [if_pos rfl] at H; exact H
       clear H
       have H := H1
       clear H1
       obtain rfl := Option.some.inj H
       simp only [Option.some.injEq, Prod.mk.injEq] at H
       obtain ⟨rfl⟩ := H
       have az := ck_ (v := (.int .i64 a0_0)) aa 0 rfl
       have aA := ck_ (v := (.string a0_1)) aa 1 rfl
       have aB := ck_ (v := (.slice A0_2 l0_2.length c0_2)) aa 2 rfl
       have aC := blk_frozen aa.out 0
       have aD := blk_frozen aa.out 1
       have aE := blk_frozen aa.out 2
       go_wp2_with (first | (go_at_call 51; (with_reducible refine (spec_IsWord.calls k1 a0_1 true _ A13.out).mono ?_); rintro e w' ⟨rfl, ⟨nd, rfl⟩⟩; (try first | exact ⟨rfl, _, World.drewN_drewN _ _ _⟩ | exact ⟨rfl, _, Eq.trans (World.drewN_drewN _ _ _) (congrArg (World.drewN _) (Nat.add_assoc _ _ _))⟩)))
       repeat (go_quiet (first | (go_at_call 51; (with_reducible refine (spec_IsWord.calls k1 a0_1 true _ A13.out).mono ?_); rintro e w' ⟨rfl, ⟨nd, rfl⟩⟩; (try first | exact ⟨rfl, _, World.drewN_drewN _ _ _⟩ | exact ⟨rfl, _, Eq.trans (World.drewN_drewN _ _ _) (congrArg (World.drewN _) (Nat.add_assoc _ _ _))⟩))); try go_wp2_with (first | (go_at_call 51; (with_reducible refine (spec_IsWord.calls k1 a0_1 true _ A13.out).mono ?_); rintro e w' ⟨rfl, ⟨nd, rfl⟩⟩; (try first | exact ⟨rfl, _, World.drewN_drewN _ _ _⟩ | exact ⟨rfl, _, Eq.trans (World.drewN_drewN _ _ _) (congrArg (World.drewN _) (Nat.add_assoc _ _ _))⟩))))
       go_ret
       exact ⟨by first | rfl | (simp [errW_none, errW_some] <;> rfl) | (simp [*, errW_none, errW_some] <;> rfl), by exact zp11_0_ HB.out ad.out⟩
      ·replace c14 := Bool.eq_false_iff.mpr c14
       subst c14
       have H1 : (some false) = some r := by rw [if_neg (show ¬ (false = true) by decide)] at H; exact H
       clear H
       have H := H1
       clear H1
       obtain rfl := Option.some.inj H
       simp only [Option.some.injEq, Prod.mk.injEq] at H
       obtain ⟨rfl⟩ := H
       have aF := ck_ (v := (.int .i64 a0_0)) aa 0 rfl
       have aG := ck_ (v := (.string a0_1)) aa 1 rfl
       have aH := ck_ (v := (.slice A0_2 l0_2.length c0_2)) aa 2 rfl
       have aI := blk_frozen aa.out 0
       have aJ := blk_frozen aa.out 1
       have aK := blk_frozen aa.out 2
       go_wp2_with (first | (go_at_call 51; (with_reducible refine (spec_IsWord.calls k1 a0_1 false _ A13.out).mono ?_); rintro e w' ⟨rfl, ⟨nd, rfl⟩⟩; (try first | exact ⟨rfl, _, World.drewN_drewN _ _ _⟩ | exact ⟨rfl, _, Eq.trans (World.drewN_drewN _ _ _) (congrArg (World.drewN _) (Nat.add_assoc _ _ _))⟩)))
       repeat (go_quiet (first | (go_at_call 51; (with_reducible refine (spec_IsWord.calls k1 a0_1 false _ A13.out).mono ?_); rintro e w' ⟨rfl, ⟨nd, rfl⟩⟩; (try first | exact ⟨rfl, _, World.drewN_drewN _ _ _⟩ | exact ⟨rfl, _, Eq.trans (World.drewN_drewN _ _ _) (congrArg (World.drewN _) (Nat.add_assoc _ _ _))⟩))); try go_wp2_with (first | (go_at_call 51; (with_reducible refine (spec_IsWord.calls k1 a0_1 false _ A13.out).mono ?_); rintro e w' ⟨rfl, ⟨nd, rfl⟩⟩; (try first | exact ⟨rfl, _, World.drewN_drewN _ _ _⟩ | exact ⟨rfl, _, Eq.trans (World.drewN_drewN _ _ _) (congrArg (World.drewN _) (Nat.add_assoc _ _ _))⟩))))
       go_ret
       exact ⟨by first | rfl | (simp [errW_none, errW_some] <;> rfl) | (simp [*, errW_none, errW_some] <;> rfl), by exact zp11_0_ HB.out ad.out⟩
     ·rw [if_neg c12] at H
      have c12b0 : ((a0_1.size : Int) == 1) = false := beq_eq_false_iff_ne.mpr c12
      have c12b1 : ((a0_1.size : Int) != 1) = true := bne_iff_ne.mpr c12
      obtain rfl := Option.some.inj H
      simp only [Option.some.injEq, Prod.mk.injEq] at H
      obtain ⟨rfl⟩ := H
      have aL := ck_ (v := (.int .i64 a0_0)) aa 0 rfl
      have aM := ck_ (v := (.string a0_1)) aa 1 rfl
      have aN := ck_ (v := (.slice A0_2 l0_2.length c0_2)) aa 2 rfl
      have aO := blk_frozen aa.out 0
      have aP := blk_frozen aa.out 1
      have aQ := blk_frozen aa.out 2
      go_wp2
      repeat (go_quiet (fail); try go_wp2)
      go_ret
      exact ⟨by first | rfl | (simp [errW_none, errW_some] <;> rfl) | (simp [*, errW_none, errW_some] <;> rfl), by exact zp11_0_ HB.out ad.out⟩
    ·rw [if_neg c11] at H
     have c11b0 : (a0_0 == 3) = false := beq_eq_false_iff_ne.mpr c11
     have c11b1 : (a0_0 != 3) = true := bne_iff_ne.mpr c11
     replace H := Option.bind_eq_some_iff.mp H
     obtain ⟨aq, aw, H⟩ := H
     have A18 := am_ aw
     clear aw
     by_cases c19 : aq = true
     ·subst c19
      have H1 : (if a0_1.toList = ([] : List UInt8) then ((spec_l3Args.f k1 a0_0).bind fun al => (some ((l0_2.length : Int) == al))) else (some false)) = some r := by rw [if_pos rfl] at H; exact H
      clear H
      have H := H1
      clear H1
      by_cases c20 : a0_1.toList = ([] : List UInt8)
      ·rw [if_pos c20] at H
       have c20b0 : (a0_1.toList == ([] : List UInt8)) = true := beq_iff_eq.mpr c20
       have c20b1 : (a0_1.toList != ([] : List UInt8)) = false := bne_eq_false_iff_eq.mpr c20
       clear c20
       replace H := Option.bind_eq_some_iff.mp H
       obtain ⟨al, ax, H⟩ := H
       replace H : (some ((l0_2.length : Int) == al)) = some r := H
       have A21 := am_ ax
       clear ax
       obtain rfl := Option.some.inj H
       simp only [Option.some.injEq, Prod.mk.injEq] at H
       obtain ⟨rfl⟩ := H
       have aR := ck_ (v := (.int .i64 a0_0)) aa 0 rfl
       have aS := ck_ (v := (.string a0_1)) aa 1 rfl
       have aT := ck_ (v := (.slice A0_2 l0_2.length c0_2)) aa 2 rfl
       have aU := blk_frozen aa.out 0
       have aV := blk_frozen aa.out 1
       have aW := blk_frozen aa.out 2
       go_wp2_with (first | (go_at_call 68; (with_reducible refine (spec_l1In.calls a0_0 1 9 true _ A18.out).mono ?_); rintro e w' ⟨rfl, ⟨nd, rfl⟩⟩; (try first | exact ⟨rfl, _, World.drewN_drewN _ _ _⟩ | exact ⟨rfl, _, Eq.trans (World.drewN_drewN _ _ _) (congrArg (World.drewN _) (Nat.add_assoc _ _ _))⟩)) | (go_at_call 69; (with_reducible refine (spec_l3Args.calls k1 a0_0 al _ A21.out).mono ?_); rintro e w' ⟨rfl, ⟨nd, rfl⟩⟩; (try first | exact ⟨rfl, _, World.drewN_drewN _ _ _⟩ | exact ⟨rfl, _, Eq.trans (World.drewN_drewN _ _ _) (congrArg (World.drewN _) (Nat.add_assoc _ _ _))⟩)))
       repeat (go_quiet (first | (go_at_call 68; (with_reducible refine (spec_l1In.calls a0_0 1 9 true _ A18.out).mono ?_); rintro e w' ⟨rfl, ⟨nd, rfl⟩⟩; (try first | exact ⟨rfl, _, World.drewN_drewN _ _ _⟩ | exact ⟨rfl, _, Eq.trans (World.drewN_drewN _ _ _) (congrArg (World.drewN _) (Nat.add_assoc _ _ _))⟩)) | (go_at_call 69; (with_reducible refine (spec_l3Args.calls k1 a0_0 al _ A21.out).mono ?_); rintro e w' ⟨rfl, ⟨nd, rfl⟩⟩; (try first | exact ⟨rfl, _, World.drewN_drewN _ _ _⟩ | exact ⟨rfl, _, Eq.trans (World.drewN_drewN _ _ _) (congrArg (World.drewN _) (Nat.add_assoc _ _ _))⟩))); try go_wp2_with (first | (go_at_call 68; (with_reducible refine (spec_l1In.calls a0_0 1 9 true _ A18.out).mono ?_); rintro e w' ⟨rfl, ⟨nd, rfl⟩⟩; (try first | exact ⟨rfl, _, World.drewN_drewN _ _ _⟩ | exact ⟨rfl, _, Eq.trans (World.drewN_drewN _ _ _) (congrArg (World.drewN _) (Nat.add_assoc _ _ _))⟩)) | (go_at_call 69; (with_reducible refine (spec_l3Args.calls k1 a0_0 al _ A21.out).mono ?_); rintro e w' ⟨rfl, ⟨nd, rfl⟩⟩; (try first | exact ⟨rfl, _, World.drewN_drewN _ _ _⟩ | exact ⟨rfl, _, Eq.trans (World.drewN_drewN _ _ _) (congrArg (World.drewN _) (Nat.add_assoc _ _ _))⟩))))
       go_ret
       exact ⟨by first | rfl | (simp [errW_none, errW_some] <;> rfl) | (simp [*, errW_none, errW_some] <;> rfl), by exact zp11_0_ HB.out ad.out⟩
      ·rw [if_neg c20] at H
       have c20b0 : (a0_1.toList == ([] : List UInt8)) = false := beq_eq_false_iff_ne.mpr c20
       have c20b1 : (a0_1.toList != ([] : List UInt8)) = true := bne_iff_ne.mpr c20
       obtain rfl := Option.some.inj H
       simp only [Option.some.injEq, Prod.mk.injEq] at H
       obtain ⟨rfl⟩ := H
       have aX := ck_ (v := (.int .i64 a0_0)) aa 0 rfl
       have aY := ck_ (v := (.string a0_1)) aa 1 rfl
       have aZ := ck_ (v := (.slice A0_2 l0_2.length c0_2)) aa 2 rfl
       have ba := blk_frozen aa.out 0
       have bb := blk_frozen aa.out 1
       have bc := blk_frozen aa.out 2
       go_wp2_with (first | (go_at_call 68; (with_reducible refine (spec_l1In.calls a0_0 1 9 true _ A18.out).mono ?_); rintro e w' ⟨rfl, ⟨nd, rfl⟩⟩; (try first | exact ⟨rfl, _, World.drewN_drewN _ _ _⟩ | exact ⟨rfl, _, Eq.trans (World.drewN_drewN _ _ _) (congrArg (World.drewN _) (Nat.add_assoc _ _ _))⟩)))
       repeat (go_quiet (first | (go_at_call 68; (with_reducible refine (spec_l1In.calls a0_0 1 9 true _ A18.out).mono ?_); rintro e w' ⟨rfl, ⟨nd, rfl⟩⟩; (try first | exact ⟨rfl, _, World.drewN_drewN _ _ _⟩ | exact ⟨rfl, _, Eq.trans (World.drewN_drewN _ _ _) (congrArg (World.drewN _) (Nat.add_assoc _ _ _))⟩))); try go_wp2_with (first | (go_at_call 68; (with_reducible refine (spec_l1In.calls a0_0 1 9 true _ A18.out).mono ?_); rintro e w' ⟨rfl, ⟨nd, rfl⟩⟩; (try first | exact ⟨rfl, _, World.drewN_drewN _ _ _⟩ | exact ⟨rfl, _, Eq.trans (World.drewN_drewN _ _ _) (congrArg (World.drewN _) (Nat.add_assoc _ _ _))⟩))))
       go_ret
       exact ⟨by first | rfl | (simp [errW_none, errW_some] <;> rfl) | (simp [*, errW_none, errW_some] <;> rfl), by exact zp11_0_ HB.out ad.out⟩
     ·replace c19 := Bool.eq_false_iff.mpr c19
      subst c19
      have H1 : (some false) = some r := by rw [if_neg (show ¬ (false = true) by decide)] at H; exact H
      clear H
      have H := H1
      clear H1
      obtain rfl := Option.some.inj H
      simp only [Option.some.injEq, Prod.mk.injEq] at H
      obtain ⟨rfl⟩ := H
      have bd := ck_ (v := (.int .i64 a0_0)) aa 0 rfl
      have be := ck_ (v := (.string a0_1)) aa 1 rfl
      have bf := ck_ (v := (.slice A0_2 l0_2.length c0_2)) aa 2 rfl
      have bg := blk_frozen aa.out 0
      have bh := blk_frozen aa.out 1
      have bi := blk_frozen aa.out 2
      go_wp2_with (first | (go_at_call 68; (with_reducible refine (spec_l1In.calls a0_0 1 9 false _ A18.out).mono ?_); rintro e w' ⟨rfl, ⟨nd, rfl⟩⟩; (try first | exact ⟨rfl, _, World.drewN_drewN _ _ _⟩ | exact ⟨rfl, _, Eq.trans (World.drewN_drewN _ _ _) (congrArg (World.drewN _) (Nat.add_assoc _ _ _))⟩)))
      repeat (go_quiet (first | (go_at_call 68; (with_reducible refine (spec_l1In.calls a0_0 1 9 false _ A18.out).mono ?_); rintro e w' ⟨rfl, ⟨nd, rfl⟩⟩; (try first | exact ⟨rfl, _, World.drewN_drewN _ _ _⟩ | exact ⟨rfl, _, Eq.trans (World.drewN_drewN _ _ _) (congrArg (World.drewN _) (Nat.add_assoc _ _ _))⟩))); try go_wp2_with (first | (go_at_call 68; (with_reducible refine (spec_l1In.calls a0_0 1 9 false _ A18.out).mono ?_); rintro e w' ⟨rfl, ⟨nd, rfl⟩⟩; (try first | exact ⟨rfl, _, World.drewN_drewN _ _ _⟩ | exact ⟨rfl, _, Eq.trans (World.drewN_drewN _ _ _) (congrArg (World.drewN _) (Nat.add_assoc _ _ _))⟩))))
      go_ret
      exact ⟨by first | rfl | (simp [errW_none, errW_some] <;> rfl) | (simp [*, errW_none, errW_some] <;> rfl), by exact zp11_0_ HB.out ad.out⟩
end Go.Proofs.Ytldgkgdgcfllmaa.P
end
section
namespace Go.Proofs
open Go.Shelf
def Try.lays137_ren : Go.Shelf.Ren := ⟨fun | 137 => 84 | 217 => 89 | 266 => 90 | n => n, fun | 9 => 9 | 5 => 5 | 3 => 3 | n => n, fun | n => n⟩
theorem Try.lays137 : Go.Proofs.Lays.n137 Try.prog Try.lays137_ren := {
  mixed := by kernel_rfl
  f137 := Try.func84.trans (congrArg some (by kernel_rfl))
  f217 := Try.func89.trans (congrArg some (by kernel_rfl))
  f266 := Try.func90.trans (congrArg some (by kernel_rfl))
  t3 := Try.underlying3
  a3 := Try.isAgg3
  z3 := Try.sizeOf3
  v3 := Try.zeroValue3
  t5 := Try.underlying5
  a5 := Try.isAgg5
  z5 := Try.sizeOf5
  v5 := Try.zeroValue5
  t9 := Try.underlying9
  a9 := Try.isAgg9
  z9 := Try.sizeOf9
  v9 := Try.zeroValue9 }
open Go.RowKit in
theorem Try.strings_IndexByte (s : ByteArray) (c : Int) (w : World) :
    Calls Try.prog 84 #[.string s, .int .u8 c] w fun e w' => e = .returned (.int .i64 (Lib.indexByte s.data.toList c.toNat.toUInt8)) ∧ w' = w := Any.strings_IndexByte Try.lays137 s c w
end Go.Proofs
end
