/- Texts of the proof of FnShortest, put together. No condition. -/
import Derived.Test.YtogamkblkoobkaaQFnShortest2
import Derived.Test.YtogamkblkoobkaaQFnShortest4
import Derived.Shelf.Abstract
import Derived.Lib.Walk
import Derived.Test.YtogamkblkoobkaaQFnShortest3
section
namespace Go.Proofs.Ytogamkblkoobkaa.P
open Go.RowKit Go.Proofs.YtogamkblkoobkaaW.PrintWords Go.Proofs.YtogamkblkoobkaaW.PrintLast Go.Proofs.YtogamkblkoobkaaW.PrintMore
attribute [local go_sem] max2_int min2_int max_two min_two max_three min_three max_four min_four
set_option linter.unusedVariables false
set_option linter.unusedSimpArgs false
def impl_after.l0 : Nat → Int → ByteArray → Int → List Bool → List (List Int) → Option (Int)
  | 0, _, _, _, _, _ => none
  | k + 1, x1, x2, x7, x754000, x754001 => if x7 < (x2.size : Int) then (if 0 ≤ x1 then (if x1 < (x754001.length : Int) then (if 0 ≤ x7 then ((impl_LetterIndex.f (bt x2 x7)).bind fun t755 => (if 0 ≤ t755 then (if t755 < ((rd_L1 x754001 x1).length : Int) then (impl_after.l0 k (rd (rd_L1 x754001 x1) t755) x2 (wrap64 (x7 + 1)) x754000 x754001) else (none)) else (none))) else (none)) else (none)) else (none)) else (some x1)
def impl_after.f (k : Nat) (l0_0 : List Bool) (l0_1 : List (List Int)) (a1 : Int) (a2 : ByteArray) : Option (Int) := impl_after.l0 k a1 a2 0 l0_0 l0_1
theorem impl_after.mono_l : ∀ k, (∀ y0 y1 y2 y3 y4, LeO (impl_after.l0 k y0 y1 y2 y3 y4) (impl_after.l0 (k + 1) y0 y1 y2 y3 y4))
  | 0 => fun _ _ _ _ _ r h => by simp [impl_after.l0] at h
  | k + 1 => by
    have ih0 := impl_after.mono_l k
    · intro y0 y1 y2 y3 y4
      unfold impl_after.l0
      repeat' first
      | (with_reducible exact ih0 _ _ _ _ _)
      | (with_reducible exact LeO.refl _)
      | (with_reducible exact LeO.none _)
      | (with_reducible refine LeO.ite ?_ ?_)
      | (with_reducible refine LeO.bind ?_ (fun _ => ?_))
      | exact ih0 _ _ _ _ _
      | exact LeO.none _
      | refine LeO.ite ?_ ?_
      | refine LeO.bind ?_ (fun _ => ?_)
theorem impl_after.mono : ∀ a0 a1 a2 a3 k, LeO (impl_after.f k a0 a1 a2 a3) (impl_after.f (k + 1) a0 a1 a2 a3) := by
  intro a0 a1 a2 a3 k
  have ih0 := impl_after.mono_l k
  unfold impl_after.f
  repeat' first
      | (with_reducible exact ih0 _ _ _ _ _)
      | (with_reducible exact LeO.refl _)
      | (with_reducible exact LeO.none _)
      | (with_reducible refine LeO.ite ?_ ?_)
      | (with_reducible refine LeO.bind ?_ (fun _ => ?_))
      | exact ih0 _ _ _ _ _
      | exact LeO.none _
      | refine LeO.ite ?_ ?_
      | refine LeO.bind ?_ (fun _ => ?_)
theorem zp40_0_ {p q g1 : Prop} (h : p) (h1 : g1) (c : p → g1 → q := by intro h_ h1_; repeat (first | (with_reducible first | exact h_ | apply below_alloc | apply pw_below_drewN | apply below_drew1 | refine below_set ?_ h1_) | exact h_)) : q := c h h1
set_option maxHeartbeats 8000000 in
set_option maxRecDepth 100000 in
theorem impl_after.calls (k : Nat) (A0_0 : Option Addr) (c0_0 : Nat) (l0_0 : List Bool) (A0_1 : Option Addr) (c0_1 : Nat) (l0_1 : List (List Int)) (a1 : Int) (a2 : ByteArray) (r : Int) (w : World) (hr0_0 : Kd.C Kd.bool w A0_0 l0_0.length l0_0) (hc0_0 : l0_0.length ≤ c0_0) (hr0_1 : Kd.C (Kd.slice 3 (Kd.int .i64)) w A0_1 l0_1.length l0_1) (hc0_1 : l0_1.length ≤ c0_1) (h : impl_after.f k l0_0 l0_1 a1 a2 = some r) :
    Calls Try.prog 109 #[.agg #[.slice A0_0 l0_0.length c0_0, .slice A0_1 l0_1.length c0_1], .int .i64 a1, .string a2] w fun e w' => e = .returned (.int .i64 r) ∧ Below w.heap.size w w' := by
  have hu27 := Try.underlying27
  have HR0_0 := am_ hr0_0
  have HC0_0 := am_ hc0_0
  clear hr0_0 hc0_0
  have HR0_1 := am_ hr0_1
  have HC0_1 := am_ hc0_1
  clear hr0_1 hc0_1
  have HB := am_ (Below.refl w.heap.size w)
  have H : (impl_after.l0 k a1 a2 0 l0_0 l0_1) = some r := h
  clear h
  have H' := am_ H
  clear H
  go_enter Try.func109, Try.ntmps109
  go_wp2_with (first | ((with_reducible refine gate_dst (N := 3) rfl ?_); refine box_event ?hg (N := 3) ?hd (cs := #[.slice A0_0 l0_0.length c0_0, .slice A0_1 l0_1.length c0_1]) (t := 27) ?hr ?_; (case hd => rfl); (case hg => rfl); (case hr => first | (go_simp; done) | (go_simp; rfl)); intro gb753 hg w4 hbox hb; replace BK753 := am_ (hbox); replace GW753 := am_ ((by rw [hg]; exact (below_size (b0_ HB.out)) : w.heap.size ≤ gb753)); replace GE753 := am_ ((by rw [hg]; exact (below_size (b0_ HB.out)) : w.heap.size ≤ gb753)); replace HB := am_ (below_step (b0_ HB.out) hb); clear hb hbox hg))
  repeat (go_quiet (first | ((with_reducible refine gate_dst (N := 3) rfl ?_); refine box_event ?hg (N := 3) ?hd (cs := #[.slice A0_0 l0_0.length c0_0, .slice A0_1 l0_1.length c0_1]) (t := 27) ?hr ?_; (case hd => rfl); (case hg => rfl); (case hr => first | (go_simp; done) | (go_simp; rfl)); intro gb753 hg w4 hbox hb; replace BK753 := am_ (hbox); replace GW753 := am_ ((by rw [hg]; exact (below_size (b0_ HB.out)) : w.heap.size ≤ gb753)); replace GE753 := am_ ((by rw [hg]; exact (below_size (b0_ HB.out)) : w.heap.size ≤ gb753)); replace HB := am_ (below_step (b0_ HB.out) hb); clear hb hbox hg)); try go_wp2_with (first | ((with_reducible refine gate_dst (N := 3) rfl ?_); refine box_event ?hg (N := 3) ?hd (cs := #[.slice A0_0 l0_0.length c0_0, .slice A0_1 l0_1.length c0_1]) (t := 27) ?hr ?_; (case hd => rfl); (case hg => rfl); (case hr => first | (go_simp; done) | (go_simp; rfl)); intro gb753 hg w4 hbox hb; replace BK753 := am_ (hbox); replace GW753 := am_ ((by rw [hg]; exact (below_size (b0_ HB.out)) : w.heap.size ≤ gb753)); replace GE753 := am_ ((by rw [hg]; exact (below_size (b0_ HB.out)) : w.heap.size ≤ gb753)); replace HB := am_ (below_step (b0_ HB.out) hb); clear hb hbox hg)))
  go_loopg [1, 7] k (fun kq v1 v7 w' => ∃ (x1_1 : Int) (x7_1 : Int), v1 = .int .i64 x1_1 ∧ v7 = .int .i64 x7_1 ∧ Aside0 (impl_after.l0 kq x1_1 a2 x7_1 l0_0 l0_1 = some r) ∧ Aside0 (kq ≤ k) ∧ Aside0 (w'.heap[gb753]? = some (.cells #[(.slice A0_0 l0_0.length c0_0), (.slice A0_1 l0_1.length c0_1)] 27 (0, 0))) ∧ Aside0 (Below w.heap.size w w'))
  case atStart => exact ⟨(a1), (0), (by first | rfl | (simp; done) | (simp [*]; done)), (by first | rfl | (simp; done) | (simp [*]; done)), H', ⟨Nat.le_refl _⟩, ⟨by refine rb_ ?_; exact BK753.out⟩, ⟨by exact zp40_0_ HB.out GE753.out⟩⟩
  case round =>
    clear H'
    try clear c1
    try clear p2
    obtain ⟨x1_1, x7_1, rfl, rfl, HA, HK1, BK753, HB⟩ := hrel
    cases gk with
    | zero => exact absurd HA.out (by simp [impl_after.l0])
    | succ k1 =>
      have H := HA.out
      clear HA
      simp only [impl_after.l0] at H
      by_cases c5 : x7_1 < (a2.size : Int)
      · rw [if_pos c5] at H
        have c5b0 : decide (x7_1 < (a2.size : Int)) = true := decide_eq_true c5
        clear c5
        by_cases c6 : 0 ≤ x1_1
        · rw [if_pos c6] at H
          have c6b0 : decide (0 ≤ x1_1) = true := decide_eq_true c6
          clear c6
          by_cases c7 : x1_1 < (l0_1.length : Int)
          · rw [if_pos c7] at H
            have c7b0 : decide (x1_1 < (l0_1.length : Int)) = true := decide_eq_true c7
            clear c7
            by_cases c8 : 0 ≤ x7_1
            · rw [if_pos c8] at H
              have c8b0 : decide (0 ≤ x7_1) = true := decide_eq_true c8
              clear c8
              replace H := Option.bind_eq_some_iff.mp H
              obtain ⟨t755, A100, H⟩ := H
              have A10 := am_ A100
              clear A100
              by_cases c11 : 0 ≤ t755
              · rw [if_pos c11] at H
                have c11b0 : decide (0 ≤ t755) = true := decide_eq_true c11
                clear c11
                by_cases c12 : t755 < ((rd_L1 l0_1 x1_1).length : Int)
                · rw [if_pos c12] at H
                  have c12b0 : decide (t755 < ((rd_L1 l0_1 x1_1).length : Int)) = true := decide_eq_true c12
                  clear c12
                  have H' := am_ H
                  clear H
                  have hcz13_0 : wr.cell? ⟨gb753, 0, none⟩ = some (.slice A0_0 l0_0.length c0_0) := (blk_cell BK753.out 0).trans rfl
                  have hcz13_1 : wr.cell? ⟨gb753, 1, none⟩ = some (.slice A0_1 l0_1.length c0_1) := (blk_cell BK753.out 1).trans rfl
                  have hfz13_0 := blk_frozen BK753.out 0
                  have hfz13_1 := blk_frozen BK753.out 1
                  have p754 : 0 ≤ (x1_1 : Int) := of_decide_eq_true ah_
                  have q754 : x1_1 < (l0_1.length : Int) := of_decide_eq_true ah_
                  obtain ⟨ad754, A754_0, c754_0, e754, hx754_0, hl754_0, hi754_0⟩ := at_L1 HR0_1.out x1_1 p754 q754
                  cases e754
                  replace hx754_0 := (HB.out.cell (World.block_lt_of_cell? w _ hx754_0)).trans hx754_0
                  have HR754_0 := am_ hi754_0
                  have HC754_0 := am_ hl754_0
                  clear hi754_0 hl754_0
                  replace p754 := eq_true p754
                  replace q754 := eq_true q754
                  have p9 : 0 ≤ (x7_1 : Int) := of_decide_eq_true ah_
                  have q9 : x7_1 < (a2.size : Int) := of_decide_eq_true ah_
                  have hx9 := bt_at a2 x7_1
                  replace p9 := eq_true p9
                  replace q9 := eq_true q9
                  go_wp2_with (first | (go_at_call 72; (with_reducible refine (impl_LetterIndex.calls (bt a2 x7_1) t755 _ A10.out).mono ?_); rintro e w' ⟨rfl, ⟨nd, rfl⟩⟩; (try first | exact ⟨rfl, _, World.drewN_drewN _ _ _⟩ | exact ⟨rfl, _, Eq.trans (World.drewN_drewN _ _ _) (congrArg (World.drewN _) (Nat.add_assoc _ _ _))⟩); have p756 : 0 ≤ (t755 : Int) := of_decide_eq_true ah_; have q756 : t755 < ((rd_L1 l0_1 x1_1).length : Int) := of_decide_eq_true ah_; obtain ⟨ad756, e756, hx756_0⟩ := Kd.at_int HR754_0.out t755 p756 q756; cases e756; replace hx756_0 := (HB.out.cell (World.block_lt_of_cell? w _ hx756_0)).trans hx756_0; replace p756 := eq_true p756; replace q756 := eq_true q756))
                  repeat (go_quiet (first | (go_at_call 72; (with_reducible refine (impl_LetterIndex.calls (bt a2 x7_1) t755 _ A10.out).mono ?_); rintro e w' ⟨rfl, ⟨nd, rfl⟩⟩; (try first | exact ⟨rfl, _, World.drewN_drewN _ _ _⟩ | exact ⟨rfl, _, Eq.trans (World.drewN_drewN _ _ _) (congrArg (World.drewN _) (Nat.add_assoc _ _ _))⟩); have p756 : 0 ≤ (t755 : Int) := of_decide_eq_true ah_; have q756 : t755 < ((rd_L1 l0_1 x1_1).length : Int) := of_decide_eq_true ah_; obtain ⟨ad756, e756, hx756_0⟩ := Kd.at_int HR754_0.out t755 p756 q756; cases e756; replace hx756_0 := (HB.out.cell (World.block_lt_of_cell? w _ hx756_0)).trans hx756_0; replace p756 := eq_true p756; replace q756 := eq_true q756)); try go_wp2_with (first | (go_at_call 72; (with_reducible refine (impl_LetterIndex.calls (bt a2 x7_1) t755 _ A10.out).mono ?_); rintro e w' ⟨rfl, ⟨nd, rfl⟩⟩; (try first | exact ⟨rfl, _, World.drewN_drewN _ _ _⟩ | exact ⟨rfl, _, Eq.trans (World.drewN_drewN _ _ _) (congrArg (World.drewN _) (Nat.add_assoc _ _ _))⟩); have p756 : 0 ≤ (t755 : Int) := of_decide_eq_true ah_; have q756 : t755 < ((rd_L1 l0_1 x1_1).length : Int) := of_decide_eq_true ah_; obtain ⟨ad756, e756, hx756_0⟩ := Kd.at_int HR754_0.out t755 p756 q756; cases e756; replace hx756_0 := (HB.out.cell (World.block_lt_of_cell? w _ hx756_0)).trans hx756_0; replace p756 := eq_true p756; replace q756 := eq_true q756)))
                  go_roundg k1
                  case measure => have := HK1.out; omega
                  case rel => exact ⟨(rd (rd_L1 l0_1 x1_1) t755), (wrap64 (x7_1 + 1)), (by first | rfl | (simp; done) | (simp [*]; done)), (by first | rfl | (simp; done) | (simp [*]; done)), H', ⟨by have := HK1.out; omega⟩, ⟨by refine rb_ ?_; exact BK753.out⟩, ⟨by exact zp40_0_ HB.out GE753.out⟩⟩
                · rw [if_neg c12] at H
                  exact absurd H (by simp)
              · rw [if_neg c11] at H
                exact absurd H (by simp)
            · rw [if_neg c8] at H
              exact absurd H (by simp)
          · rw [if_neg c7] at H
            exact absurd H (by simp)
        · rw [if_neg c6] at H
          exact absurd H (by simp)
      · rw [if_neg c5] at H
        have c5b0 : decide (x7_1 < (a2.size : Int)) = false := decide_eq_false c5
        clear c5
        obtain rfl := Option.some.inj H
        simp only [Option.some.injEq, Prod.mk.injEq] at H
        obtain ⟨rfl⟩ := H
        go_wp2
        repeat (go_quiet (fail); try go_wp2)
        go_ret
        exact ⟨by first | rfl | (simp [errW_none, errW_some] <;> rfl) | (simp [*, errW_none, errW_some] <;> rfl), by exact zp40_0_ HB.out GE753.out⟩
def impl_RunDfa.f (k : Nat) (l0_0 : List Bool) (l0_1 : List (List Int)) (a1 : Int) (a2 : ByteArray) : Option (Int × Bool) := (impl_IsValidDfa.f l0_0 l0_1).bind fun t758 => (if t758 = true then ((impl_within.f a1 0 (wrap64 ((l0_0.length : Int) - 1))).bind fun t759 => (if t759 = true then ((impl_IsWord.f k a2).bind fun t760 => (if t760 = true then ((impl_after.f k l0_0 l0_1 a1 a2).bind fun t761 => (some (t761, true))) else (some (0, false)))) else (some (0, false)))) else (some (0, false)))
theorem impl_RunDfa.mono : ∀ a0 a1 a2 a3 k, LeO (impl_RunDfa.f k a0 a1 a2 a3) (impl_RunDfa.f (k + 1) a0 a1 a2 a3) := by
 intro a0 a1 a2 a3 k
 unfold impl_RunDfa.f
 repeat' first
   | (with_reducible exact impl_IsWord.mono _ _)
   | (with_reducible exact impl_after.mono _ _ _ _ _)
   | (with_reducible exact LeO.refl _)
   | (with_reducible exact LeO.none _)
   | (with_reducible refine LeO.ite ?_ ?_)
   | (with_reducible refine LeO.bind ?_ (fun _ => ?_))
   | exact impl_IsWord.mono _ _
   | exact impl_after.mono _ _ _ _ _
   | exact LeO.none _
   | refine LeO.ite ?_ ?_
   | refine LeO.bind ?_ (fun _ => ?_)
set_option maxHeartbeats 8000000 in
set_option maxRecDepth 100000 in
theorem impl_RunDfa.calls (k : Nat) (A0_0 : Option Addr) (c0_0 : Nat) (l0_0 : List Bool) (A0_1 : Option Addr) (c0_1 : Nat) (l0_1 : List (List Int)) (a1 : Int) (a2 : ByteArray) (r1 : Int) (r2 : Bool) (w : World) (hr0_0 : Kd.C Kd.bool w A0_0 l0_0.length l0_0) (hc0_0 : l0_0.length ≤ c0_0) (hr0_1 : Kd.C (Kd.slice 3 (Kd.int .i64)) w A0_1 l0_1.length l0_1) (hc0_1 : l0_1.length ≤ c0_1) (h : impl_RunDfa.f k l0_0 l0_1 a1 a2 = some (r1, r2)) :
  Calls Try.prog 42 #[.agg #[.slice A0_0 l0_0.length c0_0, .slice A0_1 l0_1.length c0_1], .int .i64 a1, .string a2] w fun e w' => e = .returned (.tuple #[.int .i64 r1, .bool r2]) ∧ Below w.heap.size w w' := by
 have hu27 := Try.underlying27
 have HR0_0 := am_ hr0_0
 have HC0_0 := am_ hc0_0
 clear hr0_0 hc0_0
 have HR0_1 := am_ hr0_1
 have HC0_1 := am_ hc0_1
 clear hr0_1 hc0_1
 have HB := am_ (Below.refl w.heap.size w)
 have H : ((impl_IsValidDfa.f l0_0 l0_1).bind fun t758 => (if t758 = true then ((impl_within.f a1 0 (wrap64 ((l0_0.length : Int) - 1))).bind fun t759 => (if t759 = true then ((impl_IsWord.f k a2).bind fun t760 => (if t760 = true then ((impl_after.f k l0_0 l0_1 a1 a2).bind fun t761 => (some (t761, true))) else (some (0, false)))) else (some (0, false)))) else (some (0, false)))) = some (r1, r2) := h
 clear h
 replace H := Option.bind_eq_some_iff.mp H
 obtain ⟨t758, A40, H⟩ := H
 have A4 := am_ A40
 clear A40
 by_cases c5 : t758 = true
 ·subst c5
  have H1 : ((impl_within.f a1 0 (wrap64 ((l0_0.length : Int) - 1))).bind fun t759 => (if t759 = true then ((impl_IsWord.f k a2).bind fun t760 => (if t760 = true then ((impl_after.f k l0_0 l0_1 a1 a2).bind fun t761 => (some (t761, true))) else (some (0, false)))) else (some (0, false)))) = some (r1, r2) := by rw [if_pos rfl] at H; exact H
  clear H
  have H := H1
  clear H1
  replace H := Option.bind_eq_some_iff.mp H
  obtain ⟨t759, A60, H⟩ := H
  have A6 := am_ A60
  clear A60
  by_cases c7 : t759 = true
  ·subst c7
   have H1 : ((impl_IsWord.f k a2).bind fun t760 => (if t760 = true then ((impl_after.f k l0_0 l0_1 a1 a2).bind fun t761 => (some (t761, true))) else (some (0, false)))) = some (r1, r2) := by rw [if_pos rfl] at H; exact H
   clear H
   have H := H1
   clear H1
   replace H := Option.bind_eq_some_iff.mp H
   obtain ⟨t760, A80, H⟩ := H
   have A8 := am_ A80
   clear A80
   by_cases c9 : t760 = true
   ·subst c9
    have H1 : ((impl_after.f k l0_0 l0_1 a1 a2).bind fun t761 => (some (t761, true))) = some (r1, r2) := by rw [if_pos rfl] at H; exact H
    clear H
    have H := H1
    clear H1
    replace H := Option.bind_eq_some_iff.mp H
    obtain ⟨t761, A100, H⟩ := H
    replace H : (some (t761, true)) = some (r1, r2) := H
    have A10 := am_ A100
    clear A100
    simp only [Option.some.injEq, Prod.mk.injEq] at H
    obtain ⟨rfl, rfl⟩ := H
    go_enter Try.func42, Try.ntmps42
    go_wp2_with (first | ((with_reducible refine gate_dst (N := 3) rfl ?_); (try (refine gate_guard (by rfl) ?_; dsimp only)); refine box_event ?hg (N := 3) ?hd (cs := #[.slice A0_0 l0_0.length c0_0, .slice A0_1 l0_1.length c0_1]) (t := 27) ?hr ?_; (case hd => rfl); (case hg => rfl); (case hr => first | (go_simp; done) | (go_simp; rfl)); intro gb757 hg w11 hbox hb; replace BK757 := am_ (hbox); replace GW757 := am_ ((by rw [hg]; exact (below_size (b0_ HB.out)) : w.heap.size ≤ gb757)); replace GE757 := am_ ((by rw [hg]; exact (below_size (b0_ HB.out)) : w.heap.size ≤ gb757)); replace HB := am_ (below_step (b0_ HB.out) hb); clear hb hbox hg; have hcz12_0 : w11.cell? ⟨gb757, 0, none⟩ = some (.slice A0_0 l0_0.length c0_0) := (blk_cell BK757.out 0).trans rfl; have hcz12_1 : w11.cell? ⟨gb757, 1, none⟩ = some (.slice A0_1 l0_1.length c0_1) := (blk_cell BK757.out 1).trans rfl; have hfz12_0 := blk_frozen BK757.out 0; have hfz12_1 := blk_frozen BK757.out 1) | ((with_reducible refine gate_callee (f := 39) rfl ?_); refine gL_ (some 9) Try.func39 #[.agg #[.slice A0_0 l0_0.length c0_0, .slice A0_1 l0_1.length c0_1]] ?_; (with_reducible refine (impl_IsValidDfa.calls _ _ l0_0 _ _ l0_1 true _ ?side1 ?side2 ?side3 ?side4 A4.out).mono ?_); (case side1 => exact rc_ (Kd.C_below HR0_0.out HB.out)); (case side2 => exact HC0_0.out); (case side3 => exact rc_ (Kd.C_below HR0_1.out HB.out)); (case side4 => exact HC0_1.out); rintro e w13 ⟨rfl, hb⟩; refine ⟨_, rfl, ?_⟩; have n0_ := am_ (blk_below (rb_ BK757.out) hb); have n1_ := am_ (below_step (b1_ HB.out GE757.out) hb); clear BK757; clear HB; have BK757 := n0_; have HB := n1_; clear n0_ n1_; (try clear hb); (try clear hb2); (try clear hk); (try clear hi); have hcz14_0 : w13.cell? ⟨gb757, 0, none⟩ = some (.slice A0_0 l0_0.length c0_0) := (blk_cell BK757.out 0).trans rfl; have hcz14_1 : w13.cell? ⟨gb757, 1, none⟩ = some (.slice A0_1 l0_1.length c0_1) := (blk_cell BK757.out 1).trans rfl; have hfz14_0 := blk_frozen BK757.out 0; have hfz14_1 := blk_frozen BK757.out 1) | (go_at_call 101; (with_reducible refine (impl_within.calls a1 0 (wrap64 ((l0_0.length : Int) - 1)) true _ A6.out).mono ?_); rintro e w' ⟨rfl, ⟨nd, rfl⟩⟩) | (go_at_call 71; (with_reducible refine (impl_IsWord.calls k a2 true _ A8.out).mono ?_); rintro e w' ⟨rfl, ⟨nd, rfl⟩⟩) | ((with_reducible refine gate_callee (f := 109) rfl ?_); refine gL_ (some 28) Try.func109 #[.agg #[.slice A0_0 l0_0.length c0_0, .slice A0_1 l0_1.length c0_1], .int .i64 a1, .string a2] ?_; (with_reducible refine (impl_after.calls k _ _ l0_0 _ _ l0_1 a1 a2 t761 _ ?side1 ?side2 ?side3 ?side4 A10.out).mono ?_); (case side1 => exact rc_ (Kd.C_below HR0_0.out (b1_ HB.out GE757.out))); (case side2 => exact HC0_0.out); (case side3 => exact rc_ (Kd.C_below HR0_1.out (b1_ HB.out GE757.out))); (case side4 => exact HC0_1.out); rintro e w15 ⟨rfl, hb⟩; refine ⟨_, rfl, ?_⟩; have n0_ := am_ (blk_below (rb_ BK757.out) hb); have n1_ := am_ (below_step (b1_ HB.out GE757.out) hb); clear BK757; clear HB; have BK757 := n0_; have HB := n1_; clear n0_ n1_; (try clear hb); (try clear hb2); (try clear hk); (try clear hi)))
    go_ret2
    exact ⟨by first | rfl | (simp [errW_none, errW_some] <;> rfl) | (simp [*, errW_none, errW_some] <;> rfl), by exact zp40_0_ HB.out GE757.out⟩
   ·replace c9 := Bool.eq_false_iff.mpr c9
    subst c9
    have H1 : (some (0, false)) = some (r1, r2) := by rw [if_neg (show ¬ (false = true) by decide)] at H; exact H
    clear H
    have H := H1
    clear H1
    simp only [Option.some.injEq, Prod.mk.injEq] at H
    obtain ⟨rfl, rfl⟩ := H
    go_enter Try.func42, Try.ntmps42
    go_wp2_with (first | ((with_reducible refine gate_dst (N := 3) rfl ?_); (try (refine gate_guard (by rfl) ?_; dsimp only)); refine box_event ?hg (N := 3) ?hd (cs := #[.slice A0_0 l0_0.length c0_0, .slice A0_1 l0_1.length c0_1]) (t := 27) ?hr ?_; (case hd => rfl); (case hg => rfl); (case hr => first | (go_simp; done) | (go_simp; rfl)); intro gb757 hg w16 hbox hb; replace BK757 := am_ (hbox); replace GW757 := am_ ((by rw [hg]; exact (below_size (b0_ HB.out)) : w.heap.size ≤ gb757)); replace GE757 := am_ ((by rw [hg]; exact (below_size (b0_ HB.out)) : w.heap.size ≤ gb757)); replace HB := am_ (below_step (b0_ HB.out) hb); clear hb hbox hg; have hcz17_0 : w16.cell? ⟨gb757, 0, none⟩ = some (.slice A0_0 l0_0.length c0_0) := (blk_cell BK757.out 0).trans rfl; have hcz17_1 : w16.cell? ⟨gb757, 1, none⟩ = some (.slice A0_1 l0_1.length c0_1) := (blk_cell BK757.out 1).trans rfl; have hfz17_0 := blk_frozen BK757.out 0; have hfz17_1 := blk_frozen BK757.out 1) | ((with_reducible refine gate_callee (f := 39) rfl ?_); refine gL_ (some 9) Try.func39 #[.agg #[.slice A0_0 l0_0.length c0_0, .slice A0_1 l0_1.length c0_1]] ?_; (with_reducible refine (impl_IsValidDfa.calls _ _ l0_0 _ _ l0_1 true _ ?side1 ?side2 ?side3 ?side4 A4.out).mono ?_); (case side1 => exact rc_ (Kd.C_below HR0_0.out HB.out)); (case side2 => exact HC0_0.out); (case side3 => exact rc_ (Kd.C_below HR0_1.out HB.out)); (case side4 => exact HC0_1.out); rintro e w18 ⟨rfl, hb⟩; refine ⟨_, rfl, ?_⟩; have n0_ := am_ (blk_below (rb_ BK757.out) hb); have n1_ := am_ (below_step (b1_ HB.out GE757.out) hb); clear BK757; clear HB; have BK757 := n0_; have HB := n1_; clear n0_ n1_; (try clear hb); (try clear hb2); (try clear hk); (try clear hi); have hcz19_0 : w18.cell? ⟨gb757, 0, none⟩ = some (.slice A0_0 l0_0.length c0_0) := (blk_cell BK757.out 0).trans rfl; have hcz19_1 : w18.cell? ⟨gb757, 1, none⟩ = some (.slice A0_1 l0_1.length c0_1) := (blk_cell BK757.out 1).trans rfl; have hfz19_0 := blk_frozen BK757.out 0; have hfz19_1 := blk_frozen BK757.out 1) | (go_at_call 101; (with_reducible refine (impl_within.calls a1 0 (wrap64 ((l0_0.length : Int) - 1)) true _ A6.out).mono ?_); rintro e w' ⟨rfl, ⟨nd, rfl⟩⟩) | (go_at_call 71; (with_reducible refine (impl_IsWord.calls k a2 false _ A8.out).mono ?_); rintro e w' ⟨rfl, ⟨nd, rfl⟩⟩))
    go_ret2
    exact ⟨by first | rfl | (simp [errW_none, errW_some] <;> rfl) | (simp [*, errW_none, errW_some] <;> rfl), by exact zp40_0_ HB.out GE757.out⟩
  ·replace c7 := Bool.eq_false_iff.mpr c7
   subst c7
   have H1 : (some (0, false)) = some (r1, r2) := by rw [if_neg (show ¬ (false = true) by decide)] at H; exact H
   clear H
   have H := H1
   clear H1
   simp only [Option.some.injEq, Prod.mk.injEq] at H
   obtain ⟨rfl, rfl⟩ := H
   go_enter Try.func42, Try.ntmps42
   go_wp2_with (first | ((with_reducible refine gate_dst (N := 3) rfl ?_); (try (refine gate_guard (by rfl) ?_; dsimp only)); refine box_event ?hg (N := 3) ?hd (cs := #[.slice A0_0 l0_0.length c0_0, .slice A0_1 l0_1.length c0_1]) (t := 27) ?hr ?_; (case hd => rfl); (case hg => rfl); (case hr => first | (go_simp; done) | (go_simp; rfl)); intro gb757 hg w20 hbox hb; replace BK757 := am_ (hbox); replace GW757 := am_ ((by rw [hg]; exact (below_size (b0_ HB.out)) : w.heap.size ≤ gb757)); replace GE757 := am_ ((by rw [hg]; exact (below_size (b0_ HB.out)) : w.heap.size ≤ gb757)); replace HB := am_ (below_step (b0_ HB.out) hb); clear hb hbox hg; have hcz21_0 : w20.cell? ⟨gb757, 0, none⟩ = some (.slice A0_0 l0_0.length c0_0) := (blk_cell BK757.out 0).trans rfl; have hcz21_1 : w20.cell? ⟨gb757, 1, none⟩ = some (.slice A0_1 l0_1.length c0_1) := (blk_cell BK757.out 1).trans rfl; have hfz21_0 := blk_frozen BK757.out 0; have hfz21_1 := blk_frozen BK757.out 1) | ((with_reducible refine gate_callee (f := 39) rfl ?_); refine gL_ (some 9) Try.func39 #[.agg #[.slice A0_0 l0_0.length c0_0, .slice A0_1 l0_1.length c0_1]] ?_; (with_reducible refine (impl_IsValidDfa.calls _ _ l0_0 _ _ l0_1 true _ ?side1 ?side2 ?side3 ?side4 A4.out).mono ?_); (case side1 => exact rc_ (Kd.C_below HR0_0.out HB.out)); (case side2 => exact HC0_0.out); (case side3 => exact rc_ (Kd.C_below HR0_1.out HB.out)); (case side4 => exact HC0_1.out); rintro e w22 ⟨rfl, hb⟩; refine ⟨_, rfl, ?_⟩; have n0_ := am_ (blk_below (rb_ BK757.out) hb); have n1_ := am_ (below_step (b1_ HB.out GE757.out) hb); clear BK757; clear HB; have BK757 := n0_; have HB := n1_; clear n0_ n1_; (try clear hb); (try clear hb2); (try clear hk); (try clear hi); have hcz23_0 : w22.cell? ⟨gb757, 0, none⟩ = some (.slice A0_0 l0_0.length c0_0) := (blk_cell BK757.out 0).trans rfl; have hcz23_1 : w22.cell? ⟨gb757, 1, none⟩ = some (.slice A0_1 l0_1.length c0_1) := (blk_cell BK757.out 1).trans rfl; have hfz23_0 := blk_frozen BK757.out 0; have hfz23_1 := blk_frozen BK757.out 1) | (go_at_call 101; (with_reducible refine (impl_within.calls a1 0 (wrap64 ((l0_0.length : Int) - 1)) false _ A6.out).mono ?_); rintro e w' ⟨rfl, ⟨nd, rfl⟩⟩))
   go_ret2
   exact ⟨by first | rfl | (simp [errW_none, errW_some] <;> rfl) | (simp [*, errW_none, errW_some] <;> rfl), by exact zp40_0_ HB.out GE757.out⟩
 ·replace c5 := Bool.eq_false_iff.mpr c5
  subst c5
  have H1 : (some (0, false)) = some (r1, r2) := by rw [if_neg (show ¬ (false = true) by decide)] at H; exact H
  clear H
  have H := H1
  clear H1
  simp only [Option.some.injEq, Prod.mk.injEq] at H
  obtain ⟨rfl, rfl⟩ := H
  go_enter Try.func42, Try.ntmps42
  go_wp2_with (first | ((with_reducible refine gate_dst (N := 3) rfl ?_); (try (refine gate_guard (by rfl) ?_; dsimp only)); refine box_event ?hg (N := 3) ?hd (cs := #[.slice A0_0 l0_0.length c0_0, .slice A0_1 l0_1.length c0_1]) (t := 27) ?hr ?_; (case hd => rfl); (case hg => rfl); (case hr => first | (go_simp; done) | (go_simp; rfl)); intro gb757 hg w24 hbox hb; replace BK757 := am_ (hbox); replace GW757 := am_ ((by rw [hg]; exact (below_size (b0_ HB.out)) : w.heap.size ≤ gb757)); replace GE757 := am_ ((by rw [hg]; exact (below_size (b0_ HB.out)) : w.heap.size ≤ gb757)); replace HB := am_ (below_step (b0_ HB.out) hb); clear hb hbox hg; have hcz25_0 : w24.cell? ⟨gb757, 0, none⟩ = some (.slice A0_0 l0_0.length c0_0) := (blk_cell BK757.out 0).trans rfl; have hcz25_1 : w24.cell? ⟨gb757, 1, none⟩ = some (.slice A0_1 l0_1.length c0_1) := (blk_cell BK757.out 1).trans rfl; have hfz25_0 := blk_frozen BK757.out 0; have hfz25_1 := blk_frozen BK757.out 1) | ((with_reducible refine gate_callee (f := 39) rfl ?_); refine gL_ (some 9) Try.func39 #[.agg #[.slice A0_0 l0_0.length c0_0, .slice A0_1 l0_1.length c0_1]] ?_; (with_reducible refine (impl_IsValidDfa.calls _ _ l0_0 _ _ l0_1 false _ ?side1 ?side2 ?side3 ?side4 A4.out).mono ?_); (case side1 => exact rc_ (Kd.C_below HR0_0.out HB.out)); (case side2 => exact HC0_0.out); (case side3 => exact rc_ (Kd.C_below HR0_1.out HB.out)); (case side4 => exact HC0_1.out); rintro e w26 ⟨rfl, hb⟩; refine ⟨_, rfl, ?_⟩; have n0_ := am_ (blk_below (rb_ BK757.out) hb); have n1_ := am_ (below_step (b1_ HB.out GE757.out) hb); clear BK757; clear HB; have BK757 := n0_; have HB := n1_; clear n0_ n1_; (try clear hb); (try clear hb2); (try clear hk); (try clear hi)))
  go_ret2
  exact ⟨by first | rfl | (simp [errW_none, errW_some] <;> rfl) | (simp [*, errW_none, errW_some] <;> rfl), by exact zp40_0_ HB.out GE757.out⟩
def impl_AcceptsWord.f (k : Nat) (l0_0 : List Bool) (l0_1 : List (List Int)) (a1 : ByteArray) : Option (Bool) := (impl_RunDfa.f k l0_0 l0_1 0 a1).bind fun bt763 => (if bt763.2 = true then (if 0 ≤ bt763.1 then (if bt763.1 < (l0_0.length : Int) then (some (rdOf false l0_0 bt763.1)) else (none)) else (none)) else (some false))
theorem impl_AcceptsWord.mono : ∀ a0 a1 a2 k, LeO (impl_AcceptsWord.f k a0 a1 a2) (impl_AcceptsWord.f (k + 1) a0 a1 a2) := by
  intro a0 a1 a2 k
  unfold impl_AcceptsWord.f
  repeat' first
      | (with_reducible exact impl_RunDfa.mono _ _ _ _ _)
      | (with_reducible exact LeO.refl _)
      | (with_reducible exact LeO.none _)
      | (with_reducible refine LeO.ite ?_ ?_)
      | (with_reducible refine LeO.bind ?_ (fun _ => ?_))
      | exact impl_RunDfa.mono _ _ _ _ _
      | exact LeO.none _
      | refine LeO.ite ?_ ?_
      | refine LeO.bind ?_ (fun _ => ?_)
set_option maxHeartbeats 8000000 in
set_option maxRecDepth 100000 in
theorem impl_AcceptsWord.calls (k : Nat) (A0_0 : Option Addr) (c0_0 : Nat) (l0_0 : List Bool) (A0_1 : Option Addr) (c0_1 : Nat) (l0_1 : List (List Int)) (a1 : ByteArray) (r : Bool) (w : World) (hr0_0 : Kd.C Kd.bool w A0_0 l0_0.length l0_0) (hc0_0 : l0_0.length ≤ c0_0) (hr0_1 : Kd.C (Kd.slice 3 (Kd.int .i64)) w A0_1 l0_1.length l0_1) (hc0_1 : l0_1.length ≤ c0_1) (h : impl_AcceptsWord.f k l0_0 l0_1 a1 = some r) :
    Calls Try.prog 34 #[.agg #[.slice A0_0 l0_0.length c0_0, .slice A0_1 l0_1.length c0_1], .string a1] w fun e w' => e = .returned (.bool r) ∧ Below w.heap.size w w' := by
  have hu27 := Try.underlying27
  have HR0_0 := am_ hr0_0
  have HC0_0 := am_ hc0_0
  clear hr0_0 hc0_0
  have HR0_1 := am_ hr0_1
  have HC0_1 := am_ hc0_1
  clear hr0_1 hc0_1
  have HB := am_ (Below.refl w.heap.size w)
  have H : ((impl_RunDfa.f k l0_0 l0_1 0 a1).bind fun bt763 => (if bt763.2 = true then (if 0 ≤ bt763.1 then (if bt763.1 < (l0_0.length : Int) then (some (rdOf false l0_0 bt763.1)) else (none)) else (none)) else (some false))) = some r := h
  clear h
  replace H := Option.bind_eq_some_iff.mp H
  obtain ⟨⟨t763, t764⟩, A30, H⟩ := H
  have A3 := am_ A30
  clear A30
  by_cases c4 : t764 = true
  · subst c4
    have H1 : (if 0 ≤ t763 then (if t763 < (l0_0.length : Int) then (some (rdOf false l0_0 t763)) else (none)) else (none)) = some r := by rw [if_pos rfl] at H; exact H
    clear H
    have H := H1
    clear H1
    by_cases c5 : 0 ≤ t763
    · rw [if_pos c5] at H
      have c5b0 : decide (0 ≤ t763) = true := decide_eq_true c5
      clear c5
      by_cases c6 : t763 < (l0_0.length : Int)
      · rw [if_pos c6] at H
        have c6b0 : decide (t763 < (l0_0.length : Int)) = true := decide_eq_true c6
        clear c6
        obtain rfl := Option.some.inj H
        simp only [Option.some.injEq, Prod.mk.injEq] at H
        obtain ⟨rfl⟩ := H
        go_enter Try.func34, Try.ntmps34
        go_wp2_with (first | ((with_reducible refine gate_dst (N := 2) rfl ?_); refine box_event ?hg (N := 2) ?hd (cs := #[.slice A0_0 l0_0.length c0_0, .slice A0_1 l0_1.length c0_1]) (t := 27) ?hr ?_; (case hd => rfl); (case hg => rfl); (case hr => first | (go_simp; done) | (go_simp; rfl)); intro gb762 hg w7 hbox hb; replace BK762 := am_ (hbox); replace GW762 := am_ ((by rw [hg]; exact (below_size (b0_ HB.out)) : w.heap.size ≤ gb762)); replace GE762 := am_ ((by rw [hg]; exact (below_size (b0_ HB.out)) : w.heap.size ≤ gb762)); replace HB := am_ (below_step (b0_ HB.out) hb); clear hb hbox hg; have hcz8_0 : w7.cell? ⟨gb762, 0, none⟩ = some (.slice A0_0 l0_0.length c0_0) := (blk_cell BK762.out 0).trans rfl; have hcz8_1 : w7.cell? ⟨gb762, 1, none⟩ = some (.slice A0_1 l0_1.length c0_1) := (blk_cell BK762.out 1).trans rfl; have hfz8_0 := blk_frozen BK762.out 0; have hfz8_1 := blk_frozen BK762.out 1) | ((with_reducible refine gate_callee (f := 42) rfl ?_); refine gL_ (some 10) Try.func42 #[.agg #[.slice A0_0 l0_0.length c0_0, .slice A0_1 l0_1.length c0_1], .int .i64 0, .string a1] ?_; (with_reducible refine (impl_RunDfa.calls k _ _ l0_0 _ _ l0_1 0 a1 t763 true _ ?side1 ?side2 ?side3 ?side4 A3.out).mono ?_); (case side1 => exact rc_ (Kd.C_below HR0_0.out HB.out)); (case side2 => exact HC0_0.out); (case side3 => exact rc_ (Kd.C_below HR0_1.out HB.out)); (case side4 => exact HC0_1.out); rintro e w9 ⟨rfl, hb⟩; refine ⟨_, rfl, ?_⟩; have n0_ := am_ (blk_below (rb_ BK762.out) hb); have n1_ := am_ (below_step (b1_ HB.out GE762.out) hb); clear BK762; clear HB; have BK762 := n0_; have HB := n1_; clear n0_ n1_; (try clear hb); (try clear hb2); (try clear hk); (try clear hi); have hcz10_0 : w9.cell? ⟨gb762, 0, none⟩ = some (.slice A0_0 l0_0.length c0_0) := (blk_cell BK762.out 0).trans rfl; have hcz10_1 : w9.cell? ⟨gb762, 1, none⟩ = some (.slice A0_1 l0_1.length c0_1) := (blk_cell BK762.out 1).trans rfl; have hfz10_0 := blk_frozen BK762.out 0; have hfz10_1 := blk_frozen BK762.out 1; have p765 : 0 ≤ (t763 : Int) := of_decide_eq_true ah_; have q765 : t763 < (l0_0.length : Int) := of_decide_eq_true ah_; obtain ⟨ad765, e765, hx765_0⟩ := Kd.at_bool HR0_0.out t763 p765 q765; cases e765; replace hx765_0 := (HB.out.cell (World.block_lt_of_cell? w _ hx765_0)).trans hx765_0; replace p765 := eq_true p765; replace q765 := eq_true q765))
        go_ret
        exact ⟨by first | rfl | (simp [errW_none, errW_some] <;> rfl) | (simp [*, errW_none, errW_some] <;> rfl), by exact zp40_0_ HB.out GE762.out⟩
      · rw [if_neg c6] at H
        exact absurd H (by simp)
    · rw [if_neg c5] at H
      exact absurd H (by simp)
  · replace c4 := Bool.eq_false_iff.mpr c4
    subst c4
    have H1 : (some false) = some r := by rw [if_neg (show ¬ (false = true) by decide)] at H; exact H
    clear H
    have H := H1
    clear H1
    obtain rfl := Option.some.inj H
    simp only [Option.some.injEq, Prod.mk.injEq] at H
    obtain ⟨rfl⟩ := H
    go_enter Try.func34, Try.ntmps34
    go_wp2_with (first | ((with_reducible refine gate_dst (N := 2) rfl ?_); refine box_event ?hg (N := 2) ?hd (cs := #[.slice A0_0 l0_0.length c0_0, .slice A0_1 l0_1.length c0_1]) (t := 27) ?hr ?_; (case hd => rfl); (case hg => rfl); (case hr => first | (go_simp; done) | (go_simp; rfl)); intro gb762 hg w11 hbox hb; replace BK762 := am_ (hbox); replace GW762 := am_ ((by rw [hg]; exact (below_size (b0_ HB.out)) : w.heap.size ≤ gb762)); replace GE762 := am_ ((by rw [hg]; exact (below_size (b0_ HB.out)) : w.heap.size ≤ gb762)); replace HB := am_ (below_step (b0_ HB.out) hb); clear hb hbox hg; have hcz12_0 : w11.cell? ⟨gb762, 0, none⟩ = some (.slice A0_0 l0_0.length c0_0) := (blk_cell BK762.out 0).trans rfl; have hcz12_1 : w11.cell? ⟨gb762, 1, none⟩ = some (.slice A0_1 l0_1.length c0_1) := (blk_cell BK762.out 1).trans rfl; have hfz12_0 := blk_frozen BK762.out 0; have hfz12_1 := blk_frozen BK762.out 1) | ((with_reducible refine gate_callee (f := 42) rfl ?_); refine gL_ (some 10) Try.func42 #[.agg #[.slice A0_0 l0_0.length c0_0, .slice A0_1 l0_1.length c0_1], .int .i64 0, .string a1] ?_; (with_reducible refine (impl_RunDfa.calls k _ _ l0_0 _ _ l0_1 0 a1 t763 false _ ?side1 ?side2 ?side3 ?side4 A3.out).mono ?_); (case side1 => exact rc_ (Kd.C_below HR0_0.out HB.out)); (case side2 => exact HC0_0.out); (case side3 => exact rc_ (Kd.C_below HR0_1.out HB.out)); (case side4 => exact HC0_1.out); rintro e w13 ⟨rfl, hb⟩; refine ⟨_, rfl, ?_⟩; have n0_ := am_ (blk_below (rb_ BK762.out) hb); have n1_ := am_ (below_step (b1_ HB.out GE762.out) hb); clear BK762; clear HB; have BK762 := n0_; have HB := n1_; clear n0_ n1_; (try clear hb); (try clear hb2); (try clear hk); (try clear hi)))
    go_ret
    exact ⟨by first | rfl | (simp [errW_none, errW_some] <;> rfl) | (simp [*, errW_none, errW_some] <;> rfl), by exact zp40_0_ HB.out GE762.out⟩
end Go.Proofs.Ytogamkblkoobkaa.P
end
section
namespace Go.Proofs.Ytogamkblkoobkaa.P
open Go.RowKit Go.Proofs.YtogamkblkoobkaaW.PrintWords Go.Proofs.YtogamkblkoobkaaW.PrintLast Go.Proofs.YtogamkblkoobkaaW.PrintMore
attribute [local go_sem] max2_int min2_int max_two min_two max_three min_three max_four min_four
set_option linter.unusedVariables false
set_option linter.unusedSimpArgs false
end Go.Proofs.Ytogamkblkoobkaa.P
end
section
namespace Go.Proofs.Ytogamkblkoobkaa.Pl
open Go.RowKit Go.Proofs.Ytogamkblkoobkaa.P Go.Proofs.YtogamkblkoobkaaW.PrintWords Go.Proofs.YtogamkblkoobkaaW.PrintLast Go.Proofs.YtogamkblkoobkaaW.PrintMore Wk
set_option linter.unusedVariables false
set_option linter.unusedSimpArgs false
def runD (nxt : List (List Int)) (q : Int) (l : List Int) : Int := l.foldl (fun q b => rd (rd_L1 nxt q) (letIdx b)) q
theorem lets_cons {b : Int} {l : List Int} : lets (b :: l) = true ↔ 0 ≤ letIdx b ∧ lets l = true := by simp [lets]
theorem impl_run_l0 (acc : List Bool) (nxt : List (List Int)) (hv : validD acc nxt = true) (s : ByteArray) (hs : s.size ≤ 140737488351232) : ∀ (d i : Nat) (q : Int), i + d = s.size → lets ((bytesOf s).drop i) = true → 0 ≤ q → q < (acc.length : Int) → Ev (fun k => impl_after.l0 k q s i acc nxt) (runD nxt q ((bytesOf s).drop i)) := by
  have hl := (valid_facts hv).2.2.1
  intro d
  induction d with
  | zero =>
    intro i q h hw h0 h1
    refine next ?_
    simp only [impl_after.l0, if_neg (show ¬ (i : Int) < (s.size : Int) by omega), drop_end s i (by omega)]
    exact Ev.now _
  | succ d ih =>
    intro i q h hw h0 h1
    rw [drop_cons s i (by omega)] at hw ⊢
    have hb := lets_cons.mp hw
    have hlr := letIdx_range (bt s i)
    have hn := next_range hv q h0 h1 (letIdx (bt s i)) hb.1 (by omega)
    refine next ?_
    simp only [impl_after.l0, if_pos (show (i : Int) < (s.size : Int) by omega), if_pos h0, if_pos (show q < (nxt.length : Int) by omega), if_pos (show (0 : Int) ≤ i by omega), impl_letter (bt_range s i).1 (bt_range s i).2, Option.bind_some, if_pos hb.1, hn.1, if_pos (show letIdx (bt s i) < ((3 : Nat) : Int) by omega), up1 (show i < 9223372036854775807 by omega)]
    exact ih (i + 1) _ (by omega) hb.2 hn.2.1 hn.2.2
def runOf (acc : List Bool) (nxt : List (List Int)) (q : Int) (s : ByteArray) : Int × Bool :=
  if validD acc nxt = true ∧ 0 ≤ q ∧ q ≤ (acc.length : Int) - 1 ∧ word s = true then (runD nxt q (bytesOf s), true) else (0, false)
theorem impl_run (acc : List Bool) (nxt : List (List Int)) (q : Int) (ha : acc.length ≤ 1048576) (s : ByteArray) (hs : s.size ≤ 140737488351232) : Ev (fun k => impl_RunDfa.f k acc nxt q s) (runOf acc nxt q s) := by
  have hw : wrap64 ((acc.length : Int) - 1) = (acc.length : Int) - 1 := w64 (by omega) (by omega)
  simp only [impl_RunDfa.f, impl_IsValidDfa.f, hw, impl_in, Option.bind_some, runOf]
  by_cases hv : validD acc nxt = true
  · simp only [hv, if_true, true_and]
    by_cases hq : 0 ≤ q ∧ q ≤ (acc.length : Int) - 1
    · simp only [decide_eq_true hq.1, decide_eq_true hq.2, Bool.true_and, if_true, hq.1, hq.2, true_and]
      refine Ev.bind (impl_word s hs) ?_
      by_cases hwd : word s = true
      · simp only [hwd, if_true]
        refine Ev.bind (impl_run_l0 acc nxt hv s hs s.size 0 q (by omega) ?_ hq.1 (by omega)) (Ev.now _)
        simp only [word, Bool.and_eq_true] at hwd
        exact hwd.1
      · simp only [eq_false_of_ne_true hwd, Bool.false_ne_true, if_false]
        exact Ev.now _
    · have e : (decide (0 ≤ q) && decide (q ≤ (acc.length : Int) - 1)) = false := by
        by_cases h1 : 0 ≤ q
        · rw [decide_eq_false (show ¬ q ≤ (acc.length : Int) - 1 by omega), Bool.and_false]
        · rw [decide_eq_false h1, Bool.false_and]
      simp only [e, Bool.false_ne_true, if_false]
      rw [if_neg (by rintro ⟨h1, h2, _⟩; exact hq ⟨h1, h2⟩)]
      exact Ev.now _
  · simp only [hv, if_false, false_and]
    exact Ev.now _
theorem runD_range {acc : List Bool} {nxt : List (List Int)} (hv : validD acc nxt = true) : ∀ (l : List Int) (q : Int), lets l = true → 0 ≤ q → q < (acc.length : Int) → 0 ≤ runD nxt q l ∧ runD nxt q l < (acc.length : Int) := by
  intro l
  induction l with
  | nil => intro q _ h0 h1; exact ⟨h0, h1⟩
  | cons b l ih =>
    intro q hw h0 h1
    have hb := lets_cons.mp hw
    have hlr := letIdx_range b
    have hn := next_range hv q h0 h1 (letIdx b) hb.1 (by omega)
    exact ih _ hb.2 hn.2.1 hn.2.2
def accOf (acc : List Bool) (nxt : List (List Int)) (s : ByteArray) : Bool := validD acc nxt && word s && rdOf false acc (runD nxt 0 (bytesOf s))
theorem runOf_zero (acc : List Bool) (nxt : List (List Int)) (s : ByteArray) : (runOf acc nxt 0 s).2 = (validD acc nxt && word s) ∧ ((runOf acc nxt 0 s).2 = true → (runOf acc nxt 0 s).1 = runD nxt 0 (bytesOf s) ∧ 0 ≤ runD nxt 0 (bytesOf s) ∧ runD nxt 0 (bytesOf s) < (acc.length : Int)) := by
  unfold runOf
  by_cases hv : validD acc nxt = true
  · have hf := valid_facts hv
    by_cases hwd : word s = true
    · rw [if_pos ⟨hv, by omega, by omega, hwd⟩]
      simp only [word, Bool.and_eq_true] at hwd
      exact ⟨by simp [hv, word, hwd.1, hwd.2], fun _ => ⟨rfl, runD_range hv _ 0 hwd.1 (by omega) (by omega)⟩⟩
    · rw [if_neg (by rintro ⟨_, _, _, h⟩; exact hwd h)]
      exact ⟨by simp [hwd], fun h => by cases h⟩
  · rw [if_neg (by rintro ⟨h, _⟩; exact hv h)]
    exact ⟨by simp [hv], fun h => by cases h⟩
theorem impl_acc (acc : List Bool) (nxt : List (List Int)) (ha : acc.length ≤ 1048576) (s : ByteArray) (hs : s.size ≤ 140737488351232) : Ev (fun k => impl_AcceptsWord.f k acc nxt s) (accOf acc nxt s) := by
  simp only [impl_AcceptsWord.f]
  refine Ev.bind (impl_run acc nxt 0 ha s hs) ?_
  obtain ⟨h1, h2⟩ := runOf_zero acc nxt s
  by_cases h : (runOf acc nxt 0 s).2 = true
  · obtain ⟨e, r0, r1⟩ := h2 h
    rw [h] at h1
    simp only [h, if_true, e, if_pos r0, if_pos r1]
    exact ev_some (by unfold accOf; rw [← h1, Bool.true_and])
  · simp only [eq_false_of_ne_true h, Bool.false_ne_true, if_false]
    rw [eq_false_of_ne_true h] at h1
    exact ev_some (by unfold accOf; rw [← h1, Bool.false_and])
end Go.Proofs.Ytogamkblkoobkaa.Pl
end
section
namespace Go.Proofs.Ytogamkblkoobkaa.Bf
open Go.RowKit Go.Proofs.Ytogamkblkoobkaa.Pl Go.Proofs.Ytogamkblkoobkaa.Mp Go.Proofs.YtogamkblkoobkaaW.PrintWords Go.Proofs.YtogamkblkoobkaaW.PrintLast Go.Proofs.YtogamkblkoobkaaW.PrintMore
set_option linter.unusedVariables false
set_option linter.unusedSimpArgs false
set_option linter.unusedSectionVars false
section
variable {α : Type} [DecidableEq α] {nx : α → Nat → α} {x0 : α} {dom : α → Prop} {N : Nat} {good : α → Bool}
def goR (nx : α → Nat → α) (x : α) (bs : List Int) : α := bs.foldl (fun x b => nx x (letIdx b).toNat) x
theorem bytes_append (a b : ByteArray) : bytesOf (a ++ b) = bytesOf a ++ bytesOf b := by
  simp [bytesOf, ByteArray.append]
theorem bytes_pc (j : Nat) (h : j < 3) : ∃ b, bytesOf (pc j) = [b] ∧ letIdx b = (j : Int) := by
  match j, h with
  | 0, _ => exact ⟨97, rfl, rfl⟩
  | 1, _ => exact ⟨98, rfl, rfl⟩
  | 2, _ => exact ⟨99, rfl, rfl⟩
def Leads (nx : α → Nat → α) (x0 : α) (p : St α) : Prop := p.2.length = p.1.length ∧ ∀ j (hj : j < p.1.length), goR nx x0 (bytesOf (p.2.getD j ByteArray.empty)) = p.1[j] ∧ lets (bytesOf (p.2.getD j ByteArray.empty)) = true
theorem leads_put {p : St α} (h : Leads nx x0 p) {y : α} {wd : ByteArray} (hw : goR nx x0 (bytesOf wd) = y ∧ lets (bytesOf wd) = true) : Leads nx x0 (put y wd p) := by
  unfold put
  split
  · exact h
  · obtain ⟨h1, h2⟩ := h
    refine ⟨by simp [h1], fun j hj => ?_⟩
    by_cases hj2 : j < p.1.length
    · have := h2 j hj2
      rw [List.getElem_append_left hj2]
      rw [List.getD_eq_getElem?_getD] at this ⊢
      rw [List.getElem?_append_left (by omega)]
      exact this
    · have e : j = p.1.length := by simp at hj; omega
      subst e
      rw [List.getElem_append_right (by omega), List.getD_eq_getElem?_getD, List.getElem?_append_right (by omega), h1]
      simpa using hw
theorem leads_ex {x : α} {wd : ByteArray} (hw : goR nx x0 (bytesOf wd) = x ∧ lets (bytesOf wd) = true) : ∀ (d j : Nat) (p : St α), j + d ≤ 3 → Leads nx x0 p → Leads nx x0 (ex nx x wd d j p)
  | 0, j, p, _, h => h
  | d + 1, j, p, hj, h => by
    rw [ex]
    refine leads_ex hw d (j + 1) _ (by omega) (leads_put h ?_)
    obtain ⟨b, hb, hl⟩ := bytes_pc j (by omega)
    rw [bytes_append, hb]
    constructor
    · unfold goR at hw ⊢
      rw [List.foldl_append, hw.1]
      simp [hl]
    · unfold lets at hw ⊢
      rw [List.all_append, hw.2]
      simp [hl]
theorem ex_le (x : α) (wd : ByteArray) : ∀ (d j : Nat) (p : St α), p.1 <+: (ex nx x wd d j p).1
  | 0, j, p => List.prefix_refl _
  | d + 1, j, p => by
    rw [ex]
    refine List.IsPrefix.trans ?_ (ex_le x wd d (j + 1) _)
    unfold put
    split
    · exact List.prefix_refl _
    · exact List.prefix_append _ _
theorem put_mem (y : α) (wd : ByteArray) (p : St α) : y ∈ (put y wd p).1 := by
  unfold put
  split
  · assumption
  · simp
theorem ex_mem (x : α) (wd : ByteArray) : ∀ (d j : Nat) (p : St α) (k : Nat), j ≤ k → k < j + d → nx x k ∈ (ex nx x wd d j p).1
  | 0, j, p, k, h, h2 => by omega
  | d + 1, j, p, k, h, h2 => by
    rw [ex]
    by_cases e : k = j
    · subst e
      exact (ex_le x wd d (k + 1) _).subset (put_mem _ _ _)
    · exact ex_mem x wd d (j + 1) _ k (by omega) (by omega)
theorem bfs_true (hdn : ∀ x j, dom x → j < 3 → dom (nx x j)) : ∀ (d : Nat) (p : St α) (i : Nat) (s : ByteArray), Fit dom N p → Leads nx x0 p → bfs good nx d p i = (s, true) → good (goR nx x0 (bytesOf s)) = true ∧ lets (bytesOf s) = true ∧ s.size < N
  | 0, p, i, s, _, _, h => by simp [bfs] at h
  | d + 1, p, i, s, hf, hl, h => by
    rw [bfs] at h
    by_cases hi : i < p.1.length
    · rw [dif_pos hi] at h
      obtain ⟨h1, h2⟩ := hl.2 i hi
      by_cases hg : good p.1[i] = true
      · rw [if_pos hg] at h
        have e : p.2.getD i ByteArray.empty = s := congrArg Prod.fst h
        have h3 := hf.size i
        have h4 := hf.le
        rw [e] at h1 h2 h3
        rw [h1]
        exact ⟨hg, h2, by omega⟩
      · rw [if_neg hg] at h
        have hsz := hf.size i
        obtain ⟨hf2, _⟩ := fit_ex (nx := nx) (hf.all _ (List.getElem_mem hi)) hdn (wd := p.2.getD i ByteArray.empty) 3 0 p (by omega) hf (by omega)
        exact bfs_true hdn d _ (i + 1) s hf2 (leads_ex ⟨h1, h2⟩ 3 0 p (by omega) hl) h
    · rw [dif_neg hi] at h
      cases h
theorem bfs_false (hdn : ∀ x j, dom x → j < 3 → dom (nx x j)) : ∀ (d : Nat) (p : St α) (i : Nat) (s : ByteArray), Fit dom N p → i ≤ p.1.length → N + 2 ≤ d + i → x0 ∈ p.1 → (∀ j (hj : j < p.1.length), j < i → good p.1[j] = false ∧ ∀ k, k < 3 → nx p.1[j] k ∈ p.1) →
    bfs good nx d p i = (s, false) → ∃ R : List α, x0 ∈ R ∧ ∀ x ∈ R, good x = false ∧ ∀ k, k < 3 → nx x k ∈ R
  | 0, p, i, s, hf, hi, hd, _, _, _ => by have := hf.le; omega
  | d + 1, p, i, s, hf, hi, hd, hx, hc, h => by
    rw [bfs] at h
    by_cases hi2 : i < p.1.length
    · rw [dif_pos hi2] at h
      by_cases hg : good p.1[i] = true
      · rw [if_pos hg] at h
        cases h
      · rw [if_neg hg] at h
        have hsz := hf.size i
        obtain ⟨hf2, hle⟩ := fit_ex (nx := nx) (hf.all _ (List.getElem_mem hi2)) hdn (wd := p.2.getD i ByteArray.empty) 3 0 p (by omega) hf (by omega)
        have hpre := ex_le (nx := nx) p.1[i] (p.2.getD i ByteArray.empty) 3 0 p
        refine bfs_false hdn d _ (i + 1) s hf2 (by omega) (by omega) (hpre.subset hx) (fun j hj hji => ?_) h
        have hj2 : j < p.1.length := by omega
        have e := hpre.getElem hj2
        rw [← e]
        by_cases e2 : j = i
        · subst e2
          exact ⟨by simpa using hg, fun k hk => ex_mem _ _ 3 0 p k (by omega) (by omega)⟩
        · obtain ⟨h1, h2⟩ := hc j hj2 (by omega)
          exact ⟨h1, fun k hk => hpre.subset (h2 k hk)⟩
    · refine ⟨p.1, hx, fun x hxm => ?_⟩
      obtain ⟨j, hj, rfl⟩ := List.mem_iff_getElem.mp hxm
      exact hc j hj (by omega)
theorem leads0 (x : α) : Leads nx x ([x], [(⟨#[]⟩ : ByteArray)]) := by
  refine ⟨rfl, fun j hj => ?_⟩
  have e : j = 0 := by simp at hj; omega
  subst e
  exact ⟨rfl, rfl⟩
end
end Go.Proofs.Ytogamkblkoobkaa.Bf
end
section
namespace Go.Proofs.Ytogamkblkoobkaa.Can
open Go.RowKit Go.Proofs.Ytogamkblkoobkaa Go.Proofs.Ytogamkblkoobkaa.P Go.Proofs.Ytogamkblkoobkaa.Wk Go.Proofs.Ytogamkblkoobkaa.Lg Go.Proofs.Ytogamkblkoobkaa.Pl Go.Proofs.Ytogamkblkoobkaa.Mp Go.Proofs.Ytogamkblkoobkaa.Bf Go.Proofs.Ytogamkblkoobkaa.Mn Go.Proofs.YtogamkblkoobkaaW.PrintWords Go.Proofs.YtogamkblkoobkaaW.PrintLast Go.Proofs.YtogamkblkoobkaaW.PrintMore
set_option linter.unusedVariables false
set_option linter.unusedSimpArgs false
set_option linter.unusedSectionVars false
def Rows3 (n : Nat) (nx : List (List Int)) : Prop := nx.length = n ∧ ∀ r ∈ nx, r.length = 3 ∧ ∀ q ∈ r, 0 ≤ q ∧ q < (n : Int)
theorem fits_rows {acc : List Bool} {nx : List (List Int)} (h : Rows3 acc.length nx) : Fits acc nx := by
  refine ⟨h.1, fun q hq => ?_⟩
  have hlt : q.toNat < nx.length := by have := h.1; omega
  unfold rowOf
  rw [List.getD_eq_getElem?_getD, List.getElem?_eq_getElem hlt]
  exact h.2 _ (List.getElem_mem hlt)
theorem outL_rows {L : Lan} {R : List Lan} (hR : Runs lsucc [L] 0 R) : Rows3 (outL R).1.length (outL R).2 := by
  have hcl := hR.closed (fun j _ hj => by omega)
  have hlen : (outL R).1.length = R.length := by simp [outL]
  refine ⟨by simp [outL], fun r hr => ?_⟩
  obtain ⟨X, hX, rfl⟩ := List.mem_map.mp hr
  refine ⟨by simp [lsucc], fun q hq => ?_⟩
  obtain ⟨Y, hY, rfl⟩ := List.mem_map.mp hq
  have := List.idxOf_lt_length_of_mem (hcl X hX Y hY)
  rw [hlen]
  omega
theorem outL_run {L : Lan} {R : List Lan} (hR : Runs lsucc [L] 0 R) : ∀ (w : List (Fin 3)) (i : Nat) (hi : i < R.length), run (outL R).1 (outL R).2 w (i : Int) = R[i] w := by
  have hcl := hR.closed (fun j _ hj => by omega)
  intro w
  induction w with
  | nil =>
    intro i hi
    show rdOf false (R.map eps) (i : Int) = _
    rw [rdOf_get false _ i (by simpa using hi), List.getElem_map]
    rfl
  | cons k w ih =>
    intro i hi
    show run _ _ w (rd (rowOf (outL R).2 (i : Int)) (k.val : Int)) = _
    have hrow : rowOf (outL R).2 (i : Int) = (lsucc R[i]).map (fun Y => (R.idxOf Y : Int)) := by
      unfold rowOf outL
      rw [Int.toNat_natCast, List.getD_eq_getElem?_getD, List.getElem?_eq_getElem (by simpa using hi), Option.getD_some, List.getElem_map]
    have hk : rd ((lsucc R[i]).map (fun Y => (R.idxOf Y : Int))) (k.val : Int) = (R.idxOf (der R[i] k) : Int) := by
      match k with
      | 0 => rfl
      | 1 => rfl
      | 2 => rfl
    have hm : der R[i] k ∈ R := by
      refine hcl _ (List.getElem_mem hi) _ ?_
      match k with
      | 0 => simp [lsucc]
      | 1 => simp [lsucc]
      | 2 => simp [lsucc]
    rw [hrow, hk, ih _ (List.idxOf_lt_length_of_mem hm), List.getElem_idxOf (List.idxOf_lt_length_of_mem hm)]
    rfl
theorem IsCan.facts {L : Lan} {out : List Bool × List (List Int)} (h : IsCan L out) : 1 ≤ out.1.length ∧ Rows3 out.1.length out.2 ∧ lang out.1 out.2 0 = L := by
  obtain ⟨R, hR, rfl⟩ := h
  obtain ⟨t, rfl⟩ := hR.pre
  refine ⟨by simp [outL], outL_rows hR, funext fun w => ?_⟩
  exact outL_run hR w 0 (by simp)
theorem valid_of {acc : List Bool} {nx : List (List Int)} (h1 : 1 ≤ acc.length) (h2 : acc.length ≤ 40) (h3 : Rows3 acc.length nx) : validD acc nx = true := by
  unfold validD
  rw [decide_eq_true h1, decide_eq_true h2, decide_eq_true h3.1, Bool.and_self, Bool.and_self, Bool.true_and, Bool.not_eq_true', List.any_eq_false]
  intro r hr
  obtain ⟨h4, h5⟩ := h3.2 r hr
  unfold badRow
  rw [Bool.not_eq_true, Bool.or_eq_false_iff]
  refine ⟨decide_eq_false (by omega), ?_⟩
  rw [List.any_eq_false]
  intro q hq
  obtain ⟨h6, h7⟩ := h5 q hq
  unfold badState
  rw [decide_eq_true h6, decide_eq_true (show q ≤ (acc.length : Int) - 1 by omega)]
  decide
section
variable {a b : List Bool} {n m : List (List Int)}
theorem pair_dom (hv : validD a n = true) (hw : validD b m = true) : ∀ (x : Pr) (j : Nat), ((0 ≤ x.1 ∧ x.1 < (a.length : Int)) ∧ 0 ≤ x.2 ∧ x.2 < (b.length : Int)) → j < 3 → ((0 ≤ (nxP n m x j).1 ∧ (nxP n m x j).1 < (a.length : Int)) ∧ 0 ≤ (nxP n m x j).2 ∧ (nxP n m x j).2 < (b.length : Int)) := by
  intro x j hx hj
  have f1 := (fits_valid hv).row x.1 hx.1
  have f2 := (fits_valid hw).row x.2 hx.2
  refine ⟨f1.2 _ ?_, f2.2 _ ?_⟩
  · show rd (rowOf n x.1) (j : Int) ∈ rowOf n x.1
    rw [rd_get _ j (by omega)]
    exact List.getElem_mem _
  · show rd (rowOf m x.2) (j : Int) ∈ rowOf m x.2
    rw [rd_get _ j (by omega)]
    exact List.getElem_mem _
theorem pair_fit (hv : validD a n = true) (hw : validD b m = true) : Bf.Fit (fun x : Pr => (0 ≤ x.1 ∧ x.1 < (a.length : Int)) ∧ 0 ≤ x.2 ∧ x.2 < (b.length : Int)) (a.length * b.length) ([((0 : Int), (0 : Int))], [(⟨#[]⟩ : ByteArray)]) := by
  obtain ⟨h1, _⟩ := validD_facts hv
  obtain ⟨g1, _⟩ := validD_facts hw
  exact fit0 ⟨⟨by omega, by omega⟩, by omega, by omega⟩ (fun s hn hs => card_pairs a.length b.length s hn hs)
theorem goR_pair : ∀ (l : List Int) (x : Pr), lets l = true → goR (nxP n m) x l = (runD n x.1 l, runD m x.2 l)
  | [], x, _ => rfl
  | c :: l, x, h => by
    rw [lets_cons] at h
    have e : letIdx c = ((letIdx c).toNat : Int) := by omega
    show goR (nxP n m) (nxP n m x (letIdx c).toNat) l = _
    rw [goR_pair l _ h.2]
    have e1 : (nxP n m x (letIdx c).toNat).1 = rd (rd_L1 n x.1) (letIdx c) := by
      conv => rhs; rw [e]
      rfl
    have e2 : (nxP n m x (letIdx c).toNat).2 = rd (rd_L1 m x.2) (letIdx c) := by
      conv => rhs; rw [e]
      rfl
    rw [e1, e2]
    rfl
theorem differ_none {good : Bool → Bool → Bool} {s : ByteArray} (hv : validD a n = true) (hw : validD b m = true) (h : fpR good a n b m = (s, false)) : ∀ w : List (Fin 3), good (lang a n 0 w) (lang b m 0 w) = false := by
  unfold fpR at h
  rw [if_pos ⟨hv, hw⟩] at h
  obtain ⟨_, h2, _, _⟩ := validD_facts hv
  obtain ⟨_, g2, _, _⟩ := validD_facts hw
  have hN : a.length * b.length ≤ 40 * 40 := Nat.mul_le_mul h2 g2
  obtain ⟨R, hx, hR⟩ := bfs_false (x0 := ((0 : Int), (0 : Int))) (pair_dom hv hw) 1602 _ 0 s (pair_fit hv hw) (by simp) (by omega) (by simp) (fun j _ hj => by omega) h
  have H : ∀ (w : List (Fin 3)) (x : Pr), x ∈ R → good (run a n w x.1) (run b m w x.2) = false := by
    intro w
    induction w with
    | nil => exact fun x hx => (hR x hx).1
    | cons k w ih => exact fun x hx => ih _ ((hR x hx).2 k.val k.isLt)
  exact fun w => H w _ hx
end
end Go.Proofs.Ytogamkblkoobkaa.Can
end
section
namespace Go.Proofs.Ytogamkblkoobkaa.Can
open Go.RowKit Go.Proofs.Ytogamkblkoobkaa Go.Proofs.Ytogamkblkoobkaa.P Go.Proofs.Ytogamkblkoobkaa.Wk Go.Proofs.Ytogamkblkoobkaa.Lg Go.Proofs.Ytogamkblkoobkaa.Pl Go.Proofs.Ytogamkblkoobkaa.Mp Go.Proofs.Ytogamkblkoobkaa.Bf Go.Proofs.Ytogamkblkoobkaa.Mn Go.Proofs.YtogamkblkoobkaaW.PrintWords Go.Proofs.YtogamkblkoobkaaW.PrintLast Go.Proofs.YtogamkblkoobkaaW.PrintMore
set_option linter.unusedVariables false
set_option linter.unusedSimpArgs false
set_option linter.unusedSectionVars false
section
variable {α : Type} [DecidableEq α] {nx : α → Nat → α} {acc : α → Bool} {most : Nat}
def tl (nx : α → Nat → α) (x : α) : Nat → Nat → List α
  | 0, _ => []
  | d + 1, j => nx x j :: tl nx x d (j + 1)
def sc (nx : α → Nat → α) (x : α) : List α := tl nx x 3 0
def num (L : List α) (y : α) : Int := (idx L y).getD 0
theorem num_eq {L : List α} {y : α} (h : y ∈ L) : num L y = (L.idxOf y : Int) := by
  unfold num idx
  rw [if_pos h]
  rfl
theorem num_pre {L R : List α} {y : α} (h : y ∈ L) (hp : L <+: R) : num R y = num L y := by
  obtain ⟨t, rfl⟩ := hp
  rw [num_eq h, num_eq (List.mem_append_left _ h), List.idxOf_append, if_pos h]
theorem num_last {L : List α} {y : α} (h : y ∉ L) : num (L ++ [y]) y = (L.length : Int) := by
  rw [num_eq (by simp), List.idxOf_append, if_neg h]
  simp
theorem exRow_some {x : α} : ∀ (d j : Nat) (L : List α) (row : List Int) (L' : List α) (row' : List Int), exRow nx most x d j L row = some (L', row') → L' = adds L (tl nx x d j) ∧ row' = row ++ (tl nx x d j).map (num L') ∧ (L.length ≤ most → L'.length ≤ most)
  | 0, j, L, row, L', row', h => by
    rw [exRow] at h
    obtain ⟨rfl, rfl⟩ := Prod.mk.inj (Option.some.inj h)
    exact ⟨rfl, by simp [tl], id⟩
  | d + 1, j, L, row, L', row', h => by
    rw [exRow] at h
    by_cases hm : nx x j ∈ L
    · rw [if_pos hm] at h
      obtain ⟨h1, h2, h3⟩ := exRow_some d (j + 1) L _ L' row' h
      refine ⟨by rw [tl, adds_cons, add_in hm]; exact h1, ?_, h3⟩
      rw [h2, tl, List.map_cons, List.append_assoc, List.singleton_append]
      have : num L' (nx x j) = num L (nx x j) := num_pre hm (by rw [h1]; exact adds_pre _ _)
      rw [this]
      rfl
    · rw [if_neg hm] at h
      by_cases ho : most < L.length + 1
      · rw [if_pos ho] at h
        cases h
      · rw [if_neg ho] at h
        obtain ⟨h1, h2, h3⟩ := exRow_some d (j + 1) _ _ L' row' h
        refine ⟨by rw [tl, adds_cons, add_out hm]; exact h1, ?_, fun _ => h3 (by simp; omega)⟩
        rw [h2, tl, List.map_cons, List.append_assoc, List.singleton_append]
        have : num L' (nx x j) = num (L ++ [nx x j]) (nx x j) := num_pre (by simp) (by rw [h1]; exact adds_pre _ _)
        rw [this, num_last hm]
theorem exRow_none {x : α} : ∀ (d j : Nat) (L : List α) (row : List Int), exRow nx most x d j L row = none → most < (adds L (tl nx x d j)).length
  | 0, j, L, row, h => by rw [exRow] at h; cases h
  | d + 1, j, L, row, h => by
    rw [exRow] at h
    rw [tl, adds_cons]
    by_cases hm : nx x j ∈ L
    · rw [if_pos hm] at h
      rw [add_in hm]
      exact exRow_none d (j + 1) L _ h
    · rw [if_neg hm] at h
      rw [add_out hm]
      by_cases ho : most < L.length + 1
      · have := (adds_pre (tl nx x d (j + 1)) (L ++ [nx x j])).length_le
        simp only [List.length_append, List.length_cons, List.length_nil] at this
        omega
      · rw [if_neg ho] at h
        exact exRow_none d (j + 1) _ _ h
def rowX (nx : α → Nat → α) (R : List α) (x : α) : List Int := (sc nx x).map (num R)
structure ExInv (acc : α → Bool) (nx : α → Nat → α) (p : Ex α) (i : Nat) : Prop where
  a : p.2.1 = (p.1.take i).map acc
  m : p.2.2 = (p.1.take i).map (rowX nx p.1)
  c : ∀ x ∈ p.1.take i, ∀ y ∈ sc nx x, y ∈ p.1
theorem inv_step {p : Ex α} {i : Nat} (h : ExInv acc nx p i) (hi : i < p.1.length) {L' : List α} {row' : List Int} (h1 : L' = adds p.1 (sc nx p.1[i])) (h2 : row' = (sc nx p.1[i]).map (num L')) : ExInv acc nx (L', p.2.1 ++ [acc p.1[i]], p.2.2 ++ [row']) (i + 1) := by
  have hpre : p.1 <+: L' := by rw [h1]; exact adds_pre _ _
  have ht : L'.take (i + 1) = p.1.take i ++ [p.1[i]] := by
    rw [← List.take_succ_eq_append_getElem hi]
    obtain ⟨t, rfl⟩ := hpre
    rw [List.take_append_of_le_length (by omega)]
  refine ⟨?_, ?_, ?_⟩
  · show p.2.1 ++ [acc p.1[i]] = (L'.take (i + 1)).map acc
    rw [ht, List.map_append, ← h.a, List.map_singleton]
  · show p.2.2 ++ [row'] = (L'.take (i + 1)).map (rowX nx L')
    rw [ht, List.map_append, List.map_singleton, h.m, h2]
    congr 1
    refine List.map_congr_left fun x hx => ?_
    unfold rowX
    refine List.map_congr_left fun y hy => ?_
    exact (num_pre (h.c x hx y hy) hpre).symm
  · show ∀ x ∈ L'.take (i + 1), ∀ y ∈ sc nx x, y ∈ L'
    rw [ht]
    intro x hx y hy
    rcases List.mem_append.mp hx with hx | hx
    · exact hpre.subset (h.c x hx y hy)
    · rw [List.mem_singleton] at hx
      subst hx
      rw [h1]
      exact mem_adds.mpr (Or.inr hy)
theorem expl_some : ∀ (d : Nat) (p : Ex α) (i : Nat) (q : Ex α), most + 2 ≤ d + i → p.1.length ≤ most → i ≤ p.1.length → ExInv acc nx p i → expl acc nx most d p i = some q → Runs (sc nx) p.1 i q.1 ∧ q.1.length ≤ most ∧ q.2.1 = q.1.map acc ∧ q.2.2 = q.1.map (rowX nx q.1)
  | 0, p, i, q, hd, hp, hi, _, _ => by omega
  | d + 1, p, i, q, hd, hp, hi, hv, h => by
    rw [expl] at h
    by_cases hlt : i < p.1.length
    · rw [dif_pos hlt] at h
      obtain ⟨⟨L', row'⟩, he, h⟩ := Option.bind_eq_some_iff.mp h
      obtain ⟨h1, h2, h3⟩ := exRow_some 3 0 p.1 [] L' row' he
      obtain ⟨g1, g2⟩ := expl_some d _ (i + 1) q (by omega) (h3 hp) (by
        have : p.1.length ≤ L'.length := by rw [h1]; exact (adds_pre _ _).length_le
        show i + 1 ≤ L'.length
        omega) (inv_step hv hlt h1 (by rw [h2, List.nil_append]; rfl)) h
      refine ⟨.step hlt ?_, g2⟩
      have : L' = adds p.1 (sc nx p.1[i]) := h1
      rw [← this]
      exact g1
    · rw [dif_neg hlt] at h
      have h := Option.some.inj h
      subst h
      have ht : p.1.take i = p.1 := List.take_of_length_le (by omega)
      exact ⟨.stop (by omega), hp, by rw [hv.a, ht], by rw [hv.m, ht]⟩
theorem expl_none : ∀ (d : Nat) (p : Ex α) (i : Nat) (R : List α), expl acc nx most d p i = none → Runs (sc nx) p.1 i R → most < R.length
  | 0, p, i, R, h, _ => by rw [expl] at h; cases h
  | d + 1, p, i, R, h, hR => by
    rw [expl] at h
    by_cases hlt : i < p.1.length
    · rw [dif_pos hlt] at h
      cases hR with
      | stop h' => omega
      | step _ hR =>
        cases he : exRow nx most p.1[i] 3 0 p.1 [] with
        | none =>
          have h1 := exRow_none 3 0 p.1 [] he
          have h2 := hR.pre.length_le
          have : adds p.1 (sc nx p.1[i]) = adds p.1 (tl nx p.1[i] 3 0) := rfl
          rw [this] at h2
          omega
        | some q =>
          rw [he] at h
          obtain ⟨h1, h2, h3⟩ := exRow_some 3 0 p.1 [] q.1 q.2 he
          refine expl_none d _ (i + 1) R h ?_
          have : q.1 = adds p.1 (sc nx p.1[i]) := h1
          show Runs (sc nx) q.1 (i + 1) R
          rw [this]
          exact hR
    · rw [dif_neg hlt] at h
      cases h
def Auto (acc : α → Bool) (nx : α → Nat → α) (x0 : α) (A : List Bool) (M : List (List Int)) : Prop := ∃ R, Runs (sc nx) [x0] 0 R ∧ A = R.map acc ∧ M = R.map (rowX nx R)
theorem expl_auto {x0 : α} {q : Ex α} (h1 : 1 ≤ most) (h : expl acc nx most (most + 2) ([x0], [], []) 0 = some q) : Auto acc nx x0 q.2.1 q.2.2 ∧ q.2.1.length ≤ most := by
  obtain ⟨g1, g2, g3, g4⟩ := expl_some (most + 2) ([x0], [], []) 0 q (by omega) h1 (by simp) ⟨rfl, rfl, fun x hx => by simp at hx⟩ h
  exact ⟨⟨q.1, g1, g3, g4⟩, by rw [g3, List.length_map]; exact g2⟩
theorem Auto.rows {x0 : α} {A : List Bool} {M : List (List Int)} (h : Auto acc nx x0 A M) : 1 ≤ A.length ∧ Rows3 A.length M := by
  obtain ⟨R, hR, rfl, rfl⟩ := h
  have hcl := hR.closed (fun j _ hj => by omega)
  have hp := hR.pre.length_le
  refine ⟨by rw [List.length_map]; exact hp, by simp, fun r hr => ?_⟩
  obtain ⟨x, hx, rfl⟩ := List.mem_map.mp hr
  refine ⟨by simp [rowX, sc, tl], fun q hq => ?_⟩
  obtain ⟨y, hy, rfl⟩ := List.mem_map.mp hq
  have hm := hcl x hx y hy
  have := List.idxOf_lt_length_of_mem hm
  rw [num_eq hm, List.length_map]
  omega
theorem Auto.lang {x0 : α} {A : List Bool} {M : List (List Int)} (h : Auto acc nx x0 A M) (lam : α → Lan) {dom : α → Prop} (hd0 : dom x0) (hdn : ∀ x, dom x → ∀ y ∈ sc nx x, dom y) (he : ∀ x, dom x → lam x [] = acc x) (hs : ∀ x, dom x → ∀ (k : Fin 3) w, lam x (k :: w) = lam (nx x k.val) w) : lang A M 0 = lam x0 := by
  obtain ⟨R, hR, rfl, rfl⟩ := h
  have hcl := hR.closed (fun j _ hj => by omega)
  have hall := hR.all (p := dom) hdn (fun x hx => by rw [List.mem_singleton] at hx; subst hx; exact hd0)
  have H : ∀ (w : List (Fin 3)) (i : Nat) (hi : i < R.length), run (R.map acc) (R.map (rowX nx R)) w (i : Int) = lam R[i] w := by
    intro w
    induction w with
    | nil =>
      intro i hi
      show rdOf false (R.map acc) (i : Int) = _
      rw [rdOf_get false _ i (by simpa using hi), List.getElem_map, he _ (hall _ (List.getElem_mem hi))]
    | cons k w ih =>
      intro i hi
      show run _ _ w (rd (rowOf (R.map (rowX nx R)) (i : Int)) (k.val : Int)) = _
      have hrow : rowOf (R.map (rowX nx R)) (i : Int) = rowX nx R R[i] := by
        unfold rowOf
        rw [Int.toNat_natCast, List.getD_eq_getElem?_getD, List.getElem?_eq_getElem (by simpa using hi), Option.getD_some, List.getElem_map]
      have hk : rd (rowX nx R R[i]) (k.val : Int) = num R (nx R[i] k.val) := by
        match k with
        | 0 => rfl
        | 1 => rfl
        | 2 => rfl
      have hm : nx R[i] k.val ∈ R := by
        refine hcl _ (List.getElem_mem hi) _ ?_
        match k with
        | 0 => simp [sc, tl]
        | 1 => simp [sc, tl]
        | 2 => simp [sc, tl]
      have hlt := List.idxOf_lt_length_of_mem hm
      rw [hrow, hk, num_eq hm, ih _ hlt, List.getElem_idxOf hlt, hs _ (hall _ (List.getElem_mem hi))]
  obtain ⟨t, rfl⟩ := hR.pre
  exact funext fun w => H w 0 (by simp)
end
def fitD (A : List Bool) (M : List (List Int)) : List Bool × List (List Int) × Bool := if (minD A M 0).1.length ≤ 40 then ((minD A M 0).1, (minD A M 0).2, true) else ([], [], false)
theorem fitD_lang {A B : List Bool} {M K : List (List Int)} (hA : 1 ≤ A.length) (hM : Rows3 A.length M) (hB : 1 ≤ B.length) (hK : Rows3 B.length K) (h : lang A M 0 = lang B K 0) : fitD A M = fitD B K := by
  have e : minD A M 0 = minD B K 0 := by
    have c := min_can (fits_rows hM) (st := 0) (by omega)
    rw [h] at c
    exact c.det (min_can (fits_rows hK) (st := 0) (by omega))
  unfold fitD
  rw [e]
theorem fitD_len {A : List Bool} {M : List (List Int)} (hA : 1 ≤ A.length) (hM : Rows3 A.length M) : (fitD A M).1.length ≤ 40 ∧ (fitD A M).2.1.length ≤ 40 ∧ ∀ r ∈ (fitD A M).2.1, r.length = 3 := by
  unfold fitD
  obtain ⟨l1, l2, l3⟩ := minD_len (fits_rows hM) (st := 0) (by omega)
  by_cases h : (minD A M 0).1.length ≤ 40
  · rw [if_pos h]
    exact ⟨h, by show (minD A M 0).2.length ≤ 40; omega, l3⟩
  · rw [if_neg h]
    simp
end Go.Proofs.Ytogamkblkoobkaa.Can
end
section
namespace Go.Proofs.Ytogamkblkoobkaa.P
open Go.RowKit Go.Proofs.YtogamkblkoobkaaW.PrintWords Go.Proofs.YtogamkblkoobkaaW.PrintLast Go.Proofs.YtogamkblkoobkaaW.PrintMore
attribute [local go_sem] max2_int min2_int max_two min_two max_three min_three max_four min_four
set_option linter.unusedVariables false
set_option linter.unusedSimpArgs false
end Go.Proofs.Ytogamkblkoobkaa.P
end
section
namespace Go.Proofs.Ytogamkblkoobkaa.Wk
open Go.RowKit Go.Shelf Go.Proofs.Ytogamkblkoobkaa.P Go.Proofs.Ytogamkblkoobkaa.Pl Go.Proofs.Ytogamkblkoobkaa.Mp Go.Proofs.Ytogamkblkoobkaa.Bf Go.Proofs.Ytogamkblkoobkaa.Mn Go.Proofs.Ytogamkblkoobkaa.Lg Go.Proofs.Ytogamkblkoobkaa.Can Go.Proofs.YtogamkblkoobkaaW.PrintWords Go.Proofs.YtogamkblkoobkaaW.PrintLast Go.Proofs.YtogamkblkoobkaaW.PrintMore
set_option linter.unusedVariables false
set_option linter.unusedSimpArgs false
def bothB (kind : Int) (u v : Bool) : Bool := if kind = 6 then u || v else u && v
def pdX (a : List Bool) (n : List (List Int)) (b : List Bool) (m : List (List Int)) (kind : Int) : Ex Pr := (expl (gdP (bothB kind) a b) (nxP n m) 1600 1602 ([((0 : Int), (0 : Int))], [], []) 0).getD ([], [], [])
def pdR (a : List Bool) (n : List (List Int)) (b : List Bool) (m : List (List Int)) (kind : Int) : List Bool × List (List Int) × Bool := if (validD a n = true ∧ validD b m = true) ∧ (kind = 6 ∨ kind = 7) then fitD (pdX a n b m kind).2.1 (pdX a n b m kind).2.2 else ([], [], false)
theorem pair_sc {a b : List Bool} {n m : List (List Int)} (hv : validD a n = true) (hw : validD b m = true) : ∀ x : Pr, ((0 ≤ x.1 ∧ x.1 < (a.length : Int)) ∧ 0 ≤ x.2 ∧ x.2 < (b.length : Int)) → ∀ y ∈ sc (nxP n m) x, ((0 ≤ y.1 ∧ y.1 < (a.length : Int)) ∧ 0 ≤ y.2 ∧ y.2 < (b.length : Int)) := fun x hx y hy => by
  simp only [sc, tl, List.mem_cons, List.not_mem_nil, or_false] at hy
  rcases hy with rfl | rfl | rfl
  · exact pair_dom hv hw x 0 hx (by omega)
  · exact pair_dom hv hw x 1 hx (by omega)
  · exact pair_dom hv hw x 2 hx (by omega)
theorem pd_some {a b : List Bool} {n m : List (List Int)} {kind : Int} (hv : validD a n = true) (hw : validD b m = true) : ∃ q, expl (gdP (bothB kind) a b) (nxP n m) 1600 1602 ([((0 : Int), (0 : Int))], [], []) 0 = some q ∧ pdX a n b m kind = q ∧ Auto (gdP (bothB kind) a b) (nxP n m) ((0 : Int), (0 : Int)) q.2.1 q.2.2 ∧ q.2.1.length ≤ 1600 := by
  obtain ⟨h1, h2, _⟩ := validD_facts hv
  obtain ⟨g1, g2, _⟩ := validD_facts hw
  have hN : a.length * b.length ≤ 40 * 40 := Nat.mul_le_mul h2 g2
  cases he : expl (gdP (bothB kind) a b) (nxP n m) 1600 1602 ([((0 : Int), (0 : Int))], [], []) 0 with
  | some q =>
    obtain ⟨e1, e2⟩ := expl_auto (most := 1600) (by omega) he
    exact ⟨q, rfl, by unfold pdX; rw [he]; rfl, e1, e2⟩
  | none =>
    have h0 : ∀ x ∈ [((0 : Int), (0 : Int))], (0 ≤ x.1 ∧ x.1 < (a.length : Int)) ∧ 0 ≤ x.2 ∧ x.2 < (b.length : Int) := fun x hx => by rw [List.mem_singleton] at hx; subst hx; exact ⟨⟨by show (0 : Int) ≤ 0; omega, by show (0 : Int) < _; omega⟩, by show (0 : Int) ≤ 0; omega, by show (0 : Int) < _; omega⟩
    obtain ⟨R, hR⟩ := Runs.ends (succ := sc (nxP n m)) (N := a.length * b.length) (pair_sc hv hw) (fun s hn hs => card_pairs a.length b.length s hn hs) (a.length * b.length) [((0 : Int), (0 : Int))] 0 (by simp) h0 (by simp) (by omega)
    have h3 := expl_none 1602 _ 0 R he hR
    have h4 := card_pairs a.length b.length R (hR.nodup (by simp)) (hR.all (pair_sc hv hw) h0)
    omega
end Go.Proofs.Ytogamkblkoobkaa.Wk
end
section
namespace Go.Proofs.Ytogamkblkoobkaa.P
open Go.RowKit Go.Proofs.YtogamkblkoobkaaW.PrintWords Go.Proofs.YtogamkblkoobkaaW.PrintLast Go.Proofs.YtogamkblkoobkaaW.PrintMore
attribute [local go_sem] max2_int min2_int max_two min_two max_three min_three max_four min_four
set_option linter.unusedVariables false
set_option linter.unusedSimpArgs false
def spec_l5Fits.f (k : Nat) (l0_0 : List Bool) (l0_1 : List (List Int)) : Option (List Bool × (List (List Int)) × Bool) := (spec_l5Minimal.f k l0_0 l0_1).bind fun bt266 => ((spec_IsValidDfa.f k bt266.1 bt266.2).bind fun t273 => (if t273 = true then (some (bt266.1, bt266.2, true)) else (some (([] : List Bool), ([] : List (List Int)), false))))
theorem spec_l5Fits.mono : ∀ a0 a1 k, LeO (spec_l5Fits.f k a0 a1) (spec_l5Fits.f (k + 1) a0 a1) := by
 intro a0 a1 k
 unfold spec_l5Fits.f
 repeat' first
   | (with_reducible exact spec_IsValidDfa.mono _ _ _)
   | (with_reducible exact spec_l5Minimal.mono _ _ _)
   | (with_reducible exact LeO.refl _)
   | (with_reducible exact LeO.none _)
   | (with_reducible refine LeO.ite ?_ ?_)
   | (with_reducible refine LeO.bind ?_ (fun _ => ?_))
   | exact spec_IsValidDfa.mono _ _ _
   | exact spec_l5Minimal.mono _ _ _
   | exact LeO.none _
   | refine LeO.ite ?_ ?_
   | refine LeO.bind ?_ (fun _ => ?_)
set_option maxHeartbeats 8000000 in
set_option maxRecDepth 100000 in
theorem spec_l5Fits.calls (k : Nat) (A0_0 : Option Addr) (c0_0 : Nat) (l0_0 : List Bool) (A0_1 : Option Addr) (c0_1 : Nat) (l0_1 : List (List Int)) (r1 : List Bool) (r2 : List (List Int)) (r3 : Bool) (w : World) (hr0_0 : Kd.C Kd.bool w A0_0 l0_0.length l0_0) (hc0_0 : l0_0.length ≤ c0_0) (hr0_1 : Kd.C (Kd.slice 3 (Kd.int .i64)) w A0_1 l0_1.length l0_1) (hc0_1 : l0_1.length ≤ c0_1) (h : spec_l5Fits.f k l0_0 l0_1 = some (r1, r2, r3)) :
  Calls Try.prog 64 #[.agg #[.slice A0_0 l0_0.length c0_0, .slice A0_1 l0_1.length c0_1]] w fun e w' => ∃ v0_ v1_ : Value, e = .returned (.tuple #[.agg #[v0_, v1_], .bool r3]) ∧ Kd.R Kd.bool 4 w' w.heap.size (fun _ => True) v0_ r1 ∧ Kd.S (Kd.slice 3 (Kd.int .i64)) 67 w' w.heap.size (fun _ => True) v1_ r2 ∧ Below w.heap.size w w' := by
 have hu27 := Try.underlying27
 have HR0_0 := am_ hr0_0
 have HC0_0 := am_ hc0_0
 clear hr0_0 hc0_0
 have HR0_1 := am_ hr0_1
 have HC0_1 := am_ hc0_1
 clear hr0_1 hc0_1
 have HB := am_ (Below.refl w.heap.size w)
 have H : ((spec_l5Minimal.f k l0_0 l0_1).bind fun bt266 => ((spec_IsValidDfa.f k bt266.1 bt266.2).bind fun t273 => (if t273 = true then (some (bt266.1, bt266.2, true)) else (some (([] : List Bool), ([] : List (List Int)), false))))) = some (r1, r2, r3) := h
 clear h
 replace H := Option.bind_eq_some_iff.mp H
 obtain ⟨⟨t266, t269⟩, A20, H⟩ := H
 have A2 := am_ A20
 clear A20
 replace H := Option.bind_eq_some_iff.mp H
 obtain ⟨t273, A30, H⟩ := H
 have A3 := am_ A30
 clear A30
 by_cases c4 : t273 = true
 ·subst c4
  have H1 : (some (t266, t269, true)) = some (r1, r2, r3) := by rw [if_pos rfl] at H; exact H
  clear H
  have H := H1
  clear H1
  simp only [Option.some.injEq, Prod.mk.injEq] at H
  obtain ⟨rfl, rfl, rfl⟩ := H
  go_enter Try.func64, Try.ntmps64
  go_wp2_with (first | ((with_reducible refine gate_dst (N := 1) rfl ?_); refine box_event ?hg (N := 1) ?hd (cs := #[.slice A0_0 l0_0.length c0_0, .slice A0_1 l0_1.length c0_1]) (t := 27) ?hr ?_; (case hd => rfl); (case hg => rfl); (case hr => first | (go_simp; done) | (go_simp; rfl)); intro gb264 hg w5 hbox hb; replace BK264 := am_ (hbox); replace GW264 := am_ ((by rw [hg]; exact (below_size (b0_ HB.out)) : w.heap.size ≤ gb264)); replace GE264 := am_ ((by rw [hg]; exact (below_size (b0_ HB.out)) : w.heap.size ≤ gb264)); replace HB := am_ (below_step (b0_ HB.out) hb); clear hb hbox hg) | ((with_reducible refine gate_dst (N := 2) rfl ?_); refine box_event ?hg (N := 2) ?hd (cs := #[.slice none 0 0, .slice none 0 0]) (t := 27) ?hr ?_; (case hd => rfl); (case hg => rfl); (case hr => first | (go_simp; done) | (go_simp; rfl)); intro gb265 hg w6 hbox hb; have n0_ := am_ (blk_below (rb_ BK264.out) hb); have n1_ := am_ (below_step (b1_ HB.out GE264.out) hb); have n2_ := am_ (hbox); have n3_ := am_ ((by rw [hg]; exact (below_size (b1_ HB.out GE264.out)) : w.heap.size ≤ gb265)); have n4_ := am_ ((by rw [hg]; exact (below_size (b1_ HB.out GE264.out)) : w.heap.size ≤ gb265)); have n5_ := am_ ((by rw [hg]; exact Nat.ne_of_lt (blk_lt (rb_ BK264.out)) : gb264 ≠ gb265)); have n6_ := am_ ((by rw [hg]; exact Nat.ne_of_gt (blk_lt (rb_ BK264.out)) : gb265 ≠ gb264)); clear BK264; clear HB; have BK264 := n0_; have HB := n1_; have BK265 := n2_; have GW265 := n3_; have GE265 := n4_; have NB264_265 := n5_; have NB265_264 := n6_; clear n0_ n1_ n2_ n3_ n4_ n5_ n6_; clear hb hbox hg; have hnb7 := NB264_265.out; have hnc7 := NB265_264.out; have hcz8_0 : w6.cell? ⟨gb264, 0, none⟩ = some (.slice A0_0 l0_0.length c0_0) := (blk_cell BK264.out 0).trans rfl; have hcz8_1 : w6.cell? ⟨gb264, 1, none⟩ = some (.slice A0_1 l0_1.length c0_1) := (blk_cell BK264.out 1).trans rfl; have hfz8_0 := blk_frozen BK264.out 0; have hfz8_1 := blk_frozen BK264.out 1) | ((with_reducible refine gate_callee (f := 94) rfl ?_); refine gL_ (some 6) Try.func94 #[.agg #[.slice A0_0 l0_0.length c0_0, .slice A0_1 l0_1.length c0_1]] ?_; (with_reducible refine (spec_l5Minimal.calls k _ _ l0_0 _ _ l0_1 t266 t269 _ ?side1 ?side2 ?side3 ?side4 A2.out).mono ?_); (case side1 => exact rc_ (Kd.C_below HR0_0.out HB.out)); (case side2 => exact HC0_0.out); (case side3 => exact rc_ (Kd.C_below HR0_1.out HB.out)); (case side4 => exact HC0_1.out); rintro e w9 ⟨v267, v270, rfl, ho0, ho1, hb⟩; refine ⟨_, rfl, ?_⟩; have n0_ := am_ (Kd.R_lower ho0 (below_size (b2_ HB.out GE264.out GE265.out))); have n1_ := am_ (Kd.S_lower ho1 (below_size (b2_ HB.out GE264.out GE265.out))); have n2_ := am_ (blk_below (rb_ BK264.out) hb); have n3_ := am_ (blk_below (rb_ BK265.out) hb); have n4_ := am_ (below_step (b2_ HB.out GE264.out GE265.out) hb); clear BK264; clear BK265; clear HB; have HO268 := n0_; have HO271 := n1_; have BK264 := n2_; have BK265 := n3_; have HB := n4_; clear n0_ n1_ n2_ n3_ n4_; (try clear hb); (try clear hb2); (try clear hk); (try clear hi); (try clear ho0); (try clear ho1)) | ((with_reducible refine gate_dst (N := 4) rfl ?_); refine box_event ?hg (N := 4) ?hd (cs := #[.slice none 0 0, .slice none 0 0]) (t := 27) ?hr ?_; (case hd => rfl); (case hg => rfl); (case hr => first | (go_simp; done) | (go_simp; rfl)); intro gb272 hg w10 hbox hb; have n0_ := am_ (Kd.R_below (rr_ HO268.out) hb); have n1_ := am_ (Kd.S_below (rs_ HO271.out) hb); have n2_ := am_ (blk_below (rb_ BK264.out) hb); have n3_ := am_ (blk_below (rb_ BK265.out) hb); have n4_ := am_ (below_step (b2_ HB.out GE264.out GE265.out) hb); have n5_ := am_ (hbox); have n6_ := am_ ((by rw [hg]; exact (below_size (b2_ HB.out GE264.out GE265.out)) : w.heap.size ≤ gb272)); have n7_ := am_ ((by rw [hg]; exact (below_size (b2_ HB.out GE264.out GE265.out)) : w.heap.size ≤ gb272)); have n8_ := am_ ((by rw [hg]; exact Nat.ne_of_lt (blk_lt (rb_ BK264.out)) : gb264 ≠ gb272)); have n9_ := am_ ((by rw [hg]; exact Nat.ne_of_gt (blk_lt (rb_ BK264.out)) : gb272 ≠ gb264)); have n10_ := am_ ((by rw [hg]; exact Nat.ne_of_lt (blk_lt (rb_ BK265.out)) : gb265 ≠ gb272)); have n11_ := am_ ((by rw [hg]; exact Nat.ne_of_gt (blk_lt (rb_ BK265.out)) : gb272 ≠ gb265)); clear HO268; clear HO271; clear BK264; clear BK265; clear HB; have HO268 := n0_; have HO271 := n1_; have BK264 := n2_; have BK265 := n3_; have HB := n4_; have BK272 := n5_; have GW272 := n6_; have GE272 := n7_; have NB264_272 := n8_; have NB272_264 := n9_; have NB265_272 := n10_; have NB272_265 := n11_; clear n0_ n1_ n2_ n3_ n4_ n5_ n6_ n7_ n8_ n9_ n10_ n11_; clear hb hbox hg; obtain ⟨Ao11, co11, eo11⟩ := Kd.R_slice HO268.out; subst eo11; have hnb12 := NB272_264.out; have hnc12 := NB264_272.out; have hnb13 := NB272_265.out; have hnc13 := NB265_272.out; have hcz14_0 : w10.cell? ⟨gb272, 0, none⟩ = some (.slice none 0 0) := (blk_cell BK272.out 0).trans rfl; have hcz14_1 : w10.cell? ⟨gb272, 1, none⟩ = some (.slice none 0 0) := (blk_cell BK272.out 1).trans rfl; have hfz14_0 := blk_frozen BK272.out 0; have hfz14_1 := blk_frozen BK272.out 1; obtain ⟨Ao15, co15, eo15⟩ := Kd.S_slice HO271.out; subst eo15) | ((with_reducible refine gate_callee (f := 35) rfl ?_); refine gL_ (some 8) Try.func35 #[.agg #[.slice Ao11 t266.length co11, .slice Ao15 t269.length co15]] ?_; (with_reducible refine (spec_IsValidDfa.calls k _ _ t266 _ _ t269 true _ ?side1 ?side2 ?side3 ?side4 A3.out).mono ?_); (case side1 => refine (Kd.R_reads' (e := 4) (base := w.heap.size) (ok := fun k_ => True) (n := t266.length) (c := co11) ?_).2.2; exact (rr_ (Kd.R_mono (Kd.R_far (p := ⟨gb272, 1, none⟩) (Kd.R_far (p := ⟨gb272, 0, none⟩) (Kd.R_types HO268.out BK272.out (by decide)) (fun _ hk => hk.2) (.slice Ao11 t266.length co11)) (fun _ hk => hk.2) (.slice Ao15 t269.length co15)) (fun _ h_ => h_.1)))); (case side2 => exact (Kd.R_reads' HO268.out).2.1); (case side3 => refine (Kd.S_reads' (e := 67) (base := w.heap.size) (ok := fun k_ => True) (n := t269.length) (c := co15) ?_).2.2; exact (rs_ (Kd.S_mono (Kd.S_far (p := ⟨gb272, 1, none⟩) (Kd.S_far (p := ⟨gb272, 0, none⟩) (Kd.S_types HO271.out BK272.out (by decide)) (fun _ hk => hk.2) (.slice Ao11 t266.length co11)) (fun _ hk => hk.2) (.slice Ao15 t269.length co15)) (fun _ h_ => h_.1)))); (case side4 => exact (Kd.S_reads' HO271.out).2.1); rintro e w16 ⟨rfl, hb⟩; refine ⟨_, rfl, ?_⟩; have n0_ := am_ (Kd.R_below (rr_ (Kd.R_mono (Kd.R_far (p := ⟨gb272, 1, none⟩) (Kd.R_far (p := ⟨gb272, 0, none⟩) (Kd.R_types HO268.out BK272.out (by decide)) (fun _ hk => hk.2) (.slice Ao11 t266.length co11)) (fun _ hk => hk.2) (.slice Ao15 t269.length co15)) (fun _ h_ => h_.1))) hb); have n1_ := am_ (Kd.S_below (rs_ (Kd.S_mono (Kd.S_far (p := ⟨gb272, 1, none⟩) (Kd.S_far (p := ⟨gb272, 0, none⟩) (Kd.S_types HO271.out BK272.out (by decide)) (fun _ hk => hk.2) (.slice Ao11 t266.length co11)) (fun _ hk => hk.2) (.slice Ao15 t269.length co15)) (fun _ h_ => h_.1))) hb); have n2_ := am_ (blk_below (g := gb264) (o := .cells #[.slice A0_0 l0_0.length c0_0, .slice A0_1 l0_1.length c0_1] 27 (0, 0)) (by refine rb_ ?_; refine blk_far ?_ NB264_272.out _; refine rb_ ?_; refine blk_far ?_ NB264_272.out _; refine rb_ ?_; exact BK264.out) hb); have n3_ := am_ (blk_below (g := gb265) (o := .cells #[.slice none 0 0, .slice none 0 0] 27 (0, 0)) (by refine rb_ ?_; refine blk_far ?_ NB265_272.out _; refine rb_ ?_; refine blk_far ?_ NB265_272.out _; refine rb_ ?_; exact BK265.out) hb); have n4_ := am_ (blk_below (g := gb272) (o := .cells #[.slice Ao11 t266.length co11, .slice Ao15 t269.length co15] 27 (0, 0)) (by refine rb_ ?_; refine blk_put (cs := #[.slice Ao11 t266.length co11, .slice none 0 0]) ?_ 1 _ rfl; refine rb_ ?_; refine blk_put (cs := #[.slice none 0 0, .slice none 0 0]) ?_ 0 _ rfl; refine rb_ ?_; exact BK272.out) hb); have n5_ := am_ (below_step (b3_ HB.out GE264.out GE265.out GE272.out) hb); clear HO268; clear HO271; clear BK264; clear BK265; clear BK272; clear HB; have HO268 := n0_; have HO271 := n1_; have BK264 := n2_; have BK265 := n3_; have BK272 := n4_; have HB := n5_; clear n0_ n1_ n2_ n3_ n4_ n5_; (try clear hb); (try clear hb2); (try clear hk); (try clear hi); have hcz17_0 : w16.cell? ⟨gb272, 0, none⟩ = some (.slice Ao11 t266.length co11) := (blk_cell BK272.out 0).trans rfl; have hcz17_1 : w16.cell? ⟨gb272, 1, none⟩ = some (.slice Ao15 t269.length co15) := (blk_cell BK272.out 1).trans rfl; have hfz17_0 := blk_frozen BK272.out 0; have hfz17_1 := blk_frozen BK272.out 1; have hcz18_0 : w16.cell? ⟨gb265, 0, none⟩ = some (.slice none 0 0) := (blk_cell BK265.out 0).trans rfl; have hcz18_1 : w16.cell? ⟨gb265, 1, none⟩ = some (.slice none 0 0) := (blk_cell BK265.out 1).trans rfl; have hfz18_0 := blk_frozen BK265.out 0; have hfz18_1 := blk_frozen BK265.out 1))
  refine bodyPost_ret (results_ct rfl _ _ gb265 27 #[.slice Ao11 t266.length co11, .slice Ao15 t269.length co15] (0, 0) _ rfl (by refine rb_ ?_; refine blk_put (cs := #[.slice Ao11 t266.length co11, .slice none 0 0]) ?_ 1 _ rfl; refine rb_ ?_; refine blk_put (cs := #[.slice none 0 0, .slice none 0 0]) ?_ 0 _ rfl; refine rb_ ?_; exact BK265.out) Try.underlying27 rfl (by kernel_rfl)) rfl ?_
  exact ⟨_, _, by first | rfl | (simp [errW_none, errW_some] <;> rfl) | (simp [*, errW_none, errW_some] <;> rfl), by refine rr_ ?_; exact Kd.R_mono (Kd.R_far (p := ⟨gb265, 1, none⟩) (Kd.R_far (p := ⟨gb265, 0, none⟩) (Kd.R_types HO268.out BK265.out (by decide)) (fun _ hk => hk.2) (.slice Ao11 t266.length co11)) (fun _ hk => hk.2) (.slice Ao15 t269.length co15)) (fun _ hk => trivial), by refine rs_ ?_; exact Kd.S_mono (Kd.S_far (p := ⟨gb265, 1, none⟩) (Kd.S_far (p := ⟨gb265, 0, none⟩) (Kd.S_types HO271.out BK265.out (by decide)) (fun _ hk => hk.2) (.slice Ao11 t266.length co11)) (fun _ hk => hk.2) (.slice Ao15 t269.length co15)) (fun _ hk => trivial), by repeat (first | (with_reducible first | exact HB.out | apply below_alloc | apply pw_below_drewN | apply below_drew1 | refine below_set ?_ GE264.out | refine below_set ?_ GE265.out | refine below_set ?_ GE272.out) | exact HB.out)⟩
 ·replace c4 := Bool.eq_false_iff.mpr c4
  subst c4
  have H1 : (some (([] : List Bool), ([] : List (List Int)), false)) = some (r1, r2, r3) := by rw [if_neg (show ¬ (false = true) by decide)] at H; exact H
  clear H
  have H := H1
  clear H1
  simp only [Option.some.injEq, Prod.mk.injEq] at H
  obtain ⟨rfl, rfl, rfl⟩ := H
  go_enter Try.func64, Try.ntmps64
  go_wp2_with (first | ((with_reducible refine gate_dst (N := 1) rfl ?_); refine box_event ?hg (N := 1) ?hd (cs := #[.slice A0_0 l0_0.length c0_0, .slice A0_1 l0_1.length c0_1]) (t := 27) ?hr ?_; (case hd => rfl); (case hg => rfl); (case hr => first | (go_simp; done) | (go_simp; rfl)); intro gb264 hg w19 hbox hb; replace BK264 := am_ (hbox); replace GW264 := am_ ((by rw [hg]; exact (below_size (b0_ HB.out)) : w.heap.size ≤ gb264)); replace GE264 := am_ ((by rw [hg]; exact (below_size (b0_ HB.out)) : w.heap.size ≤ gb264)); replace HB := am_ (below_step (b0_ HB.out) hb); clear hb hbox hg) | ((with_reducible refine gate_dst (N := 2) rfl ?_); refine box_event ?hg (N := 2) ?hd (cs := #[.slice none 0 0, .slice none 0 0]) (t := 27) ?hr ?_; (case hd => rfl); (case hg => rfl); (case hr => first | (go_simp; done) | (go_simp; rfl)); intro gb265 hg w20 hbox hb; have n0_ := am_ (blk_below (rb_ BK264.out) hb); have n1_ := am_ (below_step (b1_ HB.out GE264.out) hb); have n2_ := am_ (hbox); have n3_ := am_ ((by rw [hg]; exact (below_size (b1_ HB.out GE264.out)) : w.heap.size ≤ gb265)); have n4_ := am_ ((by rw [hg]; exact (below_size (b1_ HB.out GE264.out)) : w.heap.size ≤ gb265)); have n5_ := am_ ((by rw [hg]; exact Nat.ne_of_lt (blk_lt (rb_ BK264.out)) : gb264 ≠ gb265)); have n6_ := am_ ((by rw [hg]; exact Nat.ne_of_gt (blk_lt (rb_ BK264.out)) : gb265 ≠ gb264)); clear BK264; clear HB; have BK264 := n0_; have HB := n1_; have BK265 := n2_; have GW265 := n3_; have GE265 := n4_; have NB264_265 := n5_; have NB265_264 := n6_; clear n0_ n1_ n2_ n3_ n4_ n5_ n6_; clear hb hbox hg; have hnb21 := NB264_265.out; have hnc21 := NB265_264.out; have hcz22_0 : w20.cell? ⟨gb264, 0, none⟩ = some (.slice A0_0 l0_0.length c0_0) := (blk_cell BK264.out 0).trans rfl; have hcz22_1 : w20.cell? ⟨gb264, 1, none⟩ = some (.slice A0_1 l0_1.length c0_1) := (blk_cell BK264.out 1).trans rfl; have hfz22_0 := blk_frozen BK264.out 0; have hfz22_1 := blk_frozen BK264.out 1) | ((with_reducible refine gate_callee (f := 94) rfl ?_); refine gL_ (some 6) Try.func94 #[.agg #[.slice A0_0 l0_0.length c0_0, .slice A0_1 l0_1.length c0_1]] ?_; (with_reducible refine (spec_l5Minimal.calls k _ _ l0_0 _ _ l0_1 t266 t269 _ ?side1 ?side2 ?side3 ?side4 A2.out).mono ?_); (case side1 => exact rc_ (Kd.C_below HR0_0.out HB.out)); (case side2 => exact HC0_0.out); (case side3 => exact rc_ (Kd.C_below HR0_1.out HB.out)); (case side4 => exact HC0_1.out); rintro e w23 ⟨v267, v270, rfl, ho0, ho1, hb⟩; refine ⟨_, rfl, ?_⟩; have n0_ := am_ (Kd.R_lower ho0 (below_size (b2_ HB.out GE264.out GE265.out))); have n1_ := am_ (Kd.S_lower ho1 (below_size (b2_ HB.out GE264.out GE265.out))); have n2_ := am_ (blk_below (rb_ BK264.out) hb); have n3_ := am_ (blk_below (rb_ BK265.out) hb); have n4_ := am_ (below_step (b2_ HB.out GE264.out GE265.out) hb); clear BK264; clear BK265; clear HB; have HO268 := n0_; have HO271 := n1_; have BK264 := n2_; have BK265 := n3_; have HB := n4_; clear n0_ n1_ n2_ n3_ n4_; (try clear hb); (try clear hb2); (try clear hk); (try clear hi); (try clear ho0); (try clear ho1)) | ((with_reducible refine gate_dst (N := 4) rfl ?_); refine box_event ?hg (N := 4) ?hd (cs := #[.slice none 0 0, .slice none 0 0]) (t := 27) ?hr ?_; (case hd => rfl); (case hg => rfl); (case hr => first | (go_simp; done) | (go_simp; rfl)); intro gb272 hg w24 hbox hb; have n0_ := am_ (Kd.R_below (rr_ HO268.out) hb); have n1_ := am_ (Kd.S_below (rs_ HO271.out) hb); have n2_ := am_ (blk_below (rb_ BK264.out) hb); have n3_ := am_ (blk_below (rb_ BK265.out) hb); have n4_ := am_ (below_step (b2_ HB.out GE264.out GE265.out) hb); have n5_ := am_ (hbox); have n6_ := am_ ((by rw [hg]; exact (below_size (b2_ HB.out GE264.out GE265.out)) : w.heap.size ≤ gb272)); have n7_ := am_ ((by rw [hg]; exact (below_size (b2_ HB.out GE264.out GE265.out)) : w.heap.size ≤ gb272)); have n8_ := am_ ((by rw [hg]; exact Nat.ne_of_lt (blk_lt (rb_ BK264.out)) : gb264 ≠ gb272)); have n9_ := am_ ((by rw [hg]; exact Nat.ne_of_gt (blk_lt (rb_ BK264.out)) : gb272 ≠ gb264)); have n10_ := am_ ((by rw [hg]; exact Nat.ne_of_lt (blk_lt (rb_ BK265.out)) : gb265 ≠ gb272)); have n11_ := am_ ((by rw [hg]; exact Nat.ne_of_gt (blk_lt (rb_ BK265.out)) : gb272 ≠ gb265)); clear HO268; clear HO271; clear BK264; clear BK265; clear HB; have HO268 := n0_; have HO271 := n1_; have BK264 := n2_; have BK265 := n3_; have HB := n4_; have BK272 := n5_; have GW272 := n6_; have GE272 := n7_; have NB264_272 := n8_; have NB272_264 := n9_; have NB265_272 := n10_; have NB272_265 := n11_; clear n0_ n1_ n2_ n3_ n4_ n5_ n6_ n7_ n8_ n9_ n10_ n11_; clear hb hbox hg; obtain ⟨Ao25, co25, eo25⟩ := Kd.R_slice HO268.out; subst eo25; have hnb26 := NB272_264.out; have hnc26 := NB264_272.out; have hnb27 := NB272_265.out; have hnc27 := NB265_272.out; have hcz28_0 : w24.cell? ⟨gb272, 0, none⟩ = some (.slice none 0 0) := (blk_cell BK272.out 0).trans rfl; have hcz28_1 : w24.cell? ⟨gb272, 1, none⟩ = some (.slice none 0 0) := (blk_cell BK272.out 1).trans rfl; have hfz28_0 := blk_frozen BK272.out 0; have hfz28_1 := blk_frozen BK272.out 1; obtain ⟨Ao29, co29, eo29⟩ := Kd.S_slice HO271.out; subst eo29) | ((with_reducible refine gate_callee (f := 35) rfl ?_); refine gL_ (some 8) Try.func35 #[.agg #[.slice Ao25 t266.length co25, .slice Ao29 t269.length co29]] ?_; (with_reducible refine (spec_IsValidDfa.calls k _ _ t266 _ _ t269 false _ ?side1 ?side2 ?side3 ?side4 A3.out).mono ?_); (case side1 => refine (Kd.R_reads' (e := 4) (base := w.heap.size) (ok := fun k_ => True) (n := t266.length) (c := co25) ?_).2.2; exact (rr_ (Kd.R_mono (Kd.R_far (p := ⟨gb272, 1, none⟩) (Kd.R_far (p := ⟨gb272, 0, none⟩) (Kd.R_types HO268.out BK272.out (by decide)) (fun _ hk => hk.2) (.slice Ao25 t266.length co25)) (fun _ hk => hk.2) (.slice Ao29 t269.length co29)) (fun _ h_ => h_.1)))); (case side2 => exact (Kd.R_reads' HO268.out).2.1); (case side3 => refine (Kd.S_reads' (e := 67) (base := w.heap.size) (ok := fun k_ => True) (n := t269.length) (c := co29) ?_).2.2; exact (rs_ (Kd.S_mono (Kd.S_far (p := ⟨gb272, 1, none⟩) (Kd.S_far (p := ⟨gb272, 0, none⟩) (Kd.S_types HO271.out BK272.out (by decide)) (fun _ hk => hk.2) (.slice Ao25 t266.length co25)) (fun _ hk => hk.2) (.slice Ao29 t269.length co29)) (fun _ h_ => h_.1)))); (case side4 => exact (Kd.S_reads' HO271.out).2.1); rintro e w30 ⟨rfl, hb⟩; refine ⟨_, rfl, ?_⟩; have n0_ := am_ (Kd.R_below (rr_ (Kd.R_mono (Kd.R_far (p := ⟨gb272, 1, none⟩) (Kd.R_far (p := ⟨gb272, 0, none⟩) (Kd.R_types HO268.out BK272.out (by decide)) (fun _ hk => hk.2) (.slice Ao25 t266.length co25)) (fun _ hk => hk.2) (.slice Ao29 t269.length co29)) (fun _ h_ => h_.1))) hb); have n1_ := am_ (Kd.S_below (rs_ (Kd.S_mono (Kd.S_far (p := ⟨gb272, 1, none⟩) (Kd.S_far (p := ⟨gb272, 0, none⟩) (Kd.S_types HO271.out BK272.out (by decide)) (fun _ hk => hk.2) (.slice Ao25 t266.length co25)) (fun _ hk => hk.2) (.slice Ao29 t269.length co29)) (fun _ h_ => h_.1))) hb); have n2_ := am_ (blk_below (g := gb264) (o := .cells #[.slice A0_0 l0_0.length c0_0, .slice A0_1 l0_1.length c0_1] 27 (0, 0)) (by refine rb_ ?_; refine blk_far ?_ NB264_272.out _; refine rb_ ?_; refine blk_far ?_ NB264_272.out _; refine rb_ ?_; exact BK264.out) hb); have n3_ := am_ (blk_below (g := gb265) (o := .cells #[.slice none 0 0, .slice none 0 0] 27 (0, 0)) (by refine rb_ ?_; refine blk_far ?_ NB265_272.out _; refine rb_ ?_; refine blk_far ?_ NB265_272.out _; refine rb_ ?_; exact BK265.out) hb); have n4_ := am_ (blk_below (g := gb272) (o := .cells #[.slice Ao25 t266.length co25, .slice Ao29 t269.length co29] 27 (0, 0)) (by refine rb_ ?_; refine blk_put (cs := #[.slice Ao25 t266.length co25, .slice none 0 0]) ?_ 1 _ rfl; refine rb_ ?_; refine blk_put (cs := #[.slice none 0 0, .slice none 0 0]) ?_ 0 _ rfl; refine rb_ ?_; exact BK272.out) hb); have n5_ := am_ (below_step (b3_ HB.out GE264.out GE265.out GE272.out) hb); clear HO268; clear HO271; clear BK264; clear BK265; clear BK272; clear HB; have HO268 := n0_; have HO271 := n1_; have BK264 := n2_; have BK265 := n3_; have BK272 := n4_; have HB := n5_; clear n0_ n1_ n2_ n3_ n4_ n5_; (try clear hb); (try clear hb2); (try clear hk); (try clear hi); have hcz31_0 : w30.cell? ⟨gb265, 0, none⟩ = some (.slice none 0 0) := (blk_cell BK265.out 0).trans rfl; have hcz31_1 : w30.cell? ⟨gb265, 1, none⟩ = some (.slice none 0 0) := (blk_cell BK265.out 1).trans rfl; have hfz31_0 := blk_frozen BK265.out 0; have hfz31_1 := blk_frozen BK265.out 1))
  refine bodyPost_ret (results_ct rfl _ _ gb265 27 #[.slice none 0 0, .slice none 0 0] (0, 0) _ rfl (by refine rb_ ?_; refine blk_put (cs := #[.slice none 0 0, .slice none 0 0]) ?_ 1 _ rfl; refine rb_ ?_; refine blk_put (cs := #[.slice none 0 0, .slice none 0 0]) ?_ 0 _ rfl; refine rb_ ?_; exact BK265.out) Try.underlying27 rfl (by kernel_rfl)) rfl ?_
  exact ⟨_, _, by first | rfl | (simp [errW_none, errW_some] <;> rfl) | (simp [*, errW_none, errW_some] <;> rfl), by first | exact Kd.R_nil _ _ _ _ _ | exact Kd.N_nil _ _ _ _ _ | exact Kd.V_nil _ _ _ _ _ | exact Kd.Q_nil _ _ _ _ _ | exact Kd.S_nil _ _ _ _ _, by first | exact Kd.S_nil _ _ _ _ _ | exact Kd.N_nil _ _ _ _ _ | exact Kd.V_nil _ _ _ _ _ | exact Kd.Q_nil _ _ _ _ _ | exact Kd.R_nil _ _ _ _ _, by repeat (first | (with_reducible first | exact HB.out | apply below_alloc | apply pw_below_drewN | apply below_drew1 | refine below_set ?_ GE264.out | refine below_set ?_ GE265.out | refine below_set ?_ GE272.out) | exact HB.out)⟩
end Go.Proofs.Ytogamkblkoobkaa.P
end
section
namespace Go.Proofs.Ytogamkblkoobkaa.Can
open Go.RowKit Go.Proofs.Ytogamkblkoobkaa Go.Proofs.Ytogamkblkoobkaa.P Go.Proofs.Ytogamkblkoobkaa.Wk Go.Proofs.Ytogamkblkoobkaa.Lg Go.Proofs.Ytogamkblkoobkaa.Pl Go.Proofs.Ytogamkblkoobkaa.Mp Go.Proofs.Ytogamkblkoobkaa.Bf Go.Proofs.Ytogamkblkoobkaa.Mn Go.Proofs.YtogamkblkoobkaaW.PrintWords Go.Proofs.YtogamkblkoobkaaW.PrintLast Go.Proofs.YtogamkblkoobkaaW.PrintMore
set_option linter.unusedVariables false
set_option linter.unusedSimpArgs false
set_option linter.unusedSectionVars false
def nxZ (n m : List (List Int)) (nb : Nat) (z : Int) (j : Nat) : Int := nxD n (z / nb) j * nb + nxD m (z % nb) j
def acZ (kind : Int) (a b : List Bool) (z : Int) : Bool := bothB kind (rdOf false a (z / b.length)) (rdOf false b (z % b.length))
def domZ (N : Nat) (z : Int) : Prop := 0 ≤ z ∧ z < (N : Int)
section
variable {a b : List Bool} {n m : List (List Int)} {kind : Int}
theorem z_parts {na nb : Nat} (hb : 1 ≤ nb) {z : Int} (h : domZ (na * nb) z) : (0 ≤ z / (nb : Int) ∧ z / (nb : Int) < (na : Int)) ∧ 0 ≤ z % (nb : Int) ∧ z % (nb : Int) < (nb : Int) := by
  obtain ⟨h0, h1⟩ := h
  refine ⟨⟨Int.ediv_nonneg h0 (by omega), ?_⟩, Int.emod_nonneg _ (by omega), Int.emod_lt_of_pos _ (by omega)⟩
  apply Int.ediv_lt_of_lt_mul (by omega)
  rw [Int.natCast_mul] at h1
  exact h1
theorem z_make {na nb : Nat} {p q : Int} (hp : 0 ≤ p ∧ p < (na : Int)) (hq : 0 ≤ q ∧ q < (nb : Int)) : domZ (na * nb) (p * nb + q) ∧ (p * nb + q) / (nb : Int) = p ∧ (p * nb + q) % (nb : Int) = q := by
  obtain ⟨i, rfl⟩ : ∃ i : Nat, p = (i : Int) := ⟨p.toNat, by omega⟩
  obtain ⟨j, rfl⟩ : ∃ j : Nat, q = (j : Int) := ⟨q.toNat, by omega⟩
  have hi : i + 1 ≤ na := by omega
  have hle : (i + 1) * nb ≤ na * nb := Nat.mul_le_mul_right nb hi
  rw [Nat.succ_mul] at hle
  have e : (i : Int) * (nb : Int) + (j : Int) = ((i * nb + j : Nat) : Int) := by rw [Int.natCast_add, Int.natCast_mul]
  rw [e]
  refine ⟨⟨by omega, by omega⟩, ?_, ?_⟩
  · rw [← Int.natCast_ediv]
    congr 1
    rw [Nat.mul_comm, Nat.mul_add_div (by omega), Nat.div_eq_of_lt (by omega), Nat.add_zero]
  · rw [← Int.natCast_emod]
    congr 1
    rw [Nat.mul_comm, Nat.mul_add_mod, Nat.mod_eq_of_lt (by omega)]
theorem z_next (hv : validD a n = true) (hw : validD b m = true) {z : Int} (h : domZ (a.length * b.length) z) (j : Nat) (hj : j < 3) : (0 ≤ nxD n (z / b.length) j ∧ nxD n (z / b.length) j < (a.length : Int)) ∧ (0 ≤ nxD m (z % b.length) j ∧ nxD m (z % b.length) j < (b.length : Int)) ∧ domZ (a.length * b.length) (nxZ n m b.length z j) ∧ nxZ n m b.length z j / (b.length : Int) = nxD n (z / b.length) j ∧ nxZ n m b.length z j % (b.length : Int) = nxD m (z % b.length) j := by
  obtain ⟨g1, _⟩ := validD_facts hw
  have hp := z_parts g1 h
  have h1 := pair_dom hv hw (z / (b.length : Int), z % (b.length : Int)) j hp hj
  exact ⟨h1.1, h1.2, z_make h1.1 h1.2⟩
theorem z_sc (hv : validD a n = true) (hw : validD b m = true) : ∀ z, domZ (a.length * b.length) z → ∀ y ∈ sc (nxZ n m b.length) z, domZ (a.length * b.length) y := fun z hz y hy => by
  simp only [sc, tl, List.mem_cons, List.not_mem_nil, or_false] at hy
  rcases hy with rfl | rfl | rfl
  · exact (z_next hv hw hz 0 (by omega)).2.2.1
  · exact (z_next hv hw hz 1 (by omega)).2.2.1
  · exact (z_next hv hw hz 2 (by omega)).2.2.1
theorem z_zero (hv : validD a n = true) (hw : validD b m = true) : domZ (a.length * b.length) 0 := by
  obtain ⟨h1, _⟩ := validD_facts hv
  obtain ⟨g1, _⟩ := validD_facts hw
  have := Nat.mul_pos h1 g1
  exact ⟨Int.le_refl _, by omega⟩
theorem z_runs (hv : validD a n = true) (hw : validD b m = true) : ∃ R, Runs (sc (nxZ n m b.length)) [0] 0 R ∧ R.length ≤ 1600 := by
  have h0 : ∀ x ∈ [(0 : Int)], domZ (a.length * b.length) x := fun x hx => by rw [List.mem_singleton] at hx; subst hx; exact z_zero hv hw
  obtain ⟨h1, h2, _⟩ := validD_facts hv
  obtain ⟨g1, g2, _⟩ := validD_facts hw
  have hN : a.length * b.length ≤ 40 * 40 := Nat.mul_le_mul h2 g2
  obtain ⟨R, hR⟩ := Runs.ends (succ := sc (nxZ n m b.length)) (N := a.length * b.length) (z_sc hv hw) (fun s hn hs => card_n (a.length * b.length) s hn hs) (a.length * b.length) [0] 0 (by simp) h0 (by simp) (by omega)
  exact ⟨R, hR, Nat.le_trans (card_n (a.length * b.length) R (hR.nodup (by simp)) (hR.all (z_sc hv hw) h0)) (by omega)⟩
theorem z_fit (hv : validD a n = true) (hw : validD b m = true) (hk : kind = 6 ∨ kind = 7) {R : List Int} (hR : Runs (sc (nxZ n m b.length)) [0] 0 R) : fitD (R.map (acZ kind a b)) (R.map (rowX (nxZ n m b.length) R)) = pdR a n b m kind := by
  obtain ⟨g1, _⟩ := validD_facts hw
  obtain ⟨h1, _⟩ := validD_facts hv
  obtain ⟨q, he, hx, hau, hq⟩ := pd_some (kind := kind) hv hw
  have hz : Auto (acZ kind a b) (nxZ n m b.length) (0 : Int) (R.map (acZ kind a b)) (R.map (rowX (nxZ n m b.length) R)) := ⟨R, hR, rfl, rfl⟩
  have e1 := hz.lang (fun z w => bothB kind (run a n w (z / b.length)) (run b m w (z % b.length))) (dom := domZ (a.length * b.length)) (z_zero hv hw) (z_sc hv hw) (fun z _ => rfl) (fun z hz k w => by
    obtain ⟨_, _, _, e1, e2⟩ := z_next hv hw hz k.val k.isLt
    show bothB kind (run a n w (rd (rowOf n (z / b.length)) (k.val : Int))) (run b m w (rd (rowOf m (z % b.length)) (k.val : Int))) = bothB kind (run a n w (nxZ n m b.length z k.val / b.length)) (run b m w (nxZ n m b.length z k.val % b.length))
    rw [e1, e2]
    rfl)
  have e2 := hau.lang (fun x w => bothB kind (run a n w x.1) (run b m w x.2)) (dom := fun _ => True) trivial (fun _ _ _ _ => trivial) (fun x _ => rfl) (fun x _ k w => rfl)
  unfold pdR
  rw [if_pos ⟨⟨hv, hw⟩, hk⟩, hx]
  refine fitD_lang hz.rows.1 hz.rows.2 hau.rows.1 hau.rows.2 ?_
  rw [e1, e2]
  funext w
  show bothB kind (run a n w (0 / (b.length : Int))) (run b m w (0 % (b.length : Int))) = bothB kind (run a n w 0) (run b m w 0)
  rw [Int.zero_ediv, Int.zero_emod]
theorem spec_fit {A : List Bool} {M : List (List Int)} (h1 : 1 ≤ A.length) (h2 : A.length ≤ 1000000) (h3 : Rows3 A.length M) : Ev (fun k => spec_l5Fits.f k A M) (fitD A M) := by
  simp only [spec_l5Fits.f]
  refine Ev.bind (min_same (fits_rows h3) h1 (by omega)) ?_
  have hc := (min_can (fits_rows h3) (st := 0) (by omega)).facts
  have hl := minD_len (fits_rows h3) (st := 0) (by omega)
  unfold fitD
  generalize minD A M 0 = mm at hc hl ⊢
  refine Ev.bind (spec_valid _ _ (by omega) (by omega)) ?_
  by_cases h : mm.1.length ≤ 40
  · have hv := valid_of hc.1 h hc.2.1
    simp only [hv, if_true, if_pos h]
    exact Ev.now _
  · have hv : validD mm.1 mm.2 = false := by
      cases hv : validD mm.1 mm.2 with
      | false => rfl
      | true => exact absurd (validD_facts hv).2.1 h
    simp only [hv, Bool.false_eq_true, if_false, if_neg h]
    exact Ev.now _
end
theorem find_in {L : List Int} {y : Int} (h : y ∈ L) : findOf L y = num L y := by
  unfold findOf
  rw [if_pos h, num_eq h]
end Go.Proofs.Ytogamkblkoobkaa.Can
end
section
namespace Go.Proofs.Ytogamkblkoobkaa.Wk
open Go.RowKit Go.Shelf Go.Proofs.Ytogamkblkoobkaa.P Go.Proofs.Ytogamkblkoobkaa.Pl Go.Proofs.Ytogamkblkoobkaa.Mp Go.Proofs.Ytogamkblkoobkaa.Bf Go.Proofs.Ytogamkblkoobkaa.Mn Go.Proofs.Ytogamkblkoobkaa.Lg Go.Proofs.Ytogamkblkoobkaa.Can Go.Proofs.YtogamkblkoobkaaW.PrintWords Go.Proofs.YtogamkblkoobkaaW.PrintLast Go.Proofs.YtogamkblkoobkaaW.PrintMore
set_option linter.unusedVariables false
set_option linter.unusedSimpArgs false
structure MemQ (w w' : World) (okl okr : Nat → Prop) (vl : Value) (g6 g9 : Nat) (L : List Int) (A : List Bool) (M : List (List Int)) (u0 u1 b0 b1 : Value) : Prop where
  list : Kd.R (Kd.int .i64) 3 w' w.heap.size okl vl L
  acc : Kd.R Kd.bool 4 w' w.heap.size (fun _ => True) u0 A
  rows : Kd.S (Kd.slice 3 (Kd.int .i64)) 67 w' w.heap.size okr u1 M
  box : w'.heap[g9]? = some (.cells #[b0, b1] 27 (0, 0))
  res : w'.heap[g6]? = some (.cells #[.slice none 0 0, .slice none 0 0] 27 (0, 0))
  bel : Below w.heap.size w w'
section
variable {w w' w2 : World} {okl okr : Nat → Prop} {vl : Value} {g6 g9 : Nat} {L : List Int} {A : List Bool} {M : List (List Int)} {u0 u1 b0 b1 : Value}
theorem MemQ.below (h : MemQ w w' okl okr vl g6 g9 L A M u0 u1 b0 b1) (hb : Below w'.heap.size w' w2) : MemQ w w2 okl okr vl g6 g9 L A M u0 u1 b0 b1 :=
  ⟨Kd.R_below h.list hb, Kd.R_below h.acc hb, Kd.S_below h.rows hb, blk_below h.box hb, blk_below h.res hb, below_then h.bel h.bel.size hb⟩
theorem MemQ.listed {vn : Value} {Ln : List Int} (h : MemQ w w' okl (fun k => okr k ∧ some k ≠ vl.ownBlock) vl g6 g9 L A M u0 u1 b0 b1) (hg : w'.grownBy w2 vl.ownBlock) (hat : vn.ownBlock = vl.ownBlock ∨ ∃ b, vn.ownBlock = some b ∧ w'.heap.size ≤ b) (ho : Kd.R (Kd.int .i64) 3 w2 w.heap.size okl vn Ln) (hb : Below w.heap.size w w2) : MemQ w w2 okl (fun k => okr k ∧ some k ≠ vn.ownBlock) vn g6 g9 Ln A M u0 u1 b0 b1 :=
  ⟨ho, Kd.R_over' h.acc (Kd.R_typed h.list) (by decide) hg, Kd.S_after h.rows hg hat, blk_grown h.box hg (Kd.R_ne h.list h.box (by decide)), blk_grown h.res hg (Kd.R_ne h.list h.res (by decide)), hb⟩
theorem MemQ.rowed {v v1 : Value} {xs : List Int} {base : Nat} {okw : Nat → Prop} (h : MemQ w w' (fun k => okl k ∧ some k ≠ v.ownBlock) okr vl g6 g9 L A M u0 u1 b0 b1) (hr : Kd.R (Kd.int .i64) 3 w' base okw v xs) (hg : w'.grownBy w2 v.ownBlock) (hat : v1.ownBlock = v.ownBlock ∨ ∃ b, v1.ownBlock = some b ∧ w'.heap.size ≤ b) (hok : ∀ k, okr k → some k ≠ v.ownBlock) (hb : Below w.heap.size w w2) : MemQ w w2 (fun k => okl k ∧ some k ≠ v1.ownBlock) okr vl g6 g9 L A M u0 u1 b0 b1 :=
  ⟨Kd.R_after h.list hg hat, Kd.R_over' h.acc (Kd.R_typed hr) (by decide) hg, Kd.S_grown h.rows hg hok, blk_grown h.box hg (Kd.R_ne hr h.box (by decide)), blk_grown h.res hg (Kd.R_ne hr h.res (by decide)), hb⟩
theorem MemQ.accd {vn : Value} {An : List Bool} (h : MemQ w w' okl okr vl g6 g9 L A M u0 u1 b0 b1) (hg : w'.grownBy w2 u0.ownBlock) (ho : Kd.R Kd.bool 4 w2 w.heap.size (fun _ => True) vn An) (hb : Below w.heap.size w w2) : MemQ w w2 okl okr vl g6 g9 L An M vn u1 b0 b1 :=
  ⟨Kd.R_over' h.list (Kd.R_typed h.acc) (by decide) hg, ho, Kd.S_over' h.rows (Kd.R_typed h.acc) (by decide) hg, blk_grown h.box hg (Kd.R_ne h.acc h.box (by decide)), blk_grown h.res hg (Kd.R_ne h.acc h.res (by decide)), hb⟩
theorem MemQ.rowsd {vn : Value} {Mn : List (List Int)} {okn : Nat → Prop} (h : MemQ w w' okl okr vl g6 g9 L A M u0 u1 b0 b1) (hg : w'.grownBy w2 u1.ownBlock) (ho : Kd.S (Kd.slice 3 (Kd.int .i64)) 67 w2 w.heap.size okn vn Mn) (hb : Below w.heap.size w w2) : MemQ w w2 okl okn vl g6 g9 L A Mn u0 vn b0 b1 :=
  ⟨Kd.R_over' h.list (Kd.S_typed h.rows) (by decide) hg, Kd.R_over' h.acc (Kd.S_typed h.rows) (by decide) hg, ho, blk_grown h.box hg (Kd.S_ne h.rows h.box (by decide)), blk_grown h.res hg (Kd.S_ne h.rows h.res (by decide)), hb⟩
theorem MemQ.opened {v : Value} (h : MemQ w w' (fun _ => True) (fun k => True ∧ some k ≠ vl.ownBlock) vl g6 g9 L A M u0 u1 b0 b1) (ho : Kd.R (Kd.int .i64) 3 w2 w'.heap.size (fun _ => True) v []) (hb : Below w'.heap.size w' w2) :
    MemQ w w2 (fun k => True ∧ some k ≠ v.ownBlock) (fun k => k < w'.heap.size ∧ some k ≠ vl.ownBlock) vl g6 g9 L A M u0 u1 b0 b1 ∧ Kd.R (Kd.int .i64) 3 w2 w.heap.size (fun k => True ∧ some k ≠ vl.ownBlock) v [] :=
  ⟨⟨Kd.R_below (Kd.R_mono (Kd.R_bound h.list) (fun k hk => ⟨trivial, fun e => by have h1 := Kd.R_base ho k e.symm; have h2 := hk.2.2.1; omega⟩)) hb, Kd.R_below h.acc hb, Kd.S_below (Kd.S_mono (Kd.S_bound h.rows) (fun k hk => ⟨hk.2.2.1, hk.1.2⟩)) hb, blk_below h.box hb, blk_below h.res hb, below_then h.bel h.bel.size hb⟩,
    Kd.R_lower (Kd.R_mono (Kd.R_bound ho) (fun k hk => ⟨trivial, fun e => by have h1 := Kd.R_lt h.list k e.symm; have h2 := hk.2.1; omega⟩)) h.bel.size⟩
theorem MemQ.put {v : Value} (h : MemQ w w' okl okr vl g6 g9 L A M u0 u1 b0 b1) (hn : g6 ≠ g9) (hl : w.heap.size ≤ g9) (j : Nat) {c0 c1 : Value} (hbx : (w'.setCell ⟨g9, j, none⟩ v).heap[g9]? = some (.cells #[c0, c1] 27 (0, 0))) : MemQ w (w'.setCell ⟨g9, j, none⟩ v) okl okr vl g6 g9 L A M u0 u1 c0 c1 :=
  ⟨Kd.R_set h.list h.box (by decide) j v, Kd.R_set h.acc h.box (by decide) j v, Kd.S_set h.rows h.box (by decide) j v, hbx, blk_grown h.res (gb_set (gb_refl _ _) j v) (fun e => hn (Option.some.inj e)), below_set h.bel hl⟩
end
def T15z : Bool × List (List Nat × List Nat) := (true, [([], []), ([0], [0]), ([], []), ([1, 2], [1, 2]), ([3], [3]), ([], []), ([4, 5], [4, 5]), ([6], [6]), ([], []), ([7, 8], [7, 8]), ([], []), ([10], [10]), ([], []), ([11, 12], [11, 12]), ([13], [13]), ([], []), ([14, 15], [14, 15]), ([16], [16]), ([9, 17], [9, 17]), ([18, 0, 1, 2, 3, 4, 5, 6, 7, 8, 9, 10, 11, 12, 13, 14, 15, 16, 17, 18], [18])])
def B15z : List Nat := [0, 1, 0, 7, 15, 0, 63, 127, 0, 511, 0, 1024, 0, 7168, 15360, 0, 64512, 130048, 262143, 524287]
theorem tab15z : rtab .any (opsOf Try.f19 15) = T15z := by kernel_rfl
theorem bits15z : waitsOk T15z.2 B15z = true := by kernel_rfl
set_option maxHeartbeats 8000000 in
set_option maxRecDepth 100000 in
theorem spdCalls (A0 : Option Addr) (c0 : Nat) (l0 : List Bool) (A1 : Option Addr) (c1 : Nat) (l1 : List (List Int)) (B0 : Option Addr) (d0 : Nat) (m0 : List Bool) (B1 : Option Addr) (d1 : Nat) (m1 : List (List Int)) (kind : Int) (w : World) (hr0 : Kd.C Kd.bool w A0 l0.length l0) (hc0 : l0.length ≤ c0) (hr1 : Kd.C (Kd.slice 3 (Kd.int .i64)) w A1 l1.length l1) (hc1 : l1.length ≤ c1) (hs0 : Kd.C Kd.bool w B0 m0.length m0) (hd0 : m0.length ≤ d0) (hs1 : Kd.C (Kd.slice 3 (Kd.int .i64)) w B1 m1.length m1) (hd1 : m1.length ≤ d1)
    (z0 : l0.length ≤ 1048576) (z1 : l1.length ≤ 1048576) (z2 : m0.length ≤ 1048576) (z3 : m1.length ≤ 1048576) :
    Calls Try.prog 19 #[.agg #[.slice A0 l0.length c0, .slice A1 l1.length c1], .agg #[.slice B0 m0.length d0, .slice B1 m1.length d1], .int .i64 kind] w fun e w' => ∃ v0 v1 : Value, e = .returned (.tuple #[.agg #[v0, v1], .bool (pdR l0 l1 m0 m1 kind).2.2]) ∧ Kd.R Kd.bool 4 w' w.heap.size (fun _ => True) v0 (pdR l0 l1 m0 m1 kind).1 ∧ Kd.S (Kd.slice 3 (Kd.int .i64)) 67 w' w.heap.size (fun _ => True) v1 (pdR l0 l1 m0 m1 kind).2.1 ∧ Below w.heap.size w w' := by
  have hu := Try.underlying27
  obtain ⟨ka, hka⟩ := (spec_valid l0 l1 z0 z1).rounds
  obtain ⟨kb, hkb⟩ := (spec_valid m0 m1 z2 z3).rounds
  have HV := am_ (fun W (hb : Below w.heap.size w W) => spec_IsValidDfa.calls ka A0 c0 l0 A1 c1 l1 _ W (Kd.C_below hr0 hb) hc0 (Kd.C_below hr1 hb) hc1 hka)
  have HV2 := am_ (fun W (hb : Below w.heap.size w W) => spec_IsValidDfa.calls kb B0 d0 m0 B1 d1 m1 _ W (Kd.C_below hs0 hb) hd0 (Kd.C_below hs1 hb) hd1 hkb)
  obtain ⟨OA, hOA⟩ : ∃ o : Obj, o = Obj.cells #[.slice A0 l0.length c0, .slice A1 l1.length c1] 27 := ⟨_, rfl⟩
  obtain ⟨OB, hOB⟩ : ∃ o : Obj, o = Obj.cells #[.slice B0 m0.length d0, .slice B1 m1.length d1] 27 := ⟨_, rfl⟩
  obtain ⟨OD, hOD⟩ : ∃ o : Obj, o = Obj.cells #[.slice none 0 0, .slice none 0 0] 27 := ⟨_, rfl⟩
  have HB0 : Aside0 (Below w.heap.size w (((w.alloc OA).alloc OB).alloc OD)) := ⟨below_alloc (below_alloc (below_alloc (Below.refl w.heap.size w) _) _) _⟩
  have KA0 : Aside0 (World.cell? (((w.alloc OA).alloc OB).alloc OD) ⟨w.heap.size, 0, none⟩ = some (.slice A0 l0.length c0)) := ⟨by rw [hOA]; exact pw_cell_below (below_alloc (below_alloc (Below.refl _ _) _) _) (by simp)⟩
  have KA1 : Aside0 (World.cell? (((w.alloc OA).alloc OB).alloc OD) ⟨w.heap.size, 1, none⟩ = some (.slice A1 l1.length c1)) := ⟨by rw [hOA]; exact pw_cell_below (below_alloc (below_alloc (Below.refl _ _) _) _) (by simp)⟩
  have KB0 : Aside0 (World.cell? (((w.alloc OA).alloc OB).alloc OD) ⟨w.heap.size + 1, 0, none⟩ = some (.slice B0 m0.length d0)) := ⟨by rw [hOB]; exact pw_cell_below (below_alloc (Below.refl _ _) _) (by simp)⟩
  have KB1 : Aside0 (World.cell? (((w.alloc OA).alloc OB).alloc OD) ⟨w.heap.size + 1, 1, none⟩ = some (.slice B1 m1.length d1)) := ⟨by rw [hOB]; exact pw_cell_below (below_alloc (Below.refl _ _) _) (by simp)⟩
  have HR8 : Aside0 ((((w.alloc OA).alloc OB).alloc OD).heap[w.heap.size + 1 + 1]? = some (.cells #[.slice none 0 0, .slice none 0 0] 27 (0, 0))) := ⟨by
    have h0 := blk_new ((w.alloc OA).alloc OB) OD
    rw [hOD] at h0 ⊢
    simpa using h0⟩
  have HGE : Aside0 (w.heap.size ≤ w.heap.size + 1 + 1) := ⟨by omega⟩
  cases hv : validD l0 l1 with
  | false =>
    rw [hv] at HV
    have e : pdR l0 l1 m0 m1 kind = ([], [], false) := by unfold pdR; rw [hv]; rw [if_neg]; rintro ⟨⟨h, _⟩, _⟩; cases h
    rw [e]
    subst hOA hOB hOD
    clear hv e hr0 hr1 hs0 hs1 HV2 hka hkb hc0 hc1 hd0 hd1 z0 z1 z2 z3
    go_enter Try.func19, Try.ntmps19
    go_wp2_with (go_at_call 35; (with_reducible refine (HV.out _ ?hq0).mono ?_); (case hq0 => exact HB0.out); rintro e w1 ⟨rfl, hb⟩; have HB := am_ (below_then HB0.out HB0.out.size hb); have HR9 := am_ (blk_below HR8.out hb); have hcz0 : World.cell? w1 ⟨w.heap.size + 1 + 1, 0, none⟩ = some (.slice none 0 0) := (blk_cell HR9.out 0).trans rfl; have hcz1 : World.cell? w1 ⟨w.heap.size + 1 + 1, 1, none⟩ = some (.slice none 0 0) := (blk_cell HR9.out 1).trans rfl; have hfz0 := blk_frozen HR9.out 0; have hfz1 := blk_frozen HR9.out 1; clear hb)
    have HT4 : Aside0 (((w1.setCell ⟨w.heap.size + 1 + 1, 0, none⟩ (.slice none 0 0)).setCell ⟨w.heap.size + 1 + 1, 1, none⟩ (.slice none 0 0)).heap[w.heap.size + 1 + 1]? = some (.cells #[.slice none 0 0, .slice none 0 0] 27 (0, 0))) := ⟨blk_put (blk_put (cs' := #[.slice none 0 0, .slice none 0 0]) HR9.out 0 _ rfl) 1 _ rfl⟩
    refine bodyPost_ret (results_ct rfl _ _ (w.heap.size + 1 + 1) 27 #[.slice none 0 0, .slice none 0 0] (0, 0) _ rfl HT4.out Try.underlying27 rfl (by kernel_rfl)) rfl ?_
    exact ⟨_, _, rfl, Kd.R_nil _ _ _ _ _, Kd.S_nil _ _ _ _ _, below_set (below_set HB.out HGE.out) HGE.out⟩
  | true =>
    rw [hv] at HV
    cases hv2 : validD m0 m1 with
    | false =>
      rw [hv2] at HV2
      have e : pdR l0 l1 m0 m1 kind = ([], [], false) := by unfold pdR; rw [hv2]; rw [if_neg]; rintro ⟨⟨_, h⟩, _⟩; cases h
      rw [e]
      subst hOA hOB hOD
      clear hv hv2 e hr0 hr1 hs0 hs1 hka hkb hc0 hc1 hd0 hd1 z0 z1 z2 z3
      go_enter Try.func19, Try.ntmps19
      go_wp2_with (first | (go_at_call 35; (with_reducible refine (HV.out _ ?hq0).mono ?_); (case hq0 => exact HB0.out); rintro e w1 ⟨rfl, hb⟩; have HB1 := am_ (below_then HB0.out HB0.out.size hb); have HR1 := am_ (blk_below HR8.out hb); have ha0 := am_ (pw_cell_below hb KA0.out); have ha1 := am_ (pw_cell_below hb KA1.out); have hb0 := pw_cell_below hb KB0.out; have hb1 := pw_cell_below hb KB1.out; clear hb) | (go_at_call 35; (with_reducible refine (HV2.out _ ?hq1).mono ?_); (case hq1 => exact HB1.out); rintro e V ⟨rfl, hb⟩; have HB := am_ (below_then HB1.out HB1.out.size hb); have HR9 := am_ (blk_below HR1.out hb); have hc0 := am_ (pw_cell_below hb ha0.out); have hc1 := am_ (pw_cell_below hb ha1.out); have hc2 := pw_cell_below hb hb0; have hc3 := am_ (pw_cell_below hb hb1); have hcz0 : World.cell? V ⟨w.heap.size + 1 + 1, 0, none⟩ = some (.slice none 0 0) := (blk_cell HR9.out 0).trans rfl; have hcz1 : World.cell? V ⟨w.heap.size + 1 + 1, 1, none⟩ = some (.slice none 0 0) := (blk_cell HR9.out 1).trans rfl; have hfz0 := blk_frozen HR9.out 0; have hfz1 := blk_frozen HR9.out 1; clear hb hb0 hb1))
      have HT4 : Aside0 (((V.setCell ⟨w.heap.size + 1 + 1, 0, none⟩ (.slice none 0 0)).setCell ⟨w.heap.size + 1 + 1, 1, none⟩ (.slice none 0 0)).heap[w.heap.size + 1 + 1]? = some (.cells #[.slice none 0 0, .slice none 0 0] 27 (0, 0))) := ⟨blk_put (blk_put (cs' := #[.slice none 0 0, .slice none 0 0]) HR9.out 0 _ rfl) 1 _ rfl⟩
      refine bodyPost_ret (results_ct rfl _ _ (w.heap.size + 1 + 1) 27 #[.slice none 0 0, .slice none 0 0] (0, 0) _ rfl HT4.out Try.underlying27 rfl (by kernel_rfl)) rfl ?_
      exact ⟨_, _, rfl, Kd.R_nil _ _ _ _ _, Kd.S_nil _ _ _ _ _, below_set (below_set HB.out HGE.out) HGE.out⟩
    | true =>
      rw [hv2] at HV2
      by_cases hkk : kind = 6 ∨ kind = 7
      ·
        obtain ⟨R, hR, hR16⟩ := z_runs hv hv2
        have hfit := z_fit (kind := kind) hv hv2 hkk hR
        rw [← hfit]
        obtain ⟨n1, n2, n3, n4⟩ := validD_facts hv
        obtain ⟨k1, k2, k3, k4⟩ := validD_facts hv2
        have hall := hR.all (z_sc hv hv2) (fun x hx => by rw [List.mem_singleton] at hx; subst hx; exact z_zero hv hv2)
        have hrw : Rows3 (R.map (acZ kind l0 m0)).length (R.map (rowX (nxZ l1 m1 m0.length) R)) := (Auto.rows (x0 := (0 : Int)) ⟨R, hR, rfl, rfl⟩).2
        have hr1l := hR.pre.length_le
        obtain ⟨kf, hkf⟩ := (spec_fit (by rw [List.length_map]; exact hr1l) (by rw [List.length_map]; omega) hrw).rounds
        have HKF := am_ hkf
        generalize fitD (R.map (acZ kind l0 m0)) (R.map (rowX (nxZ l1 m1 m0.length) R)) = fr at HKF ⊢
        obtain ⟨f1, f2, f3⟩ := fr
        have HRUN := am_ hR
        have HALL := am_ hall
        have HR16 := am_ hR16
        have HNX := am_ (fun z hz j hj => z_next hv hv2 (z := z) hz j hj)
        have HPT := am_ (fun z hz => z_parts (na := l0.length) k1 (z := z) hz)
        have HROW := am_ (fun x hx => (fits_valid hv).row x hx)
        have HROW2 := am_ (fun x hx => (fits_valid hv2).row x hx)
        have HSZ := am_ (show l0.length ≤ 40 ∧ m0.length ≤ 40 ∧ 1 ≤ l0.length ∧ 1 ≤ m0.length ∧ l1.length = l0.length ∧ m1.length = m0.length from ⟨n2, k2, n1, k1, n3, k3⟩)
        obtain ⟨a0, e0, _⟩ := Kd.at_bool hr0 0 (by omega) (by omega)
        obtain ⟨a1, e1, _⟩ := cellsRows hr1 (by omega)
        obtain ⟨b0, e2, _⟩ := Kd.at_bool hs0 0 (by omega) (by omega)
        obtain ⟨b1, e3, _⟩ := cellsRows hs1 (by omega)
        subst e0 e1 e2 e3
        have HC0 := am_ hr0
        have HC1 := am_ hr1
        have HD0 := am_ hs0
        have HD1 := am_ hs1
        subst hOA hOB hOD
        clear hv hv2 hfit hR hR16 hall hrw hr1l hkf hr0 hr1 hs0 hs1 n1 n2 n3 n4 k1 k2 k3 k4 hka hkb hc0 hc1 hd0 hd1 z0 z1 z2 z3
        obtain ⟨kd, HKD⟩ : ∃ kd, Aside0 (kd = kind) := ⟨kind, ⟨rfl⟩⟩
        have HKF : Aside0 (spec_l5Fits.f kf (R.map (acZ kd l0 m0)) (R.map (rowX (nxZ l1 m1 m0.length) R)) = some (f1, f2, f3)) := ⟨by rw [HKD.out]; exact HKF.out⟩
        rcases hkk with rfl | rfl
        all_goals
          go_enter Try.func19, Try.ntmps19
          go_wp2_with (first | (go_at_call 35; (with_reducible refine (HV.out _ ?hq0).mono ?_); (case hq0 => exact HB0.out); rintro e w1 ⟨rfl, hb⟩; have HB1 := am_ (below_then HB0.out HB0.out.size hb); have HR1 := am_ (blk_below HR8.out hb); have ha0 := am_ (pw_cell_below hb KA0.out); have ha1 := am_ (pw_cell_below hb KA1.out); have hb0 := pw_cell_below hb KB0.out; have hb1 := pw_cell_below hb KB1.out; clear hb) | (go_at_call 35; (with_reducible refine (HV2.out _ ?hq1).mono ?_); (case hq1 => exact HB1.out); rintro e V ⟨rfl, hb⟩; have HB := am_ (below_then HB1.out HB1.out.size hb); have HR9 := am_ (blk_below HR1.out hb); have hc0 := am_ (pw_cell_below hb ha0.out); have hc1 := am_ (pw_cell_below hb ha1.out); have hc2 := pw_cell_below hb hb0; have hc3 := am_ (pw_cell_below hb hb1); have hcz0 : World.cell? V ⟨w.heap.size + 1 + 1, 0, none⟩ = some (.slice none 0 0) := (blk_cell HR9.out 0).trans rfl; have hcz1 : World.cell? V ⟨w.heap.size + 1 + 1, 1, none⟩ = some (.slice none 0 0) := (blk_cell HR9.out 1).trans rfl; have hfz0 := blk_frozen HR9.out 0; have hfz1 := blk_frozen HR9.out 1; clear hb hb0 hb1))
          have hbA := below_alloc (Below.refl V.heap.size V) (Obj.cells #[Value.slice none 0 0, Value.slice none 0 0] 27)
          have hM0 : MemQ V ((V.alloc (Obj.cells #[Value.slice none 0 0, Value.slice none 0 0] 27)).alloc (Obj.cells #[Value.int .i64 0] 3)) (fun _ => True) (fun k => True ∧ some k ≠ (Value.slice (some ⟨V.heap.size + 1, 0, none⟩) 1 1).ownBlock) (.slice (some ⟨V.heap.size + 1, 0, none⟩) 1 1) (w.heap.size + 1 + 1) V.heap.size [0] [] [] (.slice none 0 0) (.slice none 0 0) (.slice none 0 0) (.slice none 0 0) :=
            ⟨by
              have := R_here (okp := fun _ => True) (inner := [.int .i64 0]) (Kd.int .i64) (V.alloc (Obj.cells #[Value.slice none 0 0, Value.slice none 0 0] 27)) V.heap.size 3 (xs := [(0 : Int)]) (Reps.one (show Kd.M (Kd.int .i64) _ _ _ (0 : Int) [.int .i64 0] from rfl) (Reps.none _ _)) (by simp) (by simp)
              simpa using this, Kd.R_nil _ _ _ _ _, Kd.S_nil _ _ _ _ _, blk_alloc (blk_new V _) _, blk_alloc (blk_alloc HR9.out _) _, below_alloc hbA _⟩
          have HMEM := am_ hM0
          have H69 : Aside0 (w.heap.size + 1 + 1 ≠ V.heap.size) := ⟨by have := blk_lt HR9.out; omega⟩
          have HG6 : Aside0 (w.heap.size + 1 + 1 < V.heap.size) := ⟨blk_lt HR9.out⟩
          have hc2 := am_ hc2
          clear hM0 hbA hcz0 hcz1 hfz0 hfz1 HB0 KA0 KA1 KB0 KB1 HR8 HB1 HR1 ha0 ha1 HV HV2
          generalize (V.alloc (Obj.cells #[Value.slice none 0 0, Value.slice none 0 0] 27)).alloc (Obj.cells #[Value.int .i64 0] 3) = ws at HMEM ⊢
          go_loopg [10, 11] (R.length + 2) (fun gg v10 v11 wr => ∃ (L : List Int) (i : Nat) (xa : List Bool) (xy : List (List Int)) (u0 u1 : Value), v11 = .int .i64 (i : Int) ∧ Aside0 (i ≤ L.length) ∧ Aside0 (R.length + 2 ≤ gg + i) ∧ Aside0 (Runs (sc (nxZ l1 m1 m0.length)) L i R) ∧ Aside0 (xa = (R.take i).map (acZ kd l0 m0)) ∧ Aside0 (xy = (R.take i).map (rowX (nxZ l1 m1 m0.length) R)) ∧ Aside0 (MemQ V wr (fun _ => True) (fun k => True ∧ some k ≠ v10.ownBlock) v10 (w.heap.size + 1 + 1) V.heap.size L xa xy u0 u1 u0 u1))
          case atStart => exact ⟨[0], 0, [], [], _, _, rfl, ⟨by simp⟩, ⟨by omega⟩, HRUN, ⟨rfl⟩, ⟨rfl⟩, HMEM⟩
          case round =>
            clear HMEM HRUN
            obtain ⟨L, i, xa, xy, u0, u1, rfl, HI, HG, HRUN, HXA, HXY, HMEM⟩ := hrel
            have hpre := HRUN.out.pre
            have hlr := hpre.length_le
            cases gk with
            | zero => exact absurd HI.out (by have := HG.out; omega)
            | succ g =>
              obtain ⟨A10, c10, e10⟩ := Kd.R_slice HMEM.out.list
              subst e10
              obtain ⟨Aa, ca, ea⟩ := Kd.R_slice HMEM.out.acc
              subst ea
              obtain ⟨Ay, cy, ey⟩ := Kd.S_slice HMEM.out.rows
              subst ey
              by_cases hi : i < L.length
              ·
                have hrun : Runs (sc (nxZ l1 m1 m0.length)) (adds L (sc (nxZ l1 m1 m0.length) L[i])) (i + 1) R := by
                  cases HRUN.out with
                  | stop h => omega
                  | step _ h => exact h
                have hRi : R[i]? = some L[i] := by
                  rw [List.getElem?_eq_getElem (by omega)]
                  exact congrArg some (hpre.getElem hi).symm
                have hLi : L[i]? = some L[i] := List.getElem?_eq_getElem hi
                have hdz := HALL.out _ (hpre.subset (List.getElem_mem hi))
                obtain ⟨ad10, ea10, hx10⟩ := Kd.at_int (Kd.R_reads' HMEM.out.list).2.2 (i : Int) (by omega) (by omega)
                subst ea10
                rw [rd_get L i hi, Int.toNat_natCast] at hx10
                generalize L[i] = z at hrun hRi hLi hdz hx10
                obtain ⟨hp, hq⟩ := HPT.out z hdz
                obtain ⟨pp, hpp⟩ : ∃ pp : Int, pp = z / (m0.length : Int) := ⟨_, rfl⟩
                obtain ⟨qq, hqq⟩ : ∃ qq : Int, qq = z % (m0.length : Int) := ⟨_, rfl⟩
                rw [← hpp] at hp
                rw [← hqq] at hq
                have htd : Int.tdiv z (m0.length : Int) = pp := by rw [hpp]; exact Int.tdiv_eq_ediv_of_nonneg hdz.1
                have htm : Int.tmod z (m0.length : Int) = qq := by rw [hqq]; exact Int.tmod_eq_emod_of_nonneg hdz.1
                have ewp : wrap64 pp = pp := w64 (by have := HSZ.out; omega) (by have := HSZ.out; omega)
                have hn0 : ((m0.length : Int) = 0) = False := eq_false (by have := HSZ.out; omega)
                have hn1 : (m0.length = 0) = False := eq_false (by have := HSZ.out; omega)
                have hn2 : (m0 = []) = False := eq_false (fun h => by have := HSZ.out; rw [h] at this; simp at this)
                have hn3 : ((m0.length : Int) == 0) = false := beq_eq_false_iff_ne.mpr (by have := HSZ.out; omega)
                have hn4 : decide ((m0.length : Int) = 0) = false := decide_eq_false (by have := HSZ.out; omega)
                have hn5 : decide (m0.length = 0) = false := decide_eq_false (by have := HSZ.out; omega)
                have p1 : ((0 : Int) ≤ (i : Int)) = True := eq_true (by omega)
                have q1 : ((i : Int) < (L.length : Int)) = True := eq_true (by omega)
                have hb1 : World.cell? wr ⟨w.heap.size + 1, 0, none⟩ = some (.slice (some b0) m0.length d0) := pw_cell_below HMEM.out.bel hc2.out
                have HI3 := am_ hi
                have HLR := am_ hlr
                have HRI := am_ hRi
                have HLI := am_ hLi
                have HDZ := am_ hdz
                have HPP := am_ hpp
                have HQQ := am_ hqq
                have HP := am_ hp
                have HQ := am_ hq
                have HRUN := am_ hrun
                clear hpre hi hlr hRi hLi hdz hpp hqq hp hq hrun HI
                go_wp2_with ((with_reducible refine gate_dst (N := 60) rfl ?_); refine Kd.R_lit (Kd.int .i64) _ 3 ?hg (N := 60) ?hd (xs := ([] : List Int)) (inner := []) (ok := fun _ => True) (okp := fun _ => True) ?hr ?hp (fun _ hk => hk) trivial (Below.refl _ _) (Nat.le_refl _) (by simp) ?_; (case hd => rfl); (case hg => rfl); (case hr => first | (go_simp; done) | (go_simp; rfl)); (case hp => exact (Reps.none _ _)); intro v14 w6 ho hb hg_ hnew_; clear hg_ hnew_; have HMI := am_ (HMEM.out.opened ho hb).1; have HROWI := am_ (HMEM.out.opened ho hb).2; have HOB := am_ (fun k => Kd.R_base ho k); have HSW := am_ hb.size; clear ho hb)
                obtain ⟨W1, rfl⟩ : ∃ wo : World, wo = wr := ⟨_, rfl⟩
                clear HMEM q1 hx10 hb1 htd htm ewp hn0 hn1 hn2 hn3 hn4 hn5
                go_loopg [10, 14, 15] 3 (fun gg v10 v14 v15 wr => ∃ (L : List Int) (row : List Int) (j : Nat), v15 = .int .i64 (j : Int) ∧ Aside0 (j ≤ 3) ∧ Aside0 (3 ≤ gg + j) ∧ Aside0 (Runs (sc (nxZ l1 m1 m0.length)) (adds L (tl (nxZ l1 m1 m0.length) z (3 - j) j)) (i + 1) R) ∧ Aside0 (L[i]? = some z) ∧ Aside0 (row = ((sc (nxZ l1 m1 m0.length) z).take j).map (num R)) ∧ Aside0 (MemQ V wr (fun k => True ∧ some k ≠ v14.ownBlock) (fun k => k < W1.heap.size ∧ some k ≠ v10.ownBlock) v10 (w.heap.size + 1 + 1) V.heap.size L xa xy (.slice Aa xa.length ca) (.slice Ay xy.length cy) (.slice Aa xa.length ca) (.slice Ay xy.length cy)) ∧ Aside0 (Kd.R (Kd.int .i64) 3 wr V.heap.size (fun k => True ∧ some k ≠ v10.ownBlock) v14 row) ∧ Aside0 (∀ k, v14.ownBlock = some k → W1.heap.size ≤ k) ∧ Aside0 (W1.heap.size ≤ wr.heap.size))
                case atStart => exact ⟨L, [], 0, rfl, ⟨by omega⟩, ⟨by omega⟩, HRUN, HLI, ⟨rfl⟩, HMI, HROWI, HOB, HSW⟩
                case round =>
                  clear HMI HROWI HOB HSW HLI HRUN HI3 HLR
                  obtain ⟨L, row, j, rfl, HJ, HGJ, HRUN, HLI, HRW, HM4, HROW4, HOB, HSW4⟩ := hrel
                  obtain ⟨A10, c10, e10⟩ := Kd.R_slice HM4.out.list
                  subst e10
                  obtain ⟨A14, c14, e14⟩ := Kd.R_slice HROW4.out
                  subst e14
                  have hpre := HRUN.out.pre
                  have hlr := ((adds_pre (tl (nxZ l1 m1 m0.length) z (3 - j) j) L).trans hpre).length_le
                  have HBW := am_ (below_then HB.out HB.out.size HM4.out.bel)
                  by_cases hj : j < 3
                  ·
                    cases gk with
                    | zero => exact absurd HGJ.out (by omega)
                    | succ g3 =>
                    obtain ⟨hx1, hx2, hyd, _, _⟩ := HNX.out z HDZ.out j hj
                    rw [← HPP.out] at hx1
                    rw [← HQQ.out] at hx2
                    have hyy : (nxZ l1 m1 m0.length) z j = nxD l1 pp j * (m0.length : Int) + nxD m1 qq j := by unfold nxZ; rw [← HPP.out, ← HQQ.out]
                    have htl : tl (nxZ l1 m1 m0.length) z (3 - j) j = (nxZ l1 m1 m0.length) z j :: tl (nxZ l1 m1 m0.length) z (3 - (j + 1)) (j + 1) := by rw [show 3 - j = (3 - (j + 1)) + 1 by omega, tl]
                    have hrun := HRUN.out
                    rw [htl, adds_cons] at hrun
                    have hrow : ((sc (nxZ l1 m1 m0.length) z).take (j + 1)).map (num R) = row ++ [num R ((nxZ l1 m1 m0.length) z j)] := by
                      rw [HRW.out]
                      match j, hj with
                      | 0, _ => rfl
                      | 1, _ => rfl
                      | 2, _ => rfl
                    generalize (nxZ l1 m1 m0.length) z j = y at hyy hrun hrow hyd
                    obtain ⟨_, e1, hcell1⟩ := cellsRows HC1.out (by have := HSZ.out; omega)
                    cases e1
                    obtain ⟨Ar, cr, hxr, hCr⟩ := hcell1 pp.toNat (by have := HSZ.out; have := HP.out; omega)
                    obtain ⟨_, e2, hcell2⟩ := cellsRows HD1.out (by have := HSZ.out; omega)
                    cases e2
                    obtain ⟨Bs, cs, hxs, hCs⟩ := hcell2 qq.toNat (by have := HSZ.out; have := HQ.out; omega)
                    have h3 := (HROW.out pp HP.out).1
                    have h4 := (HROW2.out qq HQ.out).1
                    unfold rowOf at h3 h4
                    unfold nxD at hyy hx1 hx2
                    generalize l1.getD pp.toNat [] = row1 at hxr hCr h3 hyy hx1
                    generalize m1.getD qq.toNat [] = row2 at hxs hCs h4 hyy hx2
                    obtain ⟨ar, e3, hxj⟩ := Kd.at_int hCr (j : Int) (by omega) (by omega)
                    subst e3
                    obtain ⟨br, e4, hyj⟩ := Kd.at_int hCs (j : Int) (by omega) (by omega)
                    subst e4
                    rw [h3] at hxr
                    rw [h4] at hxs
                    rw [Int.toNat_natCast] at hxj hyj
                    generalize rd row1 (j : Int) = x1 at hxj hyy hx1
                    generalize rd row2 (j : Int) = x2 at hyj hyy hx2
                    have kA := pw_cell_below HM4.out.bel hc1.out
                    have kB := pw_cell_below HM4.out.bel hc3.out
                    have hxr := pw_cell_below HBW.out hxr
                    have hxs := pw_cell_below HBW.out hxs
                    have hxj := pw_cell_below HBW.out hxj
                    have hyj := pw_cell_below HBW.out hyj
                    have hbd : 0 ≤ x1 * (m0.length : Int) ∧ x1 * (m0.length : Int) ≤ 1600 := by
                      have h5 := HSZ.out
                      refine ⟨Int.mul_nonneg hx1.1 (by omega), ?_⟩
                      calc x1 * (m0.length : Int) ≤ 40 * (m0.length : Int) := Int.mul_le_mul_of_nonneg_right (by omega) (by omega)
                        _ ≤ 1600 := by omega
                    have ew1 : wrap64 (x1 * (m0.length : Int)) = x1 * (m0.length : Int) := w64 (by omega) (by omega)
                    have ew2 : wrap64 (x1 * (m0.length : Int) + x2) = y := by rw [hyy]; exact w64 (by have := HSZ.out; omega) (by have := HSZ.out; omega)
                    have p2 : ((0 : Int) ≤ pp) = True := eq_true HP.out.1
                    have q2 : (pp < (l1.length : Int)) = True := eq_true (by have := HSZ.out; have := HP.out; omega)
                    have p3 : ((0 : Int) ≤ qq) = True := eq_true HQ.out.1
                    have q3 : (qq < (m1.length : Int)) = True := eq_true (by have := HSZ.out; have := HQ.out; omega)
                    have p4 : ((0 : Int) ≤ (j : Int)) = True := eq_true (by omega)
                    have q4 : ((j : Int) < (3 : Int)) = True := eq_true (by omega)
                    have q5 : ((j : Int) < ((3 : Nat) : Int)) = True := eq_true (by omega)
                    have HRUN := am_ hrun
                    have HROWN := am_ hrow
                    have HJ3 := am_ hj
                    have HROL : Aside0 (row.length ≤ 3) := ⟨by rw [HRW.out]; simp; omega⟩
                    have HLL : Aside0 (L.length ≤ 1600) := ⟨by have := HR16.out; omega⟩
                    have HM5 := am_ (HM4.out.below (below_drew1 (Below.refl _ _)))
                    have HROW5 := am_ (Kd.R_drew HROW4.out)
                    have HSW5 : Aside0 (W1.heap.size ≤ wr.drew.heap.size) := ⟨HSW4.out⟩
                    have HYD := am_ hyd
                    clear hrun hrow hj hpre hlr htl hcell1 hcell2 hCr hCs h3 h4 hyy hx1 hx2 hyd hbd HRW HM4 HROW4 HSW4
                    go_wp2
                    refine start_ (n := 20) (S := (fun w' => w'.cell? ⟨w.heap.size, 1, none⟩ = some (.slice (some a1) l1.length c1) ∧ w'.cell? (a1.add pp.toNat) = some (.slice (some ar) 3 cr) ∧ w'.cell? (ar.add j) = some (.int .i64 x1) ∧ w'.cell? ⟨w.heap.size + 1, 1, none⟩ = some (.slice (some b1) m1.length d1) ∧ w'.cell? (b1.add qq.toNat) = some (.slice (some br) 3 cs) ∧ w'.cell? (br.add j) = some (.int .i64 x2))) (ds := []) (bl 20 0) (by kernel_rfl) rfl rfl (⟨kA, hxr, hxj, kB, hxs, hyj⟩) (fun hHeld => ?_); refine with_tabW tab15z bits15z (fun HT_ HW_ => ?_)
                    clear kA kB hxr hxs hxj hyj
                    generalize wr.drew = w8 at HM5 HROW5 HSW5 hHeld ⊢
                    refine ph_ 0 65 (bl 20 1) HT_ ?_
                    refine ph_ 2 67 (bl 20 5) HT_ ?_
                    refine ph_ 5 70 (bl 20 37) HT_ ?_
                    refine ph_ 8 73 (bl 20 293) HT_ ?_
                    refine ph_ 10 75 (bl 20 1317) HT_ ?_
                    refine ph_ 12 77 (bl 20 5413) HT_ ?_
                    refine ph_ 15 80 (bl 20 38181) HT_ ?_
                    refine th_ 1 66 (bl 20 38183) HT_ HW_ hHeld ?_
                    refine ph_ 3 68 (bl 20 38191) HT_ ?_
                    refine th_ 4 69 (bl 20 38207) HT_ HW_ hHeld ?_
                    refine ph_ 6 71 (bl 20 38271) HT_ ?_
                    refine th_ 7 72 (bl 20 38399) HT_ HW_ hHeld ?_
                    refine ph_ 9 74 (bl 20 38911) HT_ ?_
                    refine th_ 11 76 (bl 20 40959) HT_ HW_ hHeld ?_
                    refine ph_ 13 78 (bl 20 49151) HT_ ?_
                    refine th_ 14 79 (bl 20 65535) HT_ HW_ hHeld ?_
                    refine ph_ 16 81 (bl 20 131071) HT_ ?_
                    refine th_ 17 82 (bl 20 262143) HT_ HW_ hHeld ?_
                    refine ph_ 18 83 (bl 20 524287) HT_ ?_
                    refine ph_ 19 16 (bl 20 1048575) HT_ ?_
                    refine done_ (done_of HT_.out (by kernel_rfl)) ?_
                    clear HT_ HW_ hHeld p2 q2 p3 q3 ew1 ew2
                    by_cases hmem : y ∈ L
                    ·
                      obtain ⟨kq1, hf1⟩ := (find_ev L y (by have := HLL.out; omega)).rounds
                      have hrun := HRUN.out
                      rw [add_in hmem] at hrun
                      rw [find_in hmem, ← num_pre hmem ((adds_pre _ _).trans hrun.pre)] at hf1
                      have hnn : 0 ≤ num R y := by rw [num_eq (((adds_pre _ _).trans hrun.pre).subset hmem)]; omega
                      have HRUN := am_ hrun
                      generalize num R y = ny at hf1 HROWN hnn
                      have HF1 := am_ hf1
                      have knn : (ny < 0) = False := eq_false (by omega)
                      have knd : decide (ny < 0) = false := decide_eq_false (by omega)
                      clear hf1 hrun hmem hnn
                      go_wp2_with (first
                        | (go_at_call 63; (with_reducible refine (spec_l5Find.calls kq1 _ _ L y ny _ ?fa6 ?fb6 HF1.out).mono ?_); (case fa6 => exact (Kd.R_reads' HM5.out.list).2.2); (case fb6 => exact (Kd.R_reads' HM5.out.list).2.1); rintro e w' ⟨rfl, ⟨nd, rfl⟩⟩; have hdw := pw_below_drewN (Below.refl (World.heap w8).size w8) nd; have HM6 := am_ (HM5.out.below hdw); have HROW6 := am_ (Kd.R_below HROW5.out hdw); have HSW6 := am_ (Nat.le_trans HSW5.out hdw.size); clear hdw; generalize World.drewN w8 nd = w9 at HM6 HROW6 HSW6 ⊢)
                        | (go_at_call 63; (with_reducible refine (spec_l5Find.calls kq1 _ _ L y ny _ ?fa7 ?fb7 HF1.out).mono ?_); (case fa7 => exact (Kd.R_reads' HM6.out.list).2.2); (case fb7 => exact (Kd.R_reads' HM6.out.list).2.1); rintro e w' ⟨rfl, ⟨nd, rfl⟩⟩; have hdw := pw_below_drewN (Below.refl (World.heap w9).size w9) nd; have HM7 := am_ (HM6.out.below hdw); have HROW7 := am_ (Kd.R_below HROW6.out hdw); have HSW7 := am_ (Nat.le_trans HSW6.out hdw.size); clear hdw; generalize World.drewN w9 nd = w10 at HM7 HROW7 HSW7 ⊢)
                        | (at_builtin; refine Kd.R_append (Kd.int .i64) (w0 := V) V.heap.size rfl (.tmp 92) (.tmp 96) 67 3 (.int .i64 0) 8 rfl Try.underlying67 info3 rfl (by decide) (by omega) (.slice A14 row.length c14) row ny [.int .i64 ny] (fun k => True ∧ some k ≠ (Value.slice A10 L.length c10).ownBlock) (fun _ => False) rfl rfl ?aP (fun _ hk => hk.elim) ?aF ?aO ?aB ?aS ?aL ?_; (case aP => exact rfl); (case aO => exact HROW7.out); (case aF => exact (fun k hk => ⟨trivial, fun he => by have h_ := Kd.R_lt HM7.out.list k he.symm; omega⟩)); (case aB => exact HM7.out.bel); (case aS => exact HM7.out.bel.size); (case aL => have := HROL.out; omega); intro v14n w11 ho hb hg hat; have HROWZ := am_ ho; have HMZ := am_ (HM7.out.rowed HROW7.out hg hat (fun k hk he => by have h_ := HOB.out k he.symm; have h2_ := hk.1; omega) hb); have HOBZ := am_ (own_at hat HOB.out HSW7.out); have HSWZ := am_ (Nat.le_trans HSW7.out hg.size); clear ho hb hg hat))
                      go_roundg g3
                      case measure => omega
                      case rel => exact ⟨L, row ++ [ny], j + 1, by rw [up1 (by have := HJ3.out; omega)], ⟨HJ3.out⟩, ⟨by have := HGJ.out; omega⟩, HRUN, HLI, ⟨HROWN.out.symm⟩, HMZ, HROWZ, HOBZ, HSWZ⟩
                    ·
                      obtain ⟨kq1, hf1⟩ := (find_ev L y (by have := HLL.out; omega)).rounds
                      obtain ⟨kq2, hf2⟩ := (find_ev (L ++ [y]) y (by have := HLL.out; simp; omega)).rounds
                      have hrun := HRUN.out
                      rw [add_out hmem] at hrun
                      have hm2 : y ∈ L ++ [y] := by simp
                      rw [find_in hm2, ← num_pre hm2 ((adds_pre _ _).trans hrun.pre)] at hf2
                      have e1 : findOf L y = -1 := by unfold findOf; rw [if_neg hmem]
                      rw [e1] at hf1
                      have HRUN := am_ hrun
                      generalize num R y = ny at hf2 HROWN
                      have HF1 := am_ hf1
                      have HF2 := am_ hf2
                      have HLL2 : Aside0 (i < L.length) := ⟨(List.getElem?_eq_some_iff.mp HLI.out).1⟩
                      clear hf1 hf2 hrun hmem e1 hm2
                      go_wp2_with (first
                        | (go_at_call 63; (with_reducible refine (spec_l5Find.calls kq1 _ _ L y (-1) _ ?fa6 ?fb6 HF1.out).mono ?_); (case fa6 => exact (Kd.R_reads' HM5.out.list).2.2); (case fb6 => exact (Kd.R_reads' HM5.out.list).2.1); rintro e w' ⟨rfl, ⟨nd, rfl⟩⟩; have hdw := pw_below_drewN (Below.refl (World.heap w8).size w8) nd; have HM6 := am_ (HM5.out.below hdw); have HROW6 := am_ (Kd.R_below HROW5.out hdw); have HSW6 := am_ (Nat.le_trans HSW5.out hdw.size); clear hdw; generalize World.drewN w8 nd = w9 at HM6 HROW6 HSW6 ⊢)
                        | (go_at_call 63; (with_reducible refine (spec_l5Find.calls kq2 _ _ L2 y ny _ ?fa8 ?fb8 HF3.out).mono ?_); (case fa8 => exact (Kd.R_reads' HM7.out.list).2.2); (case fb8 => exact (Kd.R_reads' HM7.out.list).2.1); rintro e w' ⟨rfl, ⟨nd, rfl⟩⟩; have hdw := pw_below_drewN (Below.refl (World.heap w10).size w10) nd; have HM8 := am_ (HM7.out.below hdw); have HROW8 := am_ (Kd.R_below HROW7.out hdw); have HSW8 := am_ (Nat.le_trans HSW7.out hdw.size); clear hdw; generalize World.drewN w10 nd = w11 at HM8 HROW8 HSW8 ⊢)
                        | (at_builtin; refine Kd.R_append (Kd.int .i64) (w0 := V) V.heap.size rfl (.tmp 88) (.tmp 90) 67 3 (.int .i64 0) 8 rfl Try.underlying67 info3 rfl (by decide) (by omega) (.slice A10 L.length c10) L y [.int .i64 y] (fun k => True ∧ some k ≠ (Value.slice A14 row.length c14).ownBlock) (fun _ => False) rfl rfl ?bP (fun _ hk => hk.elim) ?bF ?bO ?bB ?bS ?bL ?_; (case bP => exact rfl); (case bO => exact HM6.out.list); (case bF => exact (fun k hk => ⟨trivial, fun he => by have h_ := Kd.R_lt HROW6.out k he.symm; omega⟩)); (case bB => exact HM6.out.bel); (case bS => exact HM6.out.bel.size); (case bL => have := HLL.out; omega); intro v10n w10 ho hb hg hat; obtain ⟨L2, hL2⟩ : ∃ L2 : List Int, L2 = L ++ [y] := ⟨_, rfl⟩; rw [← hL2] at ho; have HF3 : Aside0 (spec_l5Find.f kq2 L2 y = some ny) := ⟨by rw [hL2]; exact HF2.out⟩; have HL2 := am_ hL2; clear hL2; have HM7 := am_ (HM6.out.listed hg hat ho hb); have HROW7 := am_ (Kd.R_after HROW6.out hg hat); have HSW7 := am_ (Nat.le_trans HSW6.out hg.size); obtain ⟨A10n, c10n, e10n⟩ := Kd.R_slice ho; subst e10n; clear ho hb hg hat)
                        | (at_builtin; refine Kd.R_append (Kd.int .i64) (w0 := V) V.heap.size rfl (.tmp 92) (.tmp 96) 67 3 (.int .i64 0) 8 rfl Try.underlying67 info3 rfl (by decide) (by omega) (.slice A14 row.length c14) row ny [.int .i64 ny] (fun k => True ∧ some k ≠ (Value.slice A10n L2.length c10n).ownBlock) (fun _ => False) rfl rfl ?aP (fun _ hk => hk.elim) ?aF ?aO ?aB ?aS ?aL ?_; (case aP => exact rfl); (case aO => exact HROW8.out); (case aF => exact (fun k hk => ⟨trivial, fun he => by have h_ := Kd.R_lt HM8.out.list k he.symm; omega⟩)); (case aB => exact HM8.out.bel); (case aS => exact HM8.out.bel.size); (case aL => have := HROL.out; omega); intro v14n w12 ho hb hg hat; have HROWZ := am_ ho; have HMZ := am_ (HM8.out.rowed HROW8.out hg hat (fun k hk he => by have h_ := HOB.out k he.symm; have h2_ := hk.1; omega) hb); have HOBZ := am_ (own_at hat HOB.out HSW8.out); have HSWZ := am_ (Nat.le_trans HSW8.out hg.size); clear ho hb hg hat))
                      go_roundg g3
                      case measure => omega
                      case rel => exact ⟨L2, row ++ [ny], j + 1, by rw [up1 (by have := HJ3.out; omega)], ⟨HJ3.out⟩, ⟨by have := HGJ.out; omega⟩, ⟨by rw [HL2.out]; exact HRUN.out⟩, ⟨by rw [HL2.out, List.getElem?_append_left HLL2.out]; exact HLI.out⟩, ⟨HROWN.out.symm⟩, HMZ, HROWZ, HOBZ, HSWZ⟩
                  ·
                    have ej : j = 3 := by have := HJ.out; omega
                    subst ej
                    have d3 : decide (((3 : Nat) : Int) < 3) = false := by decide
                    have hrun : Runs (sc (nxZ l1 m1 m0.length)) L (i + 1) R := HRUN.out
                    have HRUN := am_ hrun
                    have hrowx : row = rowX (nxZ l1 m1 m0.length) R z := by rw [HRW.out]; rfl
                    have hi2 : i < L.length := (List.getElem?_eq_some_iff.mp HLI.out).1
                    have hRt : R.take (i + 1) = R.take i ++ [z] := by
                      obtain ⟨h1, h2⟩ := List.getElem?_eq_some_iff.mp HRI.out
                      rw [List.take_succ_eq_append_getElem h1, h2]
                    obtain ⟨_, e1, hu0⟩ := Kd.at_bool HC0.out pp HP.out.1 HP.out.2
                    cases e1
                    obtain ⟨_, e2, hv0⟩ := Kd.at_bool HD0.out qq HQ.out.1 HQ.out.2
                    cases e2
                    have hac : acZ kd l0 m0 z = bothB kd (rdOf false l0 pp) (rdOf false m0 qq) := by unfold acZ; rw [HPP.out, HQQ.out]
                    have hb6 : ∀ u v, bothB kd u v = bothB _ u v := fun u v => by rw [HKD.out]
                    rw [hb6] at hac
                    clear hb6
                    have hu0 := pw_cell_below HBW.out hu0
                    have hv0 := pw_cell_below HBW.out hv0
                    have kA := pw_cell_below HM4.out.bel hc0.out
                    have kB := pw_cell_below HM4.out.bel hc2.out
                    have hz0 : World.cell? wr ⟨V.heap.size, 0, none⟩ = some (.slice Aa xa.length ca) := (blk_cell HM4.out.box 0).trans rfl
                    have hz1 : World.cell? wr ⟨V.heap.size, 1, none⟩ = some (.slice Ay xy.length cy) := (blk_cell HM4.out.box 1).trans rfl
                    have hfz0 := blk_frozen HM4.out.box 0
                    have p2 : ((0 : Int) ≤ pp) = True := eq_true HP.out.1
                    have q2 : (pp < (l0.length : Int)) = True := eq_true HP.out.2
                    have p3 : ((0 : Int) ≤ qq) = True := eq_true HQ.out.1
                    have q3 : (qq < (m0.length : Int)) = True := eq_true HQ.out.2
                    have HLENS : Aside0 (xa.length ≤ 1000000 ∧ xy.length ≤ 1000000) := ⟨by rw [HXA.out, HXY.out]; simp; have := HR16.out; omega⟩
                    have HI5 := am_ hi2
                    have HII : Aside0 (i ≤ 1600) := ⟨by have := HR16.out; omega⟩
                    have HRX := am_ hrowx
                    have HRT := am_ hRt
                    clear hj hrun hrowx hi2 hRt hpre hlr
                    generalize rdOf false l0 pp = uu at hu0 hac
                    generalize rdOf false m0 qq = vv at hv0 hac
                    cases uu <;> cases vv
                    all_goals
                      simp only [bothB, Int.reduceEq, ↓reduceIte, if_true, if_false, Bool.or_false, Bool.or_true, Bool.and_false, Bool.and_true, Bool.false_or, Bool.true_or, Bool.or_self, Bool.and_self] at hac
                      have HAC := am_ hac
                      clear hac
                      go_wp2_with (first
                        | ((with_reducible refine gate_builtin (b := .append) (xs := #[.tmp 125, .tmp 127]) rfl ?_); at_builtin; refine Kd.R_append Kd.bool (w0 := V) V.heap.size rfl (.tmp 125) (.tmp 127) 22 4 (.bool false) 1 rfl Try.underlying22 info4 rfl (by decide) (by omega) (.slice Aa xa.length ca) xa true [.bool true] (fun _ => True) (fun _ => False) rfl rfl ?aP (fun _ hk => hk.elim) ?aF ?aO ?aB ?aS ?aL ?_; (case aP => exact rfl); (case aF => exact (fun _ _ => trivial)); (case aO => exact HM4.out.acc); (case aB => exact HM4.out.bel); (case aS => exact HM4.out.bel.size); (case aL => have := HLENS.out; omega); intro v22 w9 ho hb hg hat; have HM9 := am_ (HM4.out.accd hg ho hb); have HROW9 := am_ (Kd.R_over' HROW4.out (Kd.R_typed HM4.out.acc) (by decide) hg); obtain ⟨A22, c22, e22⟩ := Kd.R_slice ho; rw [List.length_append, List.length_singleton] at e22; subst e22; have hcz0 : World.cell? w9 ⟨V.heap.size, 0, none⟩ = some (.slice Aa xa.length ca) := (blk_cell HM9.out.box 0).trans rfl; have hfz0 := blk_frozen HM9.out.box 0; clear ho hb hg hat)
                        | ((with_reducible refine gate_builtin (b := .append) (xs := #[.tmp 125, .tmp 127]) rfl ?_); at_builtin; refine Kd.R_append Kd.bool (w0 := V) V.heap.size rfl (.tmp 125) (.tmp 127) 22 4 (.bool false) 1 rfl Try.underlying22 info4 rfl (by decide) (by omega) (.slice Aa xa.length ca) xa false [.bool false] (fun _ => True) (fun _ => False) rfl rfl ?bP (fun _ hk => hk.elim) ?bF ?bO ?bB ?bS ?bL ?_; (case bP => exact rfl); (case bF => exact (fun _ _ => trivial)); (case bO => exact HM4.out.acc); (case bB => exact HM4.out.bel); (case bS => exact HM4.out.bel.size); (case bL => have := HLENS.out; omega); intro v22 w9 ho hb hg hat; have HM9 := am_ (HM4.out.accd hg ho hb); have HROW9 := am_ (Kd.R_over' HROW4.out (Kd.R_typed HM4.out.acc) (by decide) hg); obtain ⟨A22, c22, e22⟩ := Kd.R_slice ho; rw [List.length_append, List.length_singleton] at e22; subst e22; have hcz0 : World.cell? w9 ⟨V.heap.size, 0, none⟩ = some (.slice Aa xa.length ca) := (blk_cell HM9.out.box 0).trans rfl; have hfz0 := blk_frozen HM9.out.box 0; clear ho hb hg hat)
                        | ((with_reducible refine gate_store (t := 22) (p := 129) rfl ?_); refine store_event (t := 22) (p := 129) (v := ?vo_w1) (w1 := (w9.setCell ⟨V.heap.size, 0, none⟩ (.slice A22 (xa.length + 1) c22))) ?hg ?ho ?hn ?hr ?_; (case ho => rfl); (case hg => rfl); (case hn => rfl); (case hr => first | (go_simp; done) | (go_simp; rfl)); intro w1 hw; have HM1 := am_ (HM9.out.put (v := (.slice A22 (xa.length + 1) c22)) H69.out (Nat.le_refl _) 0 (blk_put HM9.out.box 0 _ rfl)); have HROW1 := am_ (Kd.R_set HROW9.out HM9.out.box (by decide) 0 (.slice A22 (xa.length + 1) c22)); rw [← hw] at HM1 HROW1; have hcz1 : World.cell? w1 ⟨V.heap.size, 1, none⟩ = some (.slice Ay xy.length cy) := (blk_cell HM1.out.box 1).trans rfl; clear hw)
                        | ((with_reducible refine gate_builtin (b := .append) (xs := #[.tmp 131, .tmp 133]) rfl ?_); at_builtin; refine Kd.S_append (Kd.slice 3 (Kd.int .i64)) (w0 := V) V.heap.size rfl (.tmp 131) (.tmp 133) 23 67 (.slice none 0 0) 24 rfl Try.underlying23 info67 rfl (by decide) (by omega) (.slice Ay xy.length cy) xy row [.slice A14 row.length c14] (fun k => True ∧ some k ≠ (Value.slice A10 L.length c10).ownBlock) (fun b => some b = (.slice A14 row.length c14 : Value).ownBlock) rfl rfl ?sP ?sK ?sF ?sO ?sB ?sS ?sL ?_; (case sP => exact Kd.M_row (Kd.R_tight rfl HROW1.out)); (case sK => exact (fun b hb => ⟨⟨trivial, (HROW1.out.1 b hb.symm).2⟩, fun he => by have h1 := HOB.out b hb.symm; have h2 := ((Kd.S_R HM1.out.rows).1 b he.symm).1; omega⟩)); (case sF => exact (fun k hk => ⟨trivial, fun he => by have h_ := Kd.R_lt HM1.out.list k he.symm; omega⟩)); (case sO => exact Kd.S_mono HM1.out.rows (fun b hb => ⟨⟨trivial, hb.2⟩, fun he => by have h1 := HOB.out b he.symm; have h2 := hb.1; omega⟩)); (case sB => exact HM1.out.bel); (case sS => exact HM1.out.bel.size); (case sL => have := HLENS.out; omega); intro v23 w2 ho hb hg hat; have HM2 := am_ (HM1.out.rowsd hg ho hb); obtain ⟨A23, c23, e23⟩ := Kd.S_slice ho; rw [List.length_append, List.length_singleton] at e23; subst e23; clear ho hb hg hat; have hcz1 : World.cell? w2 ⟨V.heap.size, 1, none⟩ = some (.slice Ay xy.length cy) := (blk_cell HM2.out.box 1).trans rfl; have hfz1 := blk_frozen HM2.out.box 1))
                      go_roundg g
                      case measure => omega
                      case rel =>
                        have HM3 := HM2.out.put (v := (.slice A23 (xy.length + 1) c23)) H69.out (Nat.le_refl _) 1 (blk_put HM2.out.box 1 _ rfl)
                        exact ⟨L, i + 1, _, _, _, _, by rw [up1 (by have := HII.out; omega)], ⟨HI5.out⟩, ⟨by have := HG.out; omega⟩, HRUN, ⟨by rw [HRT.out, List.map_append, ← HXA.out, List.map_singleton, HAC.out]⟩, ⟨by rw [HRT.out, List.map_append, ← HXY.out, List.map_singleton, ← HRX.out]⟩, ⟨Kd.R_mono HM3.list (fun _ _ => trivial), HM3.acc, HM3.rows, HM3.box, HM3.res, HM3.bel⟩⟩
              ·
                have eL : L = R := by
                  cases HRUN.out with
                  | stop h => rfl
                  | step h _ => exact absurd h hi
                subst eL
                have ei : i = L.length := by have := HI.out; omega
                subst ei
                have hxa := HXA.out
                have hxy := HXY.out
                rw [List.take_length] at hxa hxy
                have hkf := HKF.out
                first | rw [← hxa, ← hxy] at hkf | (rw [HKD.out] at hxa; rw [← hxa, ← hxy] at hkf)
                have HKF2 := am_ hkf
                have q1 : ((L.length : Int) < (L.length : Int)) = False := eq_false (by omega)
                have hz0 : World.cell? wr ⟨V.heap.size, 0, none⟩ = some (.slice Aa xa.length ca) := (blk_cell HMEM.out.box 0).trans rfl
                have hz1 : World.cell? wr ⟨V.heap.size, 1, none⟩ = some (.slice Ay xy.length cy) := (blk_cell HMEM.out.box 1).trans rfl
                have HBW := am_ (below_then HB.out HB.out.size HMEM.out.bel)
                clear hi hpre hlr hxa hxy hkf HKF HXA HXY HRUN HI HG
                go_wp2_with ((go_at_call 64; (with_reducible refine (spec_l5Fits.calls kf _ _ xa _ _ xy f1 f2 f3 _ ?y0 ?y1 ?y2 ?y3 HKF2.out).mono ?_); (case y0 => exact (Kd.R_reads' HMEM.out.acc).2.2); (case y1 => exact (Kd.R_reads' HMEM.out.acc).2.1); (case y2 => exact (Kd.S_reads' HMEM.out.rows).2.2); (case y3 => exact (Kd.S_reads' HMEM.out.rows).2.1); rintro e w5 ⟨z0, z1, rfl, hq0, hq1, hb⟩; obtain ⟨Z0, z0c, e0⟩ := Kd.R_slice hq0; subst e0; obtain ⟨Z1, z1c, e1⟩ := Kd.S_slice hq1; subst e1; have HR5 := am_ (blk_alloc (blk_below HMEM.out.res hb) (Obj.cells #[.slice Z0 f1.length z0c, .slice Z1 f2.length z1c] 27)); have HB5 := am_ (below_alloc (below_then HBW.out HBW.out.size hb) (Obj.cells #[.slice Z0 f1.length z0c, .slice Z1 f2.length z1c] 27)); have HZ0 := am_ (Kd.R_alloc (Kd.R_lower hq0 HBW.out.size) (Obj.cells #[.slice Z0 f1.length z0c, .slice Z1 f2.length z1c] 27)); have HZ1 := am_ (Kd.S_alloc (Kd.S_lower hq1 HBW.out.size) (Obj.cells #[.slice Z0 f1.length z0c, .slice Z1 f2.length z1c] 27)); have hcy0 : World.cell? (w5.alloc (Obj.cells #[.slice Z0 f1.length z0c, .slice Z1 f2.length z1c] 27)) ⟨w.heap.size + 1 + 1, 0, none⟩ = some (.slice none 0 0) := (blk_cell HR5.out 0).trans rfl; have hcy1 : World.cell? (w5.alloc (Obj.cells #[.slice Z0 f1.length z0c, .slice Z1 f2.length z1c] 27)) ⟨w.heap.size + 1 + 1, 1, none⟩ = some (.slice none 0 0) := (blk_cell HR5.out 1).trans rfl; have hfy0 := blk_frozen HR5.out 0; have hfy1 := blk_frozen HR5.out 1; clear hz0 hz1 hq0 hq1 hb))
                have HB4' : Aside0 (((w5.alloc (Obj.cells #[.slice Z0 f1.length z0c, .slice Z1 f2.length z1c] 27)).setCell ⟨w.heap.size + 1 + 1, 0, none⟩ (.slice Z0 f1.length z0c)).heap[w.heap.size + 1 + 1]? = some (.cells #[.slice Z0 f1.length z0c, .slice none 0 0] 27 (0, 0))) := ⟨blk_put HR5.out 0 _ rfl⟩
                have HT4 : Aside0 ((((w5.alloc (Obj.cells #[.slice Z0 f1.length z0c, .slice Z1 f2.length z1c] 27)).setCell ⟨w.heap.size + 1 + 1, 0, none⟩ (.slice Z0 f1.length z0c)).setCell ⟨w.heap.size + 1 + 1, 1, none⟩ (.slice Z1 f2.length z1c)).heap[w.heap.size + 1 + 1]? = some (.cells #[.slice Z0 f1.length z0c, .slice Z1 f2.length z1c] 27 (0, 0))) := ⟨blk_put HB4'.out 1 _ rfl⟩
                refine bodyPost_ret (results_ct rfl _ _ (w.heap.size + 1 + 1) 27 #[.slice Z0 f1.length z0c, .slice Z1 f2.length z1c] (0, 0) _ rfl HT4.out Try.underlying27 rfl (by kernel_rfl)) rfl ?_
                exact ⟨_, _, rfl, Kd.R_set (Kd.R_set HZ0.out HR5.out (by decide) 0 _) HB4'.out (by decide) 1 _, Kd.S_set (Kd.S_set HZ1.out HR5.out (by decide) 0 _) HB4'.out (by decide) 1 _, below_set (below_set HB5.out HGE.out) HGE.out⟩
      · have e : pdR l0 l1 m0 m1 kind = ([], [], false) := by unfold pdR; rw [if_neg]; rintro ⟨_, h⟩; exact hkk h
        rw [e]
        subst hOA hOB hOD
        have k6 : (kind = 6) = False := eq_false (fun h => hkk (Or.inl h))
        have k7 : (kind = 7) = False := eq_false (fun h => hkk (Or.inr h))
        have k6b : (kind == 6) = false := beq_eq_false_iff_ne.mpr (fun h => hkk (Or.inl h))
        have k7b : (kind == 7) = false := beq_eq_false_iff_ne.mpr (fun h => hkk (Or.inr h))
        have k6c : (kind != 6) = true := by rw [bne, k6b]; rfl
        have k7c : (kind != 7) = true := by rw [bne, k7b]; rfl
        have k6d : decide (kind = 6) = false := decide_eq_false (fun h => hkk (Or.inl h))
        have k7d : decide (kind = 7) = false := decide_eq_false (fun h => hkk (Or.inr h))
        clear hv hv2 e hr0 hr1 hs0 hs1 hkk hka hkb hc0 hc1 hd0 hd1 z0 z1 z2 z3
        go_enter Try.func19, Try.ntmps19
        go_wp2_with (first | (go_at_call 35; (with_reducible refine (HV.out _ ?hq0).mono ?_); (case hq0 => exact HB0.out); rintro e w1 ⟨rfl, hb⟩; have HB1 := am_ (below_then HB0.out HB0.out.size hb); have HR1 := am_ (blk_below HR8.out hb); have ha0 := am_ (pw_cell_below hb KA0.out); have ha1 := am_ (pw_cell_below hb KA1.out); have hb0 := pw_cell_below hb KB0.out; have hb1 := pw_cell_below hb KB1.out; clear hb) | (go_at_call 35; (with_reducible refine (HV2.out _ ?hq1).mono ?_); (case hq1 => exact HB1.out); rintro e V ⟨rfl, hb⟩; have HB := am_ (below_then HB1.out HB1.out.size hb); have HR9 := am_ (blk_below HR1.out hb); have hc0 := am_ (pw_cell_below hb ha0.out); have hc1 := am_ (pw_cell_below hb ha1.out); have hc2 := pw_cell_below hb hb0; have hc3 := am_ (pw_cell_below hb hb1); have hcz0 : World.cell? V ⟨w.heap.size + 1 + 1, 0, none⟩ = some (.slice none 0 0) := (blk_cell HR9.out 0).trans rfl; have hcz1 : World.cell? V ⟨w.heap.size + 1 + 1, 1, none⟩ = some (.slice none 0 0) := (blk_cell HR9.out 1).trans rfl; have hfz0 := blk_frozen HR9.out 0; have hfz1 := blk_frozen HR9.out 1; clear hb hb0 hb1))
        have HT4 : Aside0 (((V.setCell ⟨w.heap.size + 1 + 1, 0, none⟩ (.slice none 0 0)).setCell ⟨w.heap.size + 1 + 1, 1, none⟩ (.slice none 0 0)).heap[w.heap.size + 1 + 1]? = some (.cells #[.slice none 0 0, .slice none 0 0] 27 (0, 0))) := ⟨blk_put (blk_put (cs' := #[.slice none 0 0, .slice none 0 0]) HR9.out 0 _ rfl) 1 _ rfl⟩
        refine bodyPost_ret (results_ct rfl _ _ (w.heap.size + 1 + 1) 27 #[.slice none 0 0, .slice none 0 0] (0, 0) _ rfl HT4.out Try.underlying27 rfl (by kernel_rfl)) rfl ?_
        exact ⟨_, _, rfl, Kd.R_nil _ _ _ _ _, Kd.S_nil _ _ _ _ _, below_set (below_set HB.out HGE.out) HGE.out⟩
end Go.Proofs.Ytogamkblkoobkaa.Wk
end
section
namespace Go.Proofs.Ytogamkblkoobkaa.P
open Go.RowKit Go.Proofs.YtogamkblkoobkaaW.PrintWords Go.Proofs.YtogamkblkoobkaaW.PrintLast Go.Proofs.YtogamkblkoobkaaW.PrintMore
attribute [local go_sem] max2_int min2_int max_two min_two max_three min_three max_four min_four
set_option linter.unusedVariables false
set_option linter.unusedSimpArgs false
def spec_ProductDfa.f (l0_0 : List Bool) (l0_1 : List (List Int)) (l1_0 : List Bool) (l1_1 : List (List Int)) (a2 : Int) : Option (List Bool × List (List Int) × Bool) := if l0_0.length ≤ 1048576 ∧ l0_1.length ≤ 1048576 ∧ l1_0.length ≤ 1048576 ∧ l1_1.length ≤ 1048576 then some (Wk.pdR l0_0 l0_1 l1_0 l1_1 a2) else none
theorem spec_ProductDfa.calls (A0_0 : Option Addr) (c0_0 : Nat) (l0_0 : List Bool) (A0_1 : Option Addr) (c0_1 : Nat) (l0_1 : List (List Int)) (A1_0 : Option Addr) (c1_0 : Nat) (l1_0 : List Bool) (A1_1 : Option Addr) (c1_1 : Nat) (l1_1 : List (List Int)) (a2 : Int) (r1 : List Bool) (r2 : List (List Int)) (r3 : Bool) (w : World) (hr0_0 : Kd.C Kd.bool w A0_0 l0_0.length l0_0) (hc0_0 : l0_0.length ≤ c0_0) (hr0_1 : Kd.C (Kd.slice 3 (Kd.int .i64)) w A0_1 l0_1.length l0_1) (hc0_1 : l0_1.length ≤ c0_1) (hr1_0 : Kd.C Kd.bool w A1_0 l1_0.length l1_0) (hc1_0 : l1_0.length ≤ c1_0) (hr1_1 : Kd.C (Kd.slice 3 (Kd.int .i64)) w A1_1 l1_1.length l1_1) (hc1_1 : l1_1.length ≤ c1_1) (h : spec_ProductDfa.f l0_0 l0_1 l1_0 l1_1 a2 = some (r1, r2, r3)) :
    Calls Try.prog 19 #[.agg #[.slice A0_0 l0_0.length c0_0, .slice A0_1 l0_1.length c0_1], .agg #[.slice A1_0 l1_0.length c1_0, .slice A1_1 l1_1.length c1_1], .int .i64 a2] w fun e w' => ∃ v0_ v1_ : Value, e = .returned (.tuple #[.agg #[v0_, v1_], .bool r3]) ∧ Kd.R Kd.bool 4 w' w.heap.size (fun _ => True) v0_ r1 ∧ Kd.S (Kd.slice 3 (Kd.int .i64)) 67 w' w.heap.size (fun _ => True) v1_ r2 ∧ Below w.heap.size w w' := by
  unfold spec_ProductDfa.f at h
  split at h
  · rename_i hp
    have h := Option.some.inj h
    have e1 : (Wk.pdR l0_0 l0_1 l1_0 l1_1 a2).1 = r1 := by rw [h]
    have e2 : (Wk.pdR l0_0 l0_1 l1_0 l1_1 a2).2.1 = r2 := by rw [h]
    have e3 : (Wk.pdR l0_0 l0_1 l1_0 l1_1 a2).2.2 = r3 := by rw [h]
    rw [← e1, ← e2, ← e3]
    exact Wk.spdCalls A0_0 c0_0 l0_0 A0_1 c0_1 l0_1 A1_0 c1_0 l1_0 A1_1 c1_1 l1_1 a2 w hr0_0 hc0_0 hr0_1 hc0_1 hr1_0 hc1_0 hr1_1 hc1_1 hp.1 hp.2.1 hp.2.2.1 hp.2.2.2
  · cases h
end Go.Proofs.Ytogamkblkoobkaa.P
end
section
namespace Go.Proofs.Ytogamkblkoobkaa.P
open Go.RowKit Go.Proofs.YtogamkblkoobkaaW.PrintWords Go.Proofs.YtogamkblkoobkaaW.PrintLast Go.Proofs.YtogamkblkoobkaaW.PrintMore
attribute [local go_sem] max2_int min2_int max_two min_two max_three min_three max_four min_four
set_option linter.unusedVariables false
set_option linter.unusedSimpArgs false
def laws_big.f (l0 : List Int) : Option (Bool) := some (decide ((l0.length : Int) > 1048576))
set_option maxHeartbeats 8000000 in
set_option maxRecDepth 100000 in
theorem laws_big.calls (A0 : Option Addr) (c0 : Nat) (l0 : List Int) (r : Bool) (w : World) (hr0 : Kd.C (Kd.int .u8) w A0 l0.length l0) (hc0 : l0.length ≤ c0) (h : laws_big.f l0 = some r) :
    Calls Try.prog 27 #[.slice A0 l0.length c0] w fun e w' => e = .returned (.bool r) ∧ Drawn0 w w' := by
  have HR0 := am_ hr0
  have HC0 := am_ hc0
  clear hr0 hc0
  have H : (some (decide ((l0.length : Int) > 1048576))) = some r := h
  clear h
  obtain rfl := Option.some.inj H
  simp only [Option.some.injEq, Prod.mk.injEq] at H
  obtain ⟨rfl⟩ := H
  go_enter Try.func27, Try.ntmps27
  go_wp2
  go_ret
  exact ⟨by first | rfl | (simp; done) | (simp [*]; done), by repeat (first | exact Drawn0.refl _ | apply Drawn0.step)⟩
def IsS125 (w0 W : World) (g : Nat) (f0 : List Int) (f1 : Int) (f2 : Int) : Prop := ∃ A0 c0, W.heap[g]? = some (.cells #[.slice A0 f0.length c0, .int .i64 f1, .int .i64 f2] 125 (0, 0)) ∧ w0.heap.size ≤ g ∧ Kd.C (Kd.int .u8) w0 A0 f0.length f0
theorem IsS125.grown {w0 W : World} {g : Nat} {f0 : List Int} {f1 : Int} {f2 : Int} {W1 : World} {row : Option Nat} (h : IsS125 w0 W g f0 f1 f2) (hw : W.grownBy W1 row) (hne : some g ≠ row) : IsS125 w0 W1 g f0 f1 f2 := by
  obtain ⟨A0, c0, hb, hg, hr0⟩ := h
  exact ⟨A0, c0, blk_grown hb hw hne, hg, hr0⟩
theorem IsS125.kept {w0 W : World} {g : Nat} {f0 : List Int} {f1 : Int} {f2 : Int} {W1 : World} {S : Nat → Prop} (h : IsS125 w0 W g f0 f1 f2) (hk : Kept W W1 S) (hne : ¬ S g) : IsS125 w0 W1 g f0 f1 f2 := by
  obtain ⟨A0, c0, hb, hg, hr0⟩ := h
  exact ⟨A0, c0, blk_kept hb hk hne, hg, hr0⟩
theorem IsS125.below {w0 W : World} {g : Nat} {f0 : List Int} {f1 : Int} {f2 : Int} {W1 : World} (h : IsS125 w0 W g f0 f1 f2) (hw : Below W.heap.size W W1) : IsS125 w0 W1 g f0 f1 f2 := h.grown (grown_of_below hw none) (by simp)
theorem IsS125.alloc {w0 W : World} {g : Nat} {f0 : List Int} {f1 : Int} {f2 : Int} (h : IsS125 w0 W g f0 f1 f2) (o : Obj) : IsS125 w0 (W.alloc o) g f0 f1 f2 := h.below (below_alloc (Below.refl _ _) o)
theorem IsS125.drewN {w0 W : World} {g : Nat} {f0 : List Int} {f1 : Int} {f2 : Int} (h : IsS125 w0 W g f0 f1 f2) (m : Nat) : IsS125 w0 (W.drewN m) g f0 f1 f2 := h
theorem IsS125.drew {w0 W : World} {g : Nat} {f0 : List Int} {f1 : Int} {f2 : Int} (h : IsS125 w0 W g f0 f1 f2) : IsS125 w0 W.drew g f0 f1 f2 := h
theorem IsS125.at_ {w0 W : World} {g : Nat} {f0 : List Int} {f1 : Int} {f2 : Int} {w' : World} {m : Nat} (hq : W.drewN m = w') (h : IsS125 w0 W g f0 f1 f2) : IsS125 w0 w' g f0 f1 f2 := by subst hq; exact IsS125.drewN h m
theorem IsS125.apart {w0 W : World} {g : Nat} {f0 : List Int} {f1 : Int} {f2 : Int} {α : Type} {d : Kd α} {e : Nat} {base : Nat} {ok : Nat → Prop} {v : Value} {xs : List α} (h : IsS125 w0 W g f0 f1 f2) (ho : d.R e W base ok v xs) (ht : ∀ q, q ∈ e :: d.E → q ≠ 125) : d.R e W base (fun k => ok k ∧ k ≠ g) v xs := by
  obtain ⟨A0, c0, hb, hg, hr0⟩ := h
  exact Kd.R_types ho hb ht
theorem IsS125.own_ne {w0 W : World} {g : Nat} {f0 : List Int} {f1 : Int} {f2 : Int} {α : Type} {d : Kd α} {e : Nat} {base : Nat} {ok : Nat → Prop} {v : Value} {xs : List α} (h : IsS125 w0 W g f0 f1 f2) (ho : d.R e W base ok v xs) (ht : e ≠ 125) : some g ≠ v.ownBlock := by
  obtain ⟨A0, c0, hb, hg, hr0⟩ := h
  exact Kd.R_ne ho hb ht
theorem IsS125.apartS {w0 W : World} {g : Nat} {f0 : List Int} {f1 : Int} {f2 : Int} {α : Type} {d : Kd α} {e : Nat} {base : Nat} {ok : Nat → Prop} {v : Value} {xs : List α} (h : IsS125 w0 W g f0 f1 f2) (ho : d.S e W base ok v xs) (ht : ∀ q, q ∈ e :: d.E → q ≠ 125) : d.S e W base (fun k => ok k ∧ k ≠ g) v xs := by
  obtain ⟨A0, c0, hb, hg, hr0⟩ := h
  exact Kd.S_types ho hb ht
theorem IsS125.own_neS {w0 W : World} {g : Nat} {f0 : List Int} {f1 : Int} {f2 : Int} {α : Type} {d : Kd α} {e : Nat} {base : Nat} {ok : Nat → Prop} {v : Value} {xs : List α} (h : IsS125 w0 W g f0 f1 f2) (ho : d.S e W base ok v xs) (ht : e ≠ 125) : some g ≠ v.ownBlock := by
  obtain ⟨A0, c0, hb, hg, hr0⟩ := h
  exact Kd.S_ne ho hb ht
theorem IsS125.lt {w0 W : World} {g : Nat} {f0 : List Int} {f1 : Int} {f2 : Int} (h : IsS125 w0 W g f0 f1 f2) : g < W.heap.size := by
  obtain ⟨A0, c0, hb, hg, hr0⟩ := h
  exact blk_lt hb
theorem IsS125.ge {w0 W : World} {g : Nat} {f0 : List Int} {f1 : Int} {f2 : Int} (h : IsS125 w0 W g f0 f1 f2) : w0.heap.size ≤ g := by
  obtain ⟨A0, c0, hb, hg, hr0⟩ := h
  exact hg
theorem IsS125.ne_blk {w0 W : World} {g : Nat} {f0 : List Int} {f1 : Int} {f2 : Int} {a : Nat} {cs : Array Value} {t : TypeId} {fr : Nat × Nat} (h : IsS125 w0 W g f0 f1 f2) (hb2 : W.heap[a]? = some (.cells cs t fr)) (ht : t ≠ 125) : g ≠ a := by
  obtain ⟨A0, c0, hb, hg, hr0⟩ := h
  rintro rfl
  rw [hb] at hb2
  injection hb2 with hb2
  injection hb2 with _ ht2
  exact ht ht2.symm
theorem IsS125.far {w0 W : World} {g : Nat} {f0 : List Int} {f1 : Int} {f2 : Int} {p : Addr} (h : IsS125 w0 W g f0 f1 f2) (hne : g ≠ p.block) (u : Value) : IsS125 w0 (W.setCell p u) g f0 f1 f2 := by
  obtain ⟨A0, c0, hb, hg, hr0⟩ := h
  exact ⟨A0, c0, blk_far hb hne u, hg, hr0⟩
theorem cellS125_0 {W : World} {g : Nat} {A0 : Option Addr} {c0 : Nat} {f0 : List Int} {f1 : Int} {f2 : Int} (h : W.heap[g]? = some (.cells #[.slice A0 f0.length c0, .int .i64 f1, .int .i64 f2] 125 (0, 0))) : W.cell? ⟨g, 0, none⟩ = some (.slice A0 f0.length c0) := (blk_cell h 0).trans rfl
theorem cellS125_1 {W : World} {g : Nat} {A0 : Option Addr} {c0 : Nat} {f0 : List Int} {f1 : Int} {f2 : Int} (h : W.heap[g]? = some (.cells #[.slice A0 f0.length c0, .int .i64 f1, .int .i64 f2] 125 (0, 0))) : W.cell? ⟨g, 1, none⟩ = some (.int .i64 f1) := (blk_cell h 1).trans rfl
theorem IsS125.set_1 {w0 W : World} {g : Nat} {f0 : List Int} {f1 : Int} {f2 : Int} (h : IsS125 w0 W g f0 f1 f2) (x : Int) : IsS125 w0 (W.setCell ⟨g, 1, none⟩ (.int .i64 x)) g f0 x f2 := by
  obtain ⟨A0, c0, hb, hg, hr0⟩ := h
  exact ⟨A0, c0, by simpa using blk_set hb 1 (.int .i64 x), hg, hr0⟩
theorem cellS125_2 {W : World} {g : Nat} {A0 : Option Addr} {c0 : Nat} {f0 : List Int} {f1 : Int} {f2 : Int} (h : W.heap[g]? = some (.cells #[.slice A0 f0.length c0, .int .i64 f1, .int .i64 f2] 125 (0, 0))) : W.cell? ⟨g, 2, none⟩ = some (.int .i64 f2) := (blk_cell h 2).trans rfl
theorem IsS125.set_2 {w0 W : World} {g : Nat} {f0 : List Int} {f1 : Int} {f2 : Int} (h : IsS125 w0 W g f0 f1 f2) (x : Int) : IsS125 w0 (W.setCell ⟨g, 2, none⟩ (.int .i64 x)) g f0 f1 x := by
  obtain ⟨A0, c0, hb, hg, hr0⟩ := h
  exact ⟨A0, c0, by simpa using blk_set hb 2 (.int .i64 x), hg, hr0⟩
theorem IsS125.new (w0 W : World) (A0 : Option Addr) (c0 : Nat) (f0 : List Int) (f1 : Int) (f2 : Int) (hB : Below w0.heap.size w0 W) (hr0 : Kd.C (Kd.int .u8) w0 A0 f0.length f0) : IsS125 w0 (W.alloc (.cells #[.slice A0 f0.length c0, .int .i64 f1, .int .i64 f2] 125)) W.heap.size f0 f1 f2 := ⟨A0, c0, by simpa using heap_alloc_new W _, hB.size, hr0⟩
def spec_l1New.l0 : Nat → List Int → Int → Int → Option (List Int × Int × Int)
  | 0, _, _, _ => none
  | k + 1, x0, x3, x4 => if x4 < (x0.length : Int) then (if x4 < 4000 then (if 0 ≤ x4 then (spec_l1New.l0 k x0 (Go.bits .and .i64 (wrap64 ((wrap64 ((wrap64 (x3 * 131)) + (wrap64 (rd x0 x4)))) + 7)) 1073741823) (wrap64 (x4 + 1))) else (none)) else (some (x0, 0, x3))) else (some (x0, 0, x3))
def spec_l1New.f (k : Nat) (l0 : List Int) : Option (List Int × Int × Int) := spec_l1New.l0 k l0 (wrap64 (26583 + (l0.length : Int))) 0
theorem spec_l1New.mono_l : ∀ k, (∀ y0 y1 y2, LeO (spec_l1New.l0 k y0 y1 y2) (spec_l1New.l0 (k + 1) y0 y1 y2))
  | 0 => fun _ _ _ r h => by simp [spec_l1New.l0] at h
  | k + 1 => by
    have ih0 := spec_l1New.mono_l k
    · intro y0 y1 y2
      unfold spec_l1New.l0
      repeat' first
      | (with_reducible exact ih0 _ _ _)
      | (with_reducible exact LeO.refl _)
      | (with_reducible exact LeO.none _)
      | (with_reducible refine LeO.ite ?_ ?_)
      | (with_reducible refine LeO.bind ?_ (fun _ => ?_))
      | exact ih0 _ _ _
      | exact LeO.none _
      | refine LeO.ite ?_ ?_
      | refine LeO.bind ?_ (fun _ => ?_)
theorem spec_l1New.mono : ∀ a0 k, LeO (spec_l1New.f k a0) (spec_l1New.f (k + 1) a0) := by
  intro a0 k
  have ih0 := spec_l1New.mono_l k
  unfold spec_l1New.f
  repeat' first
      | (with_reducible exact ih0 _ _ _)
      | (with_reducible exact LeO.refl _)
      | (with_reducible exact LeO.none _)
      | (with_reducible refine LeO.ite ?_ ?_)
      | (with_reducible refine LeO.bind ?_ (fun _ => ?_))
      | exact ih0 _ _ _
      | exact LeO.none _
      | refine LeO.ite ?_ ?_
      | refine LeO.bind ?_ (fun _ => ?_)
theorem zp30_0_ {p q : Prop} (h : p) (c : p → q := by intro h_; repeat (first | (with_reducible first | exact h_ | apply below_alloc | apply pw_below_drewN | apply below_drew1) | exact h_)) : q := c h
theorem zp30_1_ {p q g1 : Prop} (h : p) (h1 : g1) (c : p → g1 → q := by intro h_ h1_; repeat (first | (with_reducible first | exact h_ | apply below_alloc | apply pw_below_drewN | apply below_drew1 | refine below_set ?_ h1_) | exact h_)) : q := c h h1
theorem zp30_2_ {p q : Prop} (h : p) (c : p → q := by intro h_; repeat (first | (with_reducible first | exact h_ | apply IsS125.alloc | apply IsS125.drewN | apply IsS125.drew | apply IsS125.set_1 | apply IsS125.set_2) | exact h_)) : q := c h
theorem zp30_3_ {p q : Prop} (h : p) (c : p → q := by intro h_; repeat (first | (with_reducible first | exact h_ | apply KeepBut.set_ | apply keep_drewN | apply keep_drew | apply keep_alloc) | exact h_)) : q := c h
set_option maxHeartbeats 8000000 in
set_option maxRecDepth 100000 in
theorem spec_l1New.calls (k : Nat) (A0 : Option Addr) (c0 : Nat) (l0 : List Int) (r1 : List Int) (r2 : Int) (r3 : Int) (w0 w : World) (hB : Below w0.heap.size w0 w) (hr0 : Kd.C (Kd.int .u8) w0 A0 l0.length l0) (hc0 : l0.length ≤ c0) (h : spec_l1New.f k l0 = some (r1, r2, r3)) :
    Calls Try.prog 85 #[.slice A0 l0.length c0] w fun e w' => ∃ g_ : Nat, e = .returned (.pointer (some ⟨g_, 0, none⟩)) ∧ IsS125 w0 w' g_ r1 r2 r3 ∧ Below w0.heap.size w0 w' ∧ Below w.heap.size w w' := by
  have hu125 := Try.underlying125
  have HR0 := am_ hr0
  have HC0 := am_ hc0
  clear hr0 hc0
  have HBW := am_ (Below.refl w.heap.size w)
  have HW0 := am_ hB.size
  have HB := am_ hB
  clear hB
  have H : (spec_l1New.l0 k l0 (wrap64 (26583 + (l0.length : Int))) 0) = some (r1, r2, r3) := h
  clear h
  have H' := am_ H
  clear H
  go_enter Try.func85, Try.ntmps85
  go_wp2
  go_loopg [3, 4] k (fun kq v3 v4 w' => ∃ (x3_1 : Int) (x4_1 : Int), v3 = .int .i64 x3_1 ∧ v4 = .int .i64 x4_1 ∧ Aside0 (spec_l1New.l0 kq l0 x3_1 x4_1 = some (r1, r2, r3)) ∧ Aside0 (kq ≤ k) ∧ Aside0 (Below w0.heap.size w0 w') ∧ Aside0 (Below w.heap.size w w'))
  case atStart => exact ⟨(wrap64 (26583 + (l0.length : Int))), (0), (by first | rfl | (simp; done) | (simp [*]; done)), (by first | rfl | (simp; done) | (simp [*]; done)), H', ⟨Nat.le_refl _⟩, ⟨by exact zp30_0_ HB.out⟩, ⟨by exact zp30_0_ HBW.out⟩⟩
  case round =>
    clear H'
    obtain ⟨x3_1, x4_1, rfl, rfl, HA, HK1, HB, HBW⟩ := hrel
    cases gk with
    | zero => exact absurd HA.out (by simp [spec_l1New.l0])
    | succ k1 =>
      have H := HA.out
      clear HA
      simp only [spec_l1New.l0] at H
      by_cases c2 : x4_1 < (l0.length : Int)
      · rw [if_pos c2] at H
        have c2b0 : decide (x4_1 < (l0.length : Int)) = true := decide_eq_true c2
        clear c2
        by_cases c3 : x4_1 < 4000
        · rw [if_pos c3] at H
          have c3b0 : decide (x4_1 < 4000) = true := decide_eq_true c3
          clear c3
          by_cases c4 : 0 ≤ x4_1
          · rw [if_pos c4] at H
            have c4b0 : decide (0 ≤ x4_1) = true := decide_eq_true c4
            clear c4
            have H' := am_ H
            clear H
            have p545 : 0 ≤ (x4_1 : Int) := of_decide_eq_true ah_
            have q545 : x4_1 < (l0.length : Int) := of_decide_eq_true ah_
            obtain ⟨ad545, e545, hx545_0⟩ := Kd.at_int HR0.out x4_1 p545 q545
            cases e545
            replace hx545_0 := pw_cell_below HB.out hx545_0
            replace p545 := eq_true p545
            replace q545 := eq_true q545
            go_wp2
            go_roundg k1
            case measure => have := HK1.out; omega
            case rel => exact ⟨(Go.bits .and .i64 (wrap64 ((wrap64 ((wrap64 (x3_1 * 131)) + (wrap64 (rd l0 x4_1)))) + 7)) 1073741823), (wrap64 (x4_1 + 1)), (by first | rfl | (simp; done) | (simp [*]; done)), (by first | rfl | (simp; done) | (simp [*]; done)), H', ⟨by have := HK1.out; omega⟩, ⟨by exact zp30_0_ HB.out⟩, ⟨by exact zp30_0_ HBW.out⟩⟩
          · rw [if_neg c4] at H
            exact absurd H (by simp)
        · rw [if_neg c3] at H
          have c3b0 : decide (x4_1 < 4000) = false := decide_eq_false c3
          clear c3
          simp only [Option.some.injEq, Prod.mk.injEq] at H
          obtain ⟨rfl, rfl, rfl⟩ := H
          go_wp2_with (first | ((with_reducible refine gate_dst (N := 31) rfl ?_); refine box_event ?hg (N := 31) ?hd (cs := #[.slice A0 l0.length c0, .int .i64 0, .int .i64 x3_1]) (t := 125) ?hr ?_; (case hd => rfl); (case hg => rfl); (case hr => first | (go_simp; done) | (go_simp; rfl)); intro gb546 hg w5 hbox hb; have n0_ := am_ (below_step HBW.out hb); have n1_ := am_ (below_step (b0_ HB.out) hb); have n2_ := am_ (hbox); have n3_ := am_ ((by rw [hg]; exact (below_size (b0_ HBW.out)) : w.heap.size ≤ gb546)); have n4_ := am_ ((Nat.le_trans HW0.out (by rw [hg]; exact (below_size (b0_ HBW.out)) : w.heap.size ≤ gb546) : w0.heap.size ≤ gb546)); clear HBW; clear HB; have HBW := n0_; have HB := n1_; have BK546 := n2_; have GW546 := n3_; have GE546 := n4_; clear n0_ n1_ n2_ n3_ n4_; clear hb hbox hg))
          go_ret
          exact ⟨_, rfl, (show IsS125 w0 _ gb546 l0 0 x3_1 from ⟨_, _, by refine rb_ ?_; exact BK546.out, GE546.out, HR0.out⟩), by exact zp30_1_ HB.out GE546.out, by exact zp30_1_ HBW.out GW546.out⟩
      · rw [if_neg c2] at H
        have c2b0 : decide (x4_1 < (l0.length : Int)) = false := decide_eq_false c2
        clear c2
        simp only [Option.some.injEq, Prod.mk.injEq] at H
        obtain ⟨rfl, rfl, rfl⟩ := H
        go_wp2_with (first | ((with_reducible refine gate_dst (N := 31) rfl ?_); refine box_event ?hg (N := 31) ?hd (cs := #[.slice A0 l0.length c0, .int .i64 0, .int .i64 x3_1]) (t := 125) ?hr ?_; (case hd => rfl); (case hg => rfl); (case hr => first | (go_simp; done) | (go_simp; rfl)); intro gb547 hg w6 hbox hb; have n0_ := am_ (below_step HBW.out hb); have n1_ := am_ (below_step (b0_ HB.out) hb); have n2_ := am_ (hbox); have n3_ := am_ ((by rw [hg]; exact (below_size (b0_ HBW.out)) : w.heap.size ≤ gb547)); have n4_ := am_ ((Nat.le_trans HW0.out (by rw [hg]; exact (below_size (b0_ HBW.out)) : w.heap.size ≤ gb547) : w0.heap.size ≤ gb547)); clear HBW; clear HB; have HBW := n0_; have HB := n1_; have BK547 := n2_; have GW547 := n3_; have GE547 := n4_; clear n0_ n1_ n2_ n3_ n4_; clear hb hbox hg))
        go_ret
        exact ⟨_, rfl, (show IsS125 w0 _ gb547 l0 0 x3_1 from ⟨_, _, by refine rb_ ?_; exact BK547.out, GE547.out, HR0.out⟩), by exact zp30_1_ HB.out GE547.out, by exact zp30_1_ HBW.out GW547.out⟩
def spec_l1Byte.f (s0_0 : List Int) (s0_1 : Int) (s0_2 : Int) : Option (Int × Int × Int) := if s0_1 < (s0_0.length : Int) then (if 0 ≤ s0_1 then (some (Go.bits .and .i64 (wrap64 ((Go.bits .and .i64 (Go.bits .xor .i64 ((wrap64 ((wrap64 (s0_2 * 6364136223846793005)) + 1442695040888963407)) / 8589934592) ((wrap64 ((wrap64 (s0_2 * 6364136223846793005)) + 1442695040888963407)) / 35184372088832)) 255) + (wrap64 (rd s0_0 s0_1)))) 255, wrap64 (s0_1 + 1), wrap64 ((wrap64 (s0_2 * 6364136223846793005)) + 1442695040888963407))) else (none)) else (some (Go.bits .and .i64 (Go.bits .xor .i64 ((wrap64 ((wrap64 (s0_2 * 6364136223846793005)) + 1442695040888963407)) / 8589934592) ((wrap64 ((wrap64 (s0_2 * 6364136223846793005)) + 1442695040888963407)) / 35184372088832)) 255, s0_1, wrap64 ((wrap64 (s0_2 * 6364136223846793005)) + 1442695040888963407)))
set_option maxHeartbeats 8000000 in
set_option maxRecDepth 100000 in
theorem spec_l1Byte.calls (g : Nat) (s0_0 : List Int) (s0_1 : Int) (s0_2 : Int) (r1 : Int) (r2 : Int) (r3 : Int) (w0 w : World) (hI : IsS125 w0 w g s0_0 s0_1 s0_2) (hB : Below w0.heap.size w0 w) (h : spec_l1Byte.f s0_0 s0_1 s0_2 = some (r1, r2, r3)) :
    Calls Try.prog 129 #[.pointer (some ⟨g, 0, none⟩)] w fun e w' => e = .returned (.int .i64 r1) ∧ IsS125 w0 w' g s0_0 r2 r3 ∧ Below w0.heap.size w0 w' ∧ KeepBut w w' g none := by
  have HI0 := am_ hI
  have HK := am_ (KeepBut.refl w g none)
  have HL := am_ hB.size
  clear hI
  have HW0 := am_ hB.size
  have HB := am_ hB
  clear hB
  have H : (if s0_1 < (s0_0.length : Int) then (if 0 ≤ s0_1 then (some (Go.bits .and .i64 (wrap64 ((Go.bits .and .i64 (Go.bits .xor .i64 ((wrap64 ((wrap64 (s0_2 * 6364136223846793005)) + 1442695040888963407)) / 8589934592) ((wrap64 ((wrap64 (s0_2 * 6364136223846793005)) + 1442695040888963407)) / 35184372088832)) 255) + (wrap64 (rd s0_0 s0_1)))) 255, wrap64 (s0_1 + 1), wrap64 ((wrap64 (s0_2 * 6364136223846793005)) + 1442695040888963407))) else (none)) else (some (Go.bits .and .i64 (Go.bits .xor .i64 ((wrap64 ((wrap64 (s0_2 * 6364136223846793005)) + 1442695040888963407)) / 8589934592) ((wrap64 ((wrap64 (s0_2 * 6364136223846793005)) + 1442695040888963407)) / 35184372088832)) 255, s0_1, wrap64 ((wrap64 (s0_2 * 6364136223846793005)) + 1442695040888963407)))) = some (r1, r2, r3) := h
  clear h
  by_cases c2 : s0_1 < (s0_0.length : Int)
  · rw [if_pos c2] at H
    have c2b0 : decide (s0_1 < (s0_0.length : Int)) = true := decide_eq_true c2
    clear c2
    by_cases c3 : 0 ≤ s0_1
    · rw [if_pos c3] at H
      have c3b0 : decide (0 ≤ s0_1) = true := decide_eq_true c3
      clear c3
      simp only [Option.some.injEq, Prod.mk.injEq] at H
      obtain ⟨rfl, rfl, rfl⟩ := H
      obtain ⟨ASz4_0, cSz4_0, HGz4, hgz4, HSz4_0⟩ := HI0.out
      have hcz4_0 := cellS125_0 HGz4
      have hcz4_1 := cellS125_1 HGz4
      have hcz4_2 := cellS125_2 HGz4
      have hfz4_1 := blk_frozen HGz4 1
      have hfz4_2 := blk_frozen HGz4 2
      clear HGz4 hgz4
      have p548 : 0 ≤ (s0_1 : Int) := of_decide_eq_true ah_
      have q548 : s0_1 < (s0_0.length : Int) := of_decide_eq_true ah_
      obtain ⟨ad548, e548, hx548_0⟩ := Kd.at_int HSz4_0 s0_1 p548 q548
      cases e548
      have hn548_0 : ad548.block ≠ g := Nat.ne_of_lt (Nat.lt_of_lt_of_le (by have := World.block_lt_of_cell? _ _ hx548_0; first | rwa [add_block] at this | exact this) (IsS125.ge HI0.out))
      replace hx548_0 := pw_cell_below HB.out hx548_0
      replace hx548_0 := (cell_far (p := ⟨g, 2, none⟩) (by first | (rw [add_block]; exact hn548_0) | (show (Addr.add _ _).block ≠ _; rw [add_block]; exact hn548_0) | exact hn548_0) (.int .i64 (wrap64 ((wrap64 (s0_2 * 6364136223846793005)) + 1442695040888963407)))).trans hx548_0
      (try have hy548_0 := fun (n_ : Nat) => (show (((w.drewN n_).setCell ⟨g, 2, none⟩ (.int .i64 (wrap64 ((wrap64 (s0_2 * 6364136223846793005)) + 1442695040888963407))))).cell? _ = some _ from hx548_0))
      clear hn548_0
      replace p548 := eq_true p548
      replace q548 := eq_true q548
      go_enter Try.func129, Try.ntmps129
      go_wp2
      repeat (go_quiet (fail); try go_wp2)
      go_ret
      exact ⟨by first | rfl | (simp [errW_none, errW_some] <;> rfl) | (simp [*, errW_none, errW_some] <;> rfl), by exact zp30_2_ HI0.out, by exact zp30_1_ HB.out (IsS125.ge HI0.out), by exact zp30_3_ HK.out⟩
    · rw [if_neg c3] at H
      exact absurd H (by simp)
  · rw [if_neg c2] at H
    have c2b0 : decide (s0_1 < (s0_0.length : Int)) = false := decide_eq_false c2
    clear c2
    simp only [Option.some.injEq, Prod.mk.injEq] at H
    obtain ⟨rfl, rfl, rfl⟩ := H
    obtain ⟨ASz5_0, cSz5_0, HGz5, hgz5, HSz5_0⟩ := HI0.out
    have hcz5_0 := cellS125_0 HGz5
    have hcz5_1 := cellS125_1 HGz5
    have hcz5_2 := cellS125_2 HGz5
    have hfz5_1 := blk_frozen HGz5 1
    have hfz5_2 := blk_frozen HGz5 2
    clear HGz5 hgz5
    go_enter Try.func129, Try.ntmps129
    go_wp2
    repeat (go_quiet (fail); try go_wp2)
    go_ret
    exact ⟨by first | rfl | (simp [errW_none, errW_some] <;> rfl) | (simp [*, errW_none, errW_some] <;> rfl), by exact zp30_2_ HI0.out, by exact zp30_1_ HB.out (IsS125.ge HI0.out), by exact zp30_3_ HK.out⟩
def spec_l1Below.f (s0_0 : List Int) (s0_1 : Int) (s0_2 : Int) (a1 : Int) : Option (Int × Int × Int) := if a1 ≤ 0 then (some (0, s0_1, s0_2)) else (if a1 ≤ 256 then ((spec_l1Byte.f s0_0 s0_1 s0_2).bind fun bt549 => (if a1 = 0 then (none) else (some (Int.tmod bt549.1 a1, bt549.2.1, bt549.2.2)))) else ((spec_l1Byte.f s0_0 s0_1 s0_2).bind fun bt552 => ((spec_l1Byte.f s0_0 bt552.2.1 bt552.2.2).bind fun bt555 => ((spec_l1Byte.f s0_0 bt555.2.1 bt555.2.2).bind fun bt558 => ((spec_l1Byte.f s0_0 bt558.2.1 bt558.2.2).bind fun bt561 => (if a1 = 0 then (none) else (some (Int.tmod (wrap64 ((wrap64 ((wrap64 ((wrap64 (bt552.1 * 16777216)) + (wrap64 (bt555.1 * 65536)))) + (wrap64 (bt558.1 * 256)))) + bt561.1)) a1, bt561.2.1, bt561.2.2))))))))
set_option maxHeartbeats 8000000 in
set_option maxRecDepth 100000 in
theorem spec_l1Below.calls (g : Nat) (s0_0 : List Int) (s0_1 : Int) (s0_2 : Int) (a1 : Int) (r1 : Int) (r2 : Int) (r3 : Int) (w0 w : World) (hI : IsS125 w0 w g s0_0 s0_1 s0_2) (hB : Below w0.heap.size w0 w) (h : spec_l1Below.f s0_0 s0_1 s0_2 a1 = some (r1, r2, r3)) :
    Calls Try.prog 107 #[.pointer (some ⟨g, 0, none⟩), .int .i64 a1] w fun e w' => e = .returned (.int .i64 r1) ∧ IsS125 w0 w' g s0_0 r2 r3 ∧ Below w0.heap.size w0 w' ∧ KeepBut w w' g none := by
  have HI0 := am_ hI
  have HK := am_ (KeepBut.refl w g none)
  have HL := am_ hB.size
  clear hI
  have HW0 := am_ hB.size
  have HB := am_ hB
  clear hB
  have H : (if a1 ≤ 0 then (some (0, s0_1, s0_2)) else (if a1 ≤ 256 then ((spec_l1Byte.f s0_0 s0_1 s0_2).bind fun bt549 => (if a1 = 0 then (none) else (some (Int.tmod bt549.1 a1, bt549.2.1, bt549.2.2)))) else ((spec_l1Byte.f s0_0 s0_1 s0_2).bind fun bt552 => ((spec_l1Byte.f s0_0 bt552.2.1 bt552.2.2).bind fun bt555 => ((spec_l1Byte.f s0_0 bt555.2.1 bt555.2.2).bind fun bt558 => ((spec_l1Byte.f s0_0 bt558.2.1 bt558.2.2).bind fun bt561 => (if a1 = 0 then (none) else (some (Int.tmod (wrap64 ((wrap64 ((wrap64 ((wrap64 (bt552.1 * 16777216)) + (wrap64 (bt555.1 * 65536)))) + (wrap64 (bt558.1 * 256)))) + bt561.1)) a1, bt561.2.1, bt561.2.2))))))))) = some (r1, r2, r3) := h
  clear h
  by_cases c3 : a1 ≤ 0
  · rw [if_pos c3] at H
    have c3b0 : decide (a1 ≤ 0) = true := decide_eq_true c3
    clear c3
    simp only [Option.some.injEq, Prod.mk.injEq] at H
    obtain ⟨rfl, rfl, rfl⟩ := H
    go_enter Try.func107, Try.ntmps107
    go_wp2
    go_ret
    exact ⟨by first | rfl | (simp [errW_none, errW_some] <;> rfl) | (simp [*, errW_none, errW_some] <;> rfl), by exact zp30_2_ HI0.out, by exact zp30_1_ HB.out (IsS125.ge HI0.out), by exact zp30_3_ HK.out⟩
  · rw [if_neg c3] at H
    have c3b0 : decide (a1 ≤ 0) = false := decide_eq_false c3
    clear c3
    by_cases c4 : a1 ≤ 256
    · rw [if_pos c4] at H
      have c4b0 : decide (a1 ≤ 256) = true := decide_eq_true c4
      clear c4
      replace H := Option.bind_eq_some_iff.mp H
      obtain ⟨⟨t549, t550, t551⟩, A50, H⟩ := H
      have A5 := am_ A50
      clear A50
      by_cases c6 : a1 = 0
      · rw [if_pos c6] at H
        exact absurd H (by simp)
      · rw [if_neg c6] at H
        have c6b0 : (a1 == 0) = false := beq_eq_false_iff_ne.mpr c6
        have c6b1 : (a1 != 0) = true := bne_iff_ne.mpr c6
        simp only [Option.some.injEq, Prod.mk.injEq] at H
        obtain ⟨rfl, rfl, rfl⟩ := H
        go_enter Try.func107, Try.ntmps107
        go_wp2_with (first | ((with_reducible refine gate_callee (f := 129) rfl ?_); refine gL_ (some 14) Try.func129 #[.pointer (some ⟨g, 0, none⟩)] ?_; (with_reducible refine (spec_l1Byte.calls g s0_0 s0_1 s0_2 t549 t550 t551 w0 _ ?side1 ?side2 A5.out).mono ?_); (case side1 => exact zp30_2_ HI0.out); (case side2 => exact zp30_1_ HB.out (IsS125.ge HI0.out)); rintro e w7 ⟨rfl, hi, hb, hk⟩; refine ⟨_, rfl, ?_⟩; have n0_ := am_ (KeepBut.trans (k0_ HK.out) hk (.inl rfl)); have n1_ := am_ (hb); have n2_ := am_ (hi); clear HK; clear HB; clear HI0; have HK := n0_; have HB := n1_; have HI0 := n2_; clear n0_ n1_ n2_; (try clear hb); (try clear hb2); (try clear hk); (try clear hi)))
        go_ret
        exact ⟨by first | rfl | (simp [errW_none, errW_some] <;> rfl) | (simp [*, errW_none, errW_some] <;> rfl), by exact zp30_2_ HI0.out, by exact zp30_1_ HB.out (IsS125.ge HI0.out), by exact zp30_3_ HK.out⟩
    · rw [if_neg c4] at H
      have c4b0 : decide (a1 ≤ 256) = false := decide_eq_false c4
      clear c4
      replace H := Option.bind_eq_some_iff.mp H
      obtain ⟨⟨t552, t553, t554⟩, A80, H⟩ := H
      have A8 := am_ A80
      clear A80
      replace H := Option.bind_eq_some_iff.mp H
      obtain ⟨⟨t555, t556, t557⟩, A90, H⟩ := H
      have A9 := am_ A90
      clear A90
      replace H := Option.bind_eq_some_iff.mp H
      obtain ⟨⟨t558, t559, t560⟩, A100, H⟩ := H
      have A10 := am_ A100
      clear A100
      replace H := Option.bind_eq_some_iff.mp H
      obtain ⟨⟨t561, t562, t563⟩, A110, H⟩ := H
      have A11 := am_ A110
      clear A110
      by_cases c12 : a1 = 0
      · rw [if_pos c12] at H
        exact absurd H (by simp)
      · rw [if_neg c12] at H
        have c12b0 : (a1 == 0) = false := beq_eq_false_iff_ne.mpr c12
        have c12b1 : (a1 != 0) = true := bne_iff_ne.mpr c12
        simp only [Option.some.injEq, Prod.mk.injEq] at H
        obtain ⟨rfl, rfl, rfl⟩ := H
        go_enter Try.func107, Try.ntmps107
        go_wp2_with (first | ((with_reducible refine gate_callee (f := 129) rfl ?_); refine gL_ (some 18) Try.func129 #[.pointer (some ⟨g, 0, none⟩)] ?_; (with_reducible refine (spec_l1Byte.calls g s0_0 s0_1 s0_2 t552 t553 t554 w0 _ ?side1 ?side2 A8.out).mono ?_); (case side1 => exact zp30_2_ HI0.out); (case side2 => exact zp30_1_ HB.out (IsS125.ge HI0.out)); rintro e w13 ⟨rfl, hi, hb, hk⟩; refine ⟨_, rfl, ?_⟩; have n0_ := am_ (KeepBut.trans (k0_ HK.out) hk (.inl rfl)); have n1_ := am_ (hb); have n2_ := am_ (hi); clear HK; clear HB; clear HI0; have HK := n0_; have HB := n1_; have HI0 := n2_; clear n0_ n1_ n2_; (try clear hb); (try clear hb2); (try clear hk); (try clear hi)) | ((with_reducible refine gate_callee (f := 129) rfl ?_); refine gL_ (some 20) Try.func129 #[.pointer (some ⟨g, 0, none⟩)] ?_; (with_reducible refine (spec_l1Byte.calls g s0_0 t553 t554 t555 t556 t557 w0 _ ?side1 ?side2 A9.out).mono ?_); (case side1 => exact zp30_2_ HI0.out); (case side2 => exact zp30_1_ HB.out (IsS125.ge HI0.out)); rintro e w14 ⟨rfl, hi, hb, hk⟩; refine ⟨_, rfl, ?_⟩; have n0_ := am_ (KeepBut.trans (k0_ HK.out) hk (.inl rfl)); have n1_ := am_ (hb); have n2_ := am_ (hi); clear HK; clear HB; clear HI0; have HK := n0_; have HB := n1_; have HI0 := n2_; clear n0_ n1_ n2_; (try clear hb); (try clear hb2); (try clear hk); (try clear hi)) | ((with_reducible refine gate_callee (f := 129) rfl ?_); refine gL_ (some 22) Try.func129 #[.pointer (some ⟨g, 0, none⟩)] ?_; (with_reducible refine (spec_l1Byte.calls g s0_0 t556 t557 t558 t559 t560 w0 _ ?side1 ?side2 A10.out).mono ?_); (case side1 => exact zp30_2_ HI0.out); (case side2 => exact zp30_1_ HB.out (IsS125.ge HI0.out)); rintro e w15 ⟨rfl, hi, hb, hk⟩; refine ⟨_, rfl, ?_⟩; have n0_ := am_ (KeepBut.trans (k0_ HK.out) hk (.inl rfl)); have n1_ := am_ (hb); have n2_ := am_ (hi); clear HK; clear HB; clear HI0; have HK := n0_; have HB := n1_; have HI0 := n2_; clear n0_ n1_ n2_; (try clear hb); (try clear hb2); (try clear hk); (try clear hi)) | ((with_reducible refine gate_callee (f := 129) rfl ?_); refine gL_ (some 24) Try.func129 #[.pointer (some ⟨g, 0, none⟩)] ?_; (with_reducible refine (spec_l1Byte.calls g s0_0 t559 t560 t561 t562 t563 w0 _ ?side1 ?side2 A11.out).mono ?_); (case side1 => exact zp30_2_ HI0.out); (case side2 => exact zp30_1_ HB.out (IsS125.ge HI0.out)); rintro e w16 ⟨rfl, hi, hb, hk⟩; refine ⟨_, rfl, ?_⟩; have n0_ := am_ (KeepBut.trans (k0_ HK.out) hk (.inl rfl)); have n1_ := am_ (hb); have n2_ := am_ (hi); clear HK; clear HB; clear HI0; have HK := n0_; have HB := n1_; have HI0 := n2_; clear n0_ n1_ n2_; (try clear hb); (try clear hb2); (try clear hk); (try clear hi)))
        go_ret
        exact ⟨by first | rfl | (simp [errW_none, errW_some] <;> rfl) | (simp [*, errW_none, errW_some] <;> rfl), by exact zp30_2_ HI0.out, by exact zp30_1_ HB.out (IsS125.ge HI0.out), by exact zp30_3_ HK.out⟩
def spec_l1Once.f (s0_0 : List Int) (s0_1 : Int) (s0_2 : Int) (a1 : Int) : Option (Bool × Int × Int) := (spec_l1Below.f s0_0 s0_1 s0_2 a1).bind fun bt564 => (some ((bt564.1 == 0), bt564.2.1, bt564.2.2))
set_option maxHeartbeats 8000000 in
set_option maxRecDepth 100000 in
theorem spec_l1Once.calls (g : Nat) (s0_0 : List Int) (s0_1 : Int) (s0_2 : Int) (a1 : Int) (r1 : Bool) (r2 : Int) (r3 : Int) (w0 w : World) (hI : IsS125 w0 w g s0_0 s0_1 s0_2) (hB : Below w0.heap.size w0 w) (h : spec_l1Once.f s0_0 s0_1 s0_2 a1 = some (r1, r2, r3)) :
    Calls Try.prog 87 #[.pointer (some ⟨g, 0, none⟩), .int .i64 a1] w fun e w' => e = .returned (.bool r1) ∧ IsS125 w0 w' g s0_0 r2 r3 ∧ Below w0.heap.size w0 w' ∧ KeepBut w w' g none := by
  have HI0 := am_ hI
  have HK := am_ (KeepBut.refl w g none)
  have HL := am_ hB.size
  clear hI
  have HW0 := am_ hB.size
  have HB := am_ hB
  clear hB
  have H : ((spec_l1Below.f s0_0 s0_1 s0_2 a1).bind fun bt564 => (some ((bt564.1 == 0), bt564.2.1, bt564.2.2))) = some (r1, r2, r3) := h
  clear h
  replace H := Option.bind_eq_some_iff.mp H
  obtain ⟨⟨t564, t565, t566⟩, A30, H⟩ := H
  replace H : (some ((t564 == 0), t565, t566)) = some (r1, r2, r3) := H
  have A3 := am_ A30
  clear A30
  simp only [Option.some.injEq, Prod.mk.injEq] at H
  obtain ⟨rfl, rfl, rfl⟩ := H
  go_enter Try.func87, Try.ntmps87
  go_wp2_with (first | ((with_reducible refine gate_callee (f := 107) rfl ?_); refine gL_ (some 7) Try.func107 #[.pointer (some ⟨g, 0, none⟩), .int .i64 a1] ?_; (with_reducible refine (spec_l1Below.calls g s0_0 s0_1 s0_2 a1 t564 t565 t566 w0 _ ?side1 ?side2 A3.out).mono ?_); (case side1 => exact zp30_2_ HI0.out); (case side2 => exact zp30_1_ HB.out (IsS125.ge HI0.out)); rintro e w4 ⟨rfl, hi, hb, hk⟩; refine ⟨_, rfl, ?_⟩; have n0_ := am_ (KeepBut.trans (k0_ HK.out) hk (.inl rfl)); have n1_ := am_ (hb); have n2_ := am_ (hi); clear HK; clear HB; clear HI0; have HK := n0_; have HB := n1_; have HI0 := n2_; clear n0_ n1_ n2_; (try clear hb); (try clear hb2); (try clear hk); (try clear hi)))
  go_ret
  exact ⟨by first | rfl | (simp [errW_none, errW_some] <;> rfl) | (simp [*, errW_none, errW_some] <;> rfl), by exact zp30_2_ HI0.out, by exact zp30_1_ HB.out (IsS125.ge HI0.out), by exact zp30_3_ HK.out⟩
end Go.Proofs.Ytogamkblkoobkaa.P
end
section
namespace Go.Proofs.Ytogamkblkoobkaa.P
open Go.RowKit Go.Proofs.YtogamkblkoobkaaW.PrintWords Go.Proofs.YtogamkblkoobkaaW.PrintLast Go.Proofs.YtogamkblkoobkaaW.PrintMore
attribute [local go_sem] max2_int min2_int max_two min_two max_three min_three max_four min_four
set_option linter.unusedVariables false
set_option linter.unusedSimpArgs false
end Go.Proofs.Ytogamkblkoobkaa.P
end
section
namespace Go.Proofs.Ytogamkblkoobkaa.P
open Go.RowKit Go.Proofs.YtogamkblkoobkaaW.PrintWords Go.Proofs.YtogamkblkoobkaaW.PrintLast Go.Proofs.YtogamkblkoobkaaW.PrintMore
attribute [local go_sem] max2_int min2_int max_two min_two max_three min_three max_four min_four
set_option linter.unusedVariables false
set_option linter.unusedSimpArgs false
def spec_l5Ints.l0 : Nat → List Int → List Int → Int → Option (Bool)
  | 0, _, _, _ => none
  | k + 1, x0, x1, x5 => if x5 < (x0.length : Int) then (if 0 ≤ x5 then (if x5 < (x1.length : Int) then (if (rd x0 x5) = (rd x1 x5) then (spec_l5Ints.l0 k x0 x1 (wrap64 (x5 + 1))) else (some false)) else (none)) else (none)) else (some true)
def spec_l5Ints.f (k : Nat) (l0 : List Int) (l1 : List Int) : Option (Bool) := if (l0.length : Int) = (l1.length : Int) then (spec_l5Ints.l0 k l0 l1 0) else (some false)
theorem spec_l5Ints.mono_l : ∀ k, (∀ y0 y1 y2, LeO (spec_l5Ints.l0 k y0 y1 y2) (spec_l5Ints.l0 (k + 1) y0 y1 y2))
  | 0 => fun _ _ _ r h => by simp [spec_l5Ints.l0] at h
  | k + 1 => by
    have ih0 := spec_l5Ints.mono_l k
    · intro y0 y1 y2
      unfold spec_l5Ints.l0
      repeat' first
      | (with_reducible exact ih0 _ _ _)
      | (with_reducible exact LeO.refl _)
      | (with_reducible exact LeO.none _)
      | (with_reducible refine LeO.ite ?_ ?_)
      | (with_reducible refine LeO.bind ?_ (fun _ => ?_))
      | exact ih0 _ _ _
      | exact LeO.none _
      | refine LeO.ite ?_ ?_
      | refine LeO.bind ?_ (fun _ => ?_)
theorem spec_l5Ints.mono : ∀ a0 a1 k, LeO (spec_l5Ints.f k a0 a1) (spec_l5Ints.f (k + 1) a0 a1) := by
  intro a0 a1 k
  have ih0 := spec_l5Ints.mono_l k
  unfold spec_l5Ints.f
  repeat' first
      | (with_reducible exact ih0 _ _ _)
      | (with_reducible exact LeO.refl _)
      | (with_reducible exact LeO.none _)
      | (with_reducible refine LeO.ite ?_ ?_)
      | (with_reducible refine LeO.bind ?_ (fun _ => ?_))
      | exact ih0 _ _ _
      | exact LeO.none _
      | refine LeO.ite ?_ ?_
      | refine LeO.bind ?_ (fun _ => ?_)
set_option maxHeartbeats 8000000 in
set_option maxRecDepth 100000 in
theorem spec_l5Ints.calls (k : Nat) (A0 : Option Addr) (c0 : Nat) (l0 : List Int) (A1 : Option Addr) (c1 : Nat) (l1 : List Int) (r : Bool) (w : World) (hr0 : Kd.C (Kd.int .i64) w A0 l0.length l0) (hc0 : l0.length ≤ c0) (hr1 : Kd.C (Kd.int .i64) w A1 l1.length l1) (hc1 : l1.length ≤ c1) (h : spec_l5Ints.f k l0 l1 = some r) :
    Calls Try.prog 93 #[.slice A0 l0.length c0, .slice A1 l1.length c1] w fun e w' => e = .returned (.bool r) ∧ Drawn0 w w' := by
  have HR0 := am_ hr0
  have HC0 := am_ hc0
  clear hr0 hc0
  have HR1 := am_ hr1
  have HC1 := am_ hc1
  clear hr1 hc1
  have H : (if (l0.length : Int) = (l1.length : Int) then (spec_l5Ints.l0 k l0 l1 0) else (some false)) = some r := h
  clear h
  by_cases c3 : (l0.length : Int) = (l1.length : Int)
  · rw [if_pos c3] at H
    have c3b0 : ((l0.length : Int) == (l1.length : Int)) = true := beq_iff_eq.mpr c3
    have c3b1 : ((l0.length : Int) != (l1.length : Int)) = false := bne_eq_false_iff_eq.mpr c3
    have c3b2 : (l0.length == l1.length) = true := by first | simpa using c3 | (simp at c3 ⊢; omega)
    clear c3
    have H' := am_ H
    clear H
    go_enter Try.func93, Try.ntmps93
    go_wp2
    repeat (go_quiet (fail); try go_wp2)
    go_loopg [5] k (fun kq v5 w' => ∃ (x5_1 : Int), v5 = .int .i64 x5_1 ∧ Aside0 (spec_l5Ints.l0 kq l0 l1 x5_1 = some r) ∧ Aside0 (kq ≤ k) ∧ Drawn0 w w')
    case atStart => exact ⟨(0), (by first | rfl | (simp; done) | (simp [*]; done)), H', ⟨Nat.le_refl _⟩, by repeat (first | exact Drawn0.refl _ | apply Drawn0.step)⟩
    case round =>
      clear H'
      try clear c1
      try clear p2
      try clear c3
      try clear c3b0
      try clear c3b1
      try clear c3b2
      obtain ⟨x5_1, rfl, HA, HK1, ⟨m1, rfl⟩⟩ := hrel
      cases gk with
      | zero => exact absurd HA.out (by simp [spec_l5Ints.l0])
      | succ k1 =>
        have H := HA.out
        clear HA
        simp only [spec_l5Ints.l0] at H
        by_cases c4 : x5_1 < (l0.length : Int)
        · rw [if_pos c4] at H
          have c4b0 : decide (x5_1 < (l0.length : Int)) = true := decide_eq_true c4
          clear c4
          by_cases c5 : 0 ≤ x5_1
          · rw [if_pos c5] at H
            have c5b0 : decide (0 ≤ x5_1) = true := decide_eq_true c5
            clear c5
            by_cases c6 : x5_1 < (l1.length : Int)
            · rw [if_pos c6] at H
              have c6b0 : decide (x5_1 < (l1.length : Int)) = true := decide_eq_true c6
              clear c6
              by_cases c7 : (rd l0 x5_1) = (rd l1 x5_1)
              · rw [if_pos c7] at H
                have c7b0 : ((rd l0 x5_1) == (rd l1 x5_1)) = true := beq_iff_eq.mpr c7
                have c7b1 : ((rd l0 x5_1) != (rd l1 x5_1)) = false := bne_eq_false_iff_eq.mpr c7
                clear c7
                have H' := am_ H
                clear H
                have p400 : 0 ≤ (x5_1 : Int) := of_decide_eq_true ah_
                have q400 : x5_1 < (l0.length : Int) := of_decide_eq_true ah_
                obtain ⟨ad400, e400, hx400_0⟩ := Kd.at_int HR0.out x5_1 p400 q400
                cases e400
                replace p400 := eq_true p400
                replace q400 := eq_true q400
                have p401 : 0 ≤ (x5_1 : Int) := of_decide_eq_true ah_
                have q401 : x5_1 < (l1.length : Int) := of_decide_eq_true ah_
                obtain ⟨ad401, e401, hx401_0⟩ := Kd.at_int HR1.out x5_1 p401 q401
                cases e401
                replace p401 := eq_true p401
                replace q401 := eq_true q401
                go_wp2
                repeat (go_quiet (fail); try go_wp2)
                go_roundg k1
                case measure => have := HK1.out; omega
                case rel => exact ⟨(wrap64 (x5_1 + 1)), (by first | rfl | (simp; done) | (simp [*]; done)), H', ⟨by have := HK1.out; omega⟩, by repeat (first | exact Drawn0.refl _ | apply Drawn0.step)⟩
              · rw [if_neg c7] at H
                have c7b0 : ((rd l0 x5_1) == (rd l1 x5_1)) = false := beq_eq_false_iff_ne.mpr c7
                have c7b1 : ((rd l0 x5_1) != (rd l1 x5_1)) = true := bne_iff_ne.mpr c7
                obtain rfl := Option.some.inj H
                simp only [Option.some.injEq, Prod.mk.injEq] at H
                obtain ⟨rfl⟩ := H
                have p400 : 0 ≤ (x5_1 : Int) := of_decide_eq_true ah_
                have q400 : x5_1 < (l0.length : Int) := of_decide_eq_true ah_
                obtain ⟨ad400, e400, hx400_0⟩ := Kd.at_int HR0.out x5_1 p400 q400
                cases e400
                replace p400 := eq_true p400
                replace q400 := eq_true q400
                have p401 : 0 ≤ (x5_1 : Int) := of_decide_eq_true ah_
                have q401 : x5_1 < (l1.length : Int) := of_decide_eq_true ah_
                obtain ⟨ad401, e401, hx401_0⟩ := Kd.at_int HR1.out x5_1 p401 q401
                cases e401
                replace p401 := eq_true p401
                replace q401 := eq_true q401
                go_wp2
                repeat (go_quiet (fail); try go_wp2)
                go_ret
                exact ⟨by first | rfl | (simp; done) | (simp [*]; done), by repeat (first | exact Drawn0.refl _ | apply Drawn0.step)⟩
            · rw [if_neg c6] at H
              exact absurd H (by simp)
          · rw [if_neg c5] at H
            exact absurd H (by simp)
        · rw [if_neg c4] at H
          have c4b0 : decide (x5_1 < (l0.length : Int)) = false := decide_eq_false c4
          clear c4
          obtain rfl := Option.some.inj H
          simp only [Option.some.injEq, Prod.mk.injEq] at H
          obtain ⟨rfl⟩ := H
          go_wp2
          repeat (go_quiet (fail); try go_wp2)
          go_ret
          exact ⟨by first | rfl | (simp; done) | (simp [*]; done), by repeat (first | exact Drawn0.refl _ | apply Drawn0.step)⟩
  · rw [if_neg c3] at H
    have c3b0 : ((l0.length : Int) == (l1.length : Int)) = false := beq_eq_false_iff_ne.mpr c3
    have c3b1 : ((l0.length : Int) != (l1.length : Int)) = true := bne_iff_ne.mpr c3
    have c3b2 : (l0.length == l1.length) = false := by first | simpa using c3 | (simp at c3 ⊢; omega)
    obtain rfl := Option.some.inj H
    simp only [Option.some.injEq, Prod.mk.injEq] at H
    obtain ⟨rfl⟩ := H
    go_enter Try.func93, Try.ntmps93
    go_wp2
    repeat (go_quiet (fail); try go_wp2)
    go_ret
    exact ⟨by first | rfl | (simp; done) | (simp [*]; done), by repeat (first | exact Drawn0.refl _ | apply Drawn0.step)⟩
end Go.Proofs.Ytogamkblkoobkaa.P
end
section
namespace Go.Proofs.Ytogamkblkoobkaa.P
open Go.RowKit Go.Proofs.YtogamkblkoobkaaW.PrintWords Go.Proofs.YtogamkblkoobkaaW.PrintLast Go.Proofs.YtogamkblkoobkaaW.PrintMore
attribute [local go_sem] max2_int min2_int max_two min_two max_three min_three max_four min_four
set_option linter.unusedVariables false
set_option linter.unusedSimpArgs false
mutual
def spec_EqualDfa.j0 : Nat → Bool → List Bool → List (List Int) → List Bool → List (List Int) → Option (Bool)
  | 0, _, _, _, _, _ => none
  | k + 1, x22, x747000, x747001, x748000, x748001 => if x22 = true then (some false) else (spec_EqualDfa.l0 k 0 x747000 x747001 x748000 x748001)
def spec_EqualDfa.l0 : Nat → Int → List Bool → List (List Int) → List Bool → List (List Int) → Option (Bool)
  | 0, _, _, _, _, _ => none
  | k + 1, x5, x747000, x747001, x748000, x748001 => if x5 < (x747000.length : Int) then (if 0 ≤ x5 then (if x5 < (x748000.length : Int) then (if ((rdOf false x747000 x5) != (rdOf false x748000 x5)) = true then (some false) else (spec_EqualDfa.l0 k (wrap64 (x5 + 1)) x747000 x747001 x748000 x748001)) else (none)) else (none)) else (spec_EqualDfa.l1 k 0 x747000 x747001 x748000 x748001)
def spec_EqualDfa.l1 : Nat → Int → List Bool → List (List Int) → List Bool → List (List Int) → Option (Bool)
  | 0, _, _, _, _, _ => none
  | k + 1, x6, x747000, x747001, x748000, x748001 => if x6 < (x747001.length : Int) then (if 0 ≤ x6 then (if x6 < (x748001.length : Int) then ((spec_l5Ints.f k (rd_L1 x747001 x6) (rd_L1 x748001 x6)).bind fun t752 => (if t752 = true then (spec_EqualDfa.l1 k (wrap64 (x6 + 1)) x747000 x747001 x748000 x748001) else (some false))) else (none)) else (none)) else (some true)
end
def spec_EqualDfa.f (k : Nat) (l0_0 : List Bool) (l0_1 : List (List Int)) (l1_0 : List Bool) (l1_1 : List (List Int)) : Option (Bool) := if (l0_0.length : Int) = (l1_0.length : Int) then (spec_EqualDfa.j0 k ((l0_1.length : Int) != (l1_1.length : Int)) l0_0 l0_1 l1_0 l1_1) else (spec_EqualDfa.j0 k true l0_0 l0_1 l1_0 l1_1)
theorem spec_EqualDfa.mono_l : ∀ k, (∀ y0 y1 y2 y3 y4, LeO (spec_EqualDfa.j0 k y0 y1 y2 y3 y4) (spec_EqualDfa.j0 (k + 1) y0 y1 y2 y3 y4)) ∧ (∀ y0 y1 y2 y3 y4, LeO (spec_EqualDfa.l0 k y0 y1 y2 y3 y4) (spec_EqualDfa.l0 (k + 1) y0 y1 y2 y3 y4)) ∧ (∀ y0 y1 y2 y3 y4, LeO (spec_EqualDfa.l1 k y0 y1 y2 y3 y4) (spec_EqualDfa.l1 (k + 1) y0 y1 y2 y3 y4))
 | 0 => ⟨fun _ _ _ _ _ r h => by simp [spec_EqualDfa.j0] at h, fun _ _ _ _ _ r h => by simp [spec_EqualDfa.l0] at h, fun _ _ _ _ _ r h => by simp [spec_EqualDfa.l1] at h⟩
 | k + 1 => by
  obtain ⟨ih0, ih1, ih2⟩ := spec_EqualDfa.mono_l k
  refine ⟨?_, ?_, ?_⟩
  ·intro y0 y1 y2 y3 y4
   unfold spec_EqualDfa.j0
   repeat' first
   | (with_reducible exact ih0 _ _ _ _ _)
   | (with_reducible exact ih1 _ _ _ _ _)
   | (with_reducible exact ih2 _ _ _ _ _)
   | (with_reducible exact spec_l5Ints.mono _ _ _)
   | (with_reducible exact LeO.refl _)
   | (with_reducible exact LeO.none _)
   | (with_reducible refine LeO.ite ?_ ?_)
   | (with_reducible refine LeO.bind ?_ (fun _ => ?_))
   | exact ih0 _ _ _ _ _
   | exact ih1 _ _ _ _ _
   | exact ih2 _ _ _ _ _
   | exact spec_l5Ints.mono _ _ _
   | exact LeO.none _
   | refine LeO.ite ?_ ?_
   | refine LeO.bind ?_ (fun _ => ?_)
  ·intro y0 y1 y2 y3 y4
   unfold spec_EqualDfa.l0
   repeat' first
   | (with_reducible exact ih0 _ _ _ _ _)
   | (with_reducible exact ih1 _ _ _ _ _)
   | (with_reducible exact ih2 _ _ _ _ _)
   | (with_reducible exact spec_l5Ints.mono _ _ _)
   | (with_reducible exact LeO.refl _)
   | (with_reducible exact LeO.none _)
   | (with_reducible refine LeO.ite ?_ ?_)
   | (with_reducible refine LeO.bind ?_ (fun _ => ?_))
   | exact ih0 _ _ _ _ _
   | exact ih1 _ _ _ _ _
   | exact ih2 _ _ _ _ _
   | exact spec_l5Ints.mono _ _ _
   | exact LeO.none _
   | refine LeO.ite ?_ ?_
   | refine LeO.bind ?_ (fun _ => ?_)
  ·intro y0 y1 y2 y3 y4
   unfold spec_EqualDfa.l1
   repeat' first
   | (with_reducible exact ih0 _ _ _ _ _)
   | (with_reducible exact ih1 _ _ _ _ _)
   | (with_reducible exact ih2 _ _ _ _ _)
   | (with_reducible exact spec_l5Ints.mono _ _ _)
   | (with_reducible exact LeO.refl _)
   | (with_reducible exact LeO.none _)
   | (with_reducible refine LeO.ite ?_ ?_)
   | (with_reducible refine LeO.bind ?_ (fun _ => ?_))
   | exact ih0 _ _ _ _ _
   | exact ih1 _ _ _ _ _
   | exact ih2 _ _ _ _ _
   | exact spec_l5Ints.mono _ _ _
   | exact LeO.none _
   | refine LeO.ite ?_ ?_
   | refine LeO.bind ?_ (fun _ => ?_)
theorem spec_EqualDfa.mono : ∀ a0 a1 a2 a3 k, LeO (spec_EqualDfa.f k a0 a1 a2 a3) (spec_EqualDfa.f (k + 1) a0 a1 a2 a3) := by
 intro a0 a1 a2 a3 k
 obtain ⟨ih0, ih1, ih2⟩ := spec_EqualDfa.mono_l k
 unfold spec_EqualDfa.f
 repeat' first
   | (with_reducible exact ih0 _ _ _ _ _)
   | (with_reducible exact ih1 _ _ _ _ _)
   | (with_reducible exact ih2 _ _ _ _ _)
   | (with_reducible exact spec_l5Ints.mono _ _ _)
   | (with_reducible exact LeO.refl _)
   | (with_reducible exact LeO.none _)
   | (with_reducible refine LeO.ite ?_ ?_)
   | (with_reducible refine LeO.bind ?_ (fun _ => ?_))
   | exact ih0 _ _ _ _ _
   | exact ih1 _ _ _ _ _
   | exact ih2 _ _ _ _ _
   | exact spec_l5Ints.mono _ _ _
   | exact LeO.none _
   | refine LeO.ite ?_ ?_
   | refine LeO.bind ?_ (fun _ => ?_)
theorem zp39_0_ {p q g1 g2 : Prop} (h : p) (h1 : g1) (h2 : g2) (c : p → g1 → g2 → q := by intro h_ h1_ h2_; repeat (first | (with_reducible first | exact h_ | apply below_alloc | apply pw_below_drewN | apply below_drew1 | refine below_set ?_ h1_ | refine below_set ?_ h2_) | exact h_)) : q := c h h1 h2
set_option maxHeartbeats 8000000 in
set_option maxRecDepth 100000 in
theorem spec_EqualDfa.calls (k : Nat) (A0_0 : Option Addr) (c0_0 : Nat) (l0_0 : List Bool) (A0_1 : Option Addr) (c0_1 : Nat) (l0_1 : List (List Int)) (A1_0 : Option Addr) (c1_0 : Nat) (l1_0 : List Bool) (A1_1 : Option Addr) (c1_1 : Nat) (l1_1 : List (List Int)) (r : Bool) (w : World) (hr0_0 : Kd.C Kd.bool w A0_0 l0_0.length l0_0) (hc0_0 : l0_0.length ≤ c0_0) (hr0_1 : Kd.C (Kd.slice 3 (Kd.int .i64)) w A0_1 l0_1.length l0_1) (hc0_1 : l0_1.length ≤ c0_1) (hr1_0 : Kd.C Kd.bool w A1_0 l1_0.length l1_0) (hc1_0 : l1_0.length ≤ c1_0) (hr1_1 : Kd.C (Kd.slice 3 (Kd.int .i64)) w A1_1 l1_1.length l1_1) (hc1_1 : l1_1.length ≤ c1_1) (h : spec_EqualDfa.f k l0_0 l0_1 l1_0 l1_1 = some r) :
  Calls Try.prog 32 #[.agg #[.slice A0_0 l0_0.length c0_0, .slice A0_1 l0_1.length c0_1], .agg #[.slice A1_0 l1_0.length c1_0, .slice A1_1 l1_1.length c1_1]] w fun e w' => e = .returned (.bool r) ∧ Below w.heap.size w w' := by
 have hu27 := Try.underlying27
 have HR0_0 := am_ hr0_0
 have HC0_0 := am_ hc0_0
 clear hr0_0 hc0_0
 have HR0_1 := am_ hr0_1
 have HC0_1 := am_ hc0_1
 clear hr0_1 hc0_1
 have HR1_0 := am_ hr1_0
 have HC1_0 := am_ hc1_0
 clear hr1_0 hc1_0
 have HR1_1 := am_ hr1_1
 have HC1_1 := am_ hc1_1
 clear hr1_1 hc1_1
 have HB := am_ (Below.refl w.heap.size w)
 have H : (if (l0_0.length : Int) = (l1_0.length : Int) then (spec_EqualDfa.j0 k ((l0_1.length : Int) != (l1_1.length : Int)) l0_0 l0_1 l1_0 l1_1) else (spec_EqualDfa.j0 k true l0_0 l0_1 l1_0 l1_1)) = some r := h
 clear h
 have HC3 := am_ H
 clear H
 go_enter Try.func32, Try.ntmps32
 go_upto_region 1 with (first | ((with_reducible refine gate_dst (N := 2) rfl ?_); (try (refine gate_guard (by rfl) ?_; dsimp only)); refine box_event ?hg (N := 2) ?hd (cs := #[.slice A0_0 l0_0.length c0_0, .slice A0_1 l0_1.length c0_1]) (t := 27) ?hr ?_; (case hd => rfl); (case hg => rfl); (case hr => first | (go_simp; done) | (go_simp; rfl)); intro gb746 hg w4 hbox hb; replace BK746 := am_ (hbox); replace GW746 := am_ ((by rw [hg]; exact (below_size (b0_ HB.out)) : w.heap.size ≤ gb746)); replace GE746 := am_ ((by rw [hg]; exact (below_size (b0_ HB.out)) : w.heap.size ≤ gb746)); replace HB := am_ (below_step (b0_ HB.out) hb); clear hb hbox hg) | ((with_reducible refine gate_dst (N := 3) rfl ?_); (try (refine gate_guard (by rfl) ?_; dsimp only)); refine box_event ?hg (N := 3) ?hd (cs := #[.slice A1_0 l1_0.length c1_0, .slice A1_1 l1_1.length c1_1]) (t := 27) ?hr ?_; (case hd => rfl); (case hg => rfl); (case hr => first | (go_simp; done) | (go_simp; rfl)); intro gb747 hg w5 hbox hb; have n0_ := am_ (blk_below (rb_ BK746.out) hb); have n1_ := am_ (below_step (b1_ HB.out GE746.out) hb); have n2_ := am_ (hbox); have n3_ := am_ ((by rw [hg]; exact (below_size (b1_ HB.out GE746.out)) : w.heap.size ≤ gb747)); have n4_ := am_ ((by rw [hg]; exact (below_size (b1_ HB.out GE746.out)) : w.heap.size ≤ gb747)); have n5_ := am_ ((by rw [hg]; exact Nat.ne_of_lt (blk_lt (rb_ BK746.out)) : gb746 ≠ gb747)); have n6_ := am_ ((by rw [hg]; exact Nat.ne_of_gt (blk_lt (rb_ BK746.out)) : gb747 ≠ gb746)); clear BK746; clear HB; have BK746 := n0_; have HB := n1_; have BK747 := n2_; have GW747 := n3_; have GE747 := n4_; have NB746_747 := n5_; have NB747_746 := n6_; clear n0_ n1_ n2_ n3_ n4_ n5_ n6_; clear hb hbox hg))
 repeat (go_quiet (first | ((with_reducible refine gate_dst (N := 2) rfl ?_); (try (refine gate_guard (by rfl) ?_; dsimp only)); refine box_event ?hg (N := 2) ?hd (cs := #[.slice A0_0 l0_0.length c0_0, .slice A0_1 l0_1.length c0_1]) (t := 27) ?hr ?_; (case hd => rfl); (case hg => rfl); (case hr => first | (go_simp; done) | (go_simp; rfl)); intro gb746 hg w4 hbox hb; replace BK746 := am_ (hbox); replace GW746 := am_ ((by rw [hg]; exact (below_size (b0_ HB.out)) : w.heap.size ≤ gb746)); replace GE746 := am_ ((by rw [hg]; exact (below_size (b0_ HB.out)) : w.heap.size ≤ gb746)); replace HB := am_ (below_step (b0_ HB.out) hb); clear hb hbox hg) | ((with_reducible refine gate_dst (N := 3) rfl ?_); (try (refine gate_guard (by rfl) ?_; dsimp only)); refine box_event ?hg (N := 3) ?hd (cs := #[.slice A1_0 l1_0.length c1_0, .slice A1_1 l1_1.length c1_1]) (t := 27) ?hr ?_; (case hd => rfl); (case hg => rfl); (case hr => first | (go_simp; done) | (go_simp; rfl)); intro gb747 hg w5 hbox hb; have n0_ := am_ (blk_below (rb_ BK746.out) hb); have n1_ := am_ (below_step (b1_ HB.out GE746.out) hb); have n2_ := am_ (hbox); have n3_ := am_ ((by rw [hg]; exact (below_size (b1_ HB.out GE746.out)) : w.heap.size ≤ gb747)); have n4_ := am_ ((by rw [hg]; exact (below_size (b1_ HB.out GE746.out)) : w.heap.size ≤ gb747)); have n5_ := am_ ((by rw [hg]; exact Nat.ne_of_lt (blk_lt (rb_ BK746.out)) : gb746 ≠ gb747)); have n6_ := am_ ((by rw [hg]; exact Nat.ne_of_gt (blk_lt (rb_ BK746.out)) : gb747 ≠ gb746)); clear BK746; clear HB; have BK746 := n0_; have HB := n1_; have BK747 := n2_; have GW747 := n3_; have GE747 := n4_; have NB746_747 := n5_; have NB747_746 := n6_; clear n0_ n1_ n2_ n3_ n4_ n5_ n6_; clear hb hbox hg)); go_upto_region 1 with (first | ((with_reducible refine gate_dst (N := 2) rfl ?_); (try (refine gate_guard (by rfl) ?_; dsimp only)); refine box_event ?hg (N := 2) ?hd (cs := #[.slice A0_0 l0_0.length c0_0, .slice A0_1 l0_1.length c0_1]) (t := 27) ?hr ?_; (case hd => rfl); (case hg => rfl); (case hr => first | (go_simp; done) | (go_simp; rfl)); intro gb746 hg w4 hbox hb; replace BK746 := am_ (hbox); replace GW746 := am_ ((by rw [hg]; exact (below_size (b0_ HB.out)) : w.heap.size ≤ gb746)); replace GE746 := am_ ((by rw [hg]; exact (below_size (b0_ HB.out)) : w.heap.size ≤ gb746)); replace HB := am_ (below_step (b0_ HB.out) hb); clear hb hbox hg) | ((with_reducible refine gate_dst (N := 3) rfl ?_); (try (refine gate_guard (by rfl) ?_; dsimp only)); refine box_event ?hg (N := 3) ?hd (cs := #[.slice A1_0 l1_0.length c1_0, .slice A1_1 l1_1.length c1_1]) (t := 27) ?hr ?_; (case hd => rfl); (case hg => rfl); (case hr => first | (go_simp; done) | (go_simp; rfl)); intro gb747 hg w5 hbox hb; have n0_ := am_ (blk_below (rb_ BK746.out) hb); have n1_ := am_ (below_step (b1_ HB.out GE746.out) hb); have n2_ := am_ (hbox); have n3_ := am_ ((by rw [hg]; exact (below_size (b1_ HB.out GE746.out)) : w.heap.size ≤ gb747)); have n4_ := am_ ((by rw [hg]; exact (below_size (b1_ HB.out GE746.out)) : w.heap.size ≤ gb747)); have n5_ := am_ ((by rw [hg]; exact Nat.ne_of_lt (blk_lt (rb_ BK746.out)) : gb746 ≠ gb747)); have n6_ := am_ ((by rw [hg]; exact Nat.ne_of_gt (blk_lt (rb_ BK746.out)) : gb747 ≠ gb746)); clear BK746; clear HB; have BK746 := n0_; have HB := n1_; have BK747 := n2_; have GW747 := n3_; have GE747 := n4_; have NB746_747 := n5_; have NB747_746 := n6_; clear n0_ n1_ n2_ n3_ n4_ n5_ n6_; clear hb hbox hg)))
 (try simp only [Act.put, List.setIfInBounds_toArray, List.set_cons_zero, List.set_cons_succ])
 go_cut [22] (fun v22 wc => ∃ (kq : Nat) (x22_2 : Bool), v22 = .bool x22_2 ∧ Aside0 (spec_EqualDfa.j0 kq x22_2 l0_0 l0_1 l1_0 l1_1 = some r) ∧ Aside0 (kq ≤ k) ∧ Aside0 (wc.heap[gb746]? = some (.cells #[(.slice A0_0 l0_0.length c0_0), (.slice A0_1 l0_1.length c0_1)] 27 (0, 0))) ∧ Aside0 (wc.heap[gb747]? = some (.cells #[(.slice A1_0 l1_0.length c1_0), (.slice A1_1 l1_1.length c1_1)] 27 (0, 0))) ∧ Aside0 (Below w.heap.size w wc))
 case first =>
  have H := HC3.out
  clear HC3
  by_cases c6 : (l0_0.length : Int) = (l1_0.length : Int)
  ·rw [if_pos c6] at H
   have c6b0 : ((l0_0.length : Int) == (l1_0.length : Int)) = true := beq_iff_eq.mpr c6
   have c6b1 : ((l0_0.length : Int) != (l1_0.length : Int)) = false := bne_eq_false_iff_eq.mpr c6
   have c6b2 : (l0_0.length == l1_0.length) = true := by first | simpa using c6 | (simp at c6 ⊢; omega)
   clear c6
   (first | rw [c6b0] | (simp only [i64_w, i32_w]; rw [c6b0]) | skip)
   have H' := am_ H
   clear H
   have hnb7 := NB746_747.out
   have hnc7 := NB747_746.out
   have hcz8_0 : w5.cell? ⟨gb746, 0, none⟩ = some (.slice A0_0 l0_0.length c0_0) := (blk_cell BK746.out 0).trans rfl
   have hcz8_1 : w5.cell? ⟨gb746, 1, none⟩ = some (.slice A0_1 l0_1.length c0_1) := (blk_cell BK746.out 1).trans rfl
   have hfz8_0 := blk_frozen BK746.out 0
   have hfz8_1 := blk_frozen BK746.out 1
   have hcz9_0 : w5.cell? ⟨gb747, 0, none⟩ = some (.slice A1_0 l1_0.length c1_0) := (blk_cell BK747.out 0).trans rfl
   have hcz9_1 : w5.cell? ⟨gb747, 1, none⟩ = some (.slice A1_1 l1_1.length c1_1) := (blk_cell BK747.out 1).trans rfl
   have hfz9_0 := blk_frozen BK747.out 0
   have hfz9_1 := blk_frozen BK747.out 1
   go_wp2
   repeat (go_quiet (fail); try go_wp2)
   go_meet
   case rel => exact ⟨_, (((l0_1.length : Int) != (l1_1.length : Int))), (by first | rfl | (simp; done) | (simp [*]; done)), H', ⟨by first | omega | exact Nat.le_refl _⟩, ⟨by refine rb_ ?_; exact BK746.out⟩, ⟨by refine rb_ ?_; exact BK747.out⟩, ⟨by exact zp39_0_ HB.out GE746.out GE747.out⟩⟩
  ·rw [if_neg c6] at H
   have c6b0 : ((l0_0.length : Int) == (l1_0.length : Int)) = false := beq_eq_false_iff_ne.mpr c6
   have c6b1 : ((l0_0.length : Int) != (l1_0.length : Int)) = true := bne_iff_ne.mpr c6
   have c6b2 : (l0_0.length == l1_0.length) = false := by first | simpa using c6 | (simp at c6 ⊢; omega)
   (first | rw [c6b0] | (simp only [i64_w, i32_w]; rw [c6b0]) | skip)
   have H' := am_ H
   clear H
   have hnb10 := NB746_747.out
   have hnc10 := NB747_746.out
   have hcz11_0 : w5.cell? ⟨gb746, 0, none⟩ = some (.slice A0_0 l0_0.length c0_0) := (blk_cell BK746.out 0).trans rfl
   have hcz11_1 : w5.cell? ⟨gb746, 1, none⟩ = some (.slice A0_1 l0_1.length c0_1) := (blk_cell BK746.out 1).trans rfl
   have hfz11_0 := blk_frozen BK746.out 0
   have hfz11_1 := blk_frozen BK746.out 1
   have hcz12_0 : w5.cell? ⟨gb747, 0, none⟩ = some (.slice A1_0 l1_0.length c1_0) := (blk_cell BK747.out 0).trans rfl
   have hcz12_1 : w5.cell? ⟨gb747, 1, none⟩ = some (.slice A1_1 l1_1.length c1_1) := (blk_cell BK747.out 1).trans rfl
   have hfz12_0 := blk_frozen BK747.out 0
   have hfz12_1 := blk_frozen BK747.out 1
   go_wp2
   repeat (go_quiet (fail); try go_wp2)
   go_meet
   case rel => exact ⟨_, (true), (by first | rfl | (simp; done) | (simp [*]; done)), H', ⟨by first | omega | exact Nat.le_refl _⟩, ⟨by refine rb_ ?_; exact BK746.out⟩, ⟨by refine rb_ ?_; exact BK747.out⟩, ⟨by exact zp39_0_ HB.out GE746.out GE747.out⟩⟩
 case rest =>
  clear HC3
  try clear c1
  try clear p2
  try clear c3
  try clear c6
  try clear c6b0
  try clear c6b1
  try clear c6b2
  try clear c7
  try clear c10
  try clear hcz11_0
  try clear hcz11_1
  try clear hcz12_0
  try clear hcz12_1
  try clear hcz8_0
  try clear hcz8_1
  try clear hcz9_0
  try clear hcz9_1
  try clear hfz11_0
  try clear hfz11_1
  try clear hfz12_0
  try clear hfz12_1
  try clear hfz8_0
  try clear hfz8_1
  try clear hfz9_0
  try clear hfz9_1
  obtain ⟨kq, x22_2, rfl, HA, HJ2, BK746, BK747, HB⟩ := hcut
  cases kq with
  | zero => exact absurd HA.out (by simp [spec_EqualDfa.j0])
  | succ kj2 =>
   have H := HA.out
   clear HA
   simp only [spec_EqualDfa.j0] at H
   by_cases c13 : x22_2 = true
   ·subst c13
    have H1 : (some false) = some r := by rw [if_pos rfl] at H; exact H
    clear H
    have H := H1
    clear H1
    obtain rfl := Option.some.inj H
    simp only [Option.some.injEq, Prod.mk.injEq] at H
    obtain ⟨rfl⟩ := H
    go_wp2
    repeat (go_quiet (fail); try go_wp2)
    go_ret
    exact ⟨by first | rfl | (simp [errW_none, errW_some] <;> rfl) | (simp [*, errW_none, errW_some] <;> rfl), by exact zp39_0_ HB.out GE746.out GE747.out⟩
   ·replace c13 := Bool.eq_false_iff.mpr c13
    subst c13
    have H1 : (spec_EqualDfa.l0 kj2 0 l0_0 l0_1 l1_0 l1_1) = some r := by rw [if_neg (show ¬ (false = true) by decide)] at H; exact H
    clear H
    have H := H1
    clear H1
    have H' := am_ H
    clear H
    go_wp2
    repeat (go_quiet (fail); try go_wp2)
    go_loopg [5] kj2 (fun kq v5 w' => ∃ (x5_2 : Int), v5 = .int .i64 x5_2 ∧ Aside0 (spec_EqualDfa.l0 kq x5_2 l0_0 l0_1 l1_0 l1_1 = some r) ∧ Aside0 (kq ≤ kj2) ∧ Aside0 (w'.heap[gb746]? = some (.cells #[(.slice A0_0 l0_0.length c0_0), (.slice A0_1 l0_1.length c0_1)] 27 (0, 0))) ∧ Aside0 (w'.heap[gb747]? = some (.cells #[(.slice A1_0 l1_0.length c1_0), (.slice A1_1 l1_1.length c1_1)] 27 (0, 0))) ∧ Aside0 (Below w.heap.size w w'))
    case atStart => exact ⟨(0), (by first | rfl | (simp; done) | (simp [*]; done)), H', ⟨Nat.le_refl _⟩, ⟨by refine rb_ ?_; exact BK746.out⟩, ⟨by refine rb_ ?_; exact BK747.out⟩, ⟨by exact zp39_0_ HB.out GE746.out GE747.out⟩⟩
    case round =>
     clear H'
     try clear c1
     try clear p2
     try clear c3
     try clear c6
     try clear c6b0
     try clear c6b1
     try clear c6b2
     try clear c7
     try clear c10
     try clear c13
     try clear hcz11_0
     try clear hcz11_1
     try clear hcz12_0
     try clear hcz12_1
     try clear hcz8_0
     try clear hcz8_1
     try clear hcz9_0
     try clear hcz9_1
     try clear hfz11_0
     try clear hfz11_1
     try clear hfz12_0
     try clear hfz12_1
     try clear hfz8_0
     try clear hfz8_1
     try clear hfz9_0
     try clear hfz9_1
     try clear p2
     obtain ⟨x5_2, rfl, HA, HK2, BK746, BK747, HB⟩ := hrel
     cases gk with
     | zero => exact absurd HA.out (by simp [spec_EqualDfa.l0])
     | succ k2 =>
      have H := HA.out
      clear HA
      simp only [spec_EqualDfa.l0] at H
      by_cases c14 : x5_2 < (l0_0.length : Int)
      ·rw [if_pos c14] at H
       have c14b0 : decide (x5_2 < (l0_0.length : Int)) = true := decide_eq_true c14
       clear c14
       by_cases c15 : 0 ≤ x5_2
       ·rw [if_pos c15] at H
        have c15b0 : decide (0 ≤ x5_2) = true := decide_eq_true c15
        clear c15
        by_cases c16 : x5_2 < (l1_0.length : Int)
        ·rw [if_pos c16] at H
         have c16b0 : decide (x5_2 < (l1_0.length : Int)) = true := decide_eq_true c16
         clear c16
         by_cases c17 : ((rdOf false l0_0 x5_2) != (rdOf false l1_0 x5_2)) = true
         ·rw [if_pos c17] at H
          have c17b0 : ((rdOf false l0_0 x5_2) != (rdOf false l1_0 x5_2)) = true := c17
          (try (have c17b1 : decide ((rdOf false l0_0 x5_2) = (rdOf false l1_0 x5_2)) = false := by simpa using c17))
          (try (have c17b2 : ((rdOf false l0_0 x5_2) == (rdOf false l1_0 x5_2)) = false := by simpa using c17))
          (try (have c17b3 : ¬ ((rdOf false l0_0 x5_2) = (rdOf false l1_0 x5_2)) := by simpa using c17))
          clear c17
          obtain rfl := Option.some.inj H
          simp only [Option.some.injEq, Prod.mk.injEq] at H
          obtain ⟨rfl⟩ := H
          have hnb18 := NB746_747.out
          have hnc18 := NB747_746.out
          have hcz19_0 : wr.cell? ⟨gb746, 0, none⟩ = some (.slice A0_0 l0_0.length c0_0) := (blk_cell BK746.out 0).trans rfl
          have hcz19_1 : wr.cell? ⟨gb746, 1, none⟩ = some (.slice A0_1 l0_1.length c0_1) := (blk_cell BK746.out 1).trans rfl
          have hfz19_0 := blk_frozen BK746.out 0
          have hfz19_1 := blk_frozen BK746.out 1
          have p748 : 0 ≤ (x5_2 : Int) := of_decide_eq_true ah_
          have q748 : x5_2 < (l0_0.length : Int) := of_decide_eq_true ah_
          obtain ⟨ad748, e748, hx748_0⟩ := Kd.at_bool HR0_0.out x5_2 p748 q748
          cases e748
          replace hx748_0 := (HB.out.cell (World.block_lt_of_cell? w _ hx748_0)).trans hx748_0
          replace p748 := eq_true p748
          replace q748 := eq_true q748
          have hcz20_0 : wr.cell? ⟨gb747, 0, none⟩ = some (.slice A1_0 l1_0.length c1_0) := (blk_cell BK747.out 0).trans rfl
          have hcz20_1 : wr.cell? ⟨gb747, 1, none⟩ = some (.slice A1_1 l1_1.length c1_1) := (blk_cell BK747.out 1).trans rfl
          have hfz20_0 := blk_frozen BK747.out 0
          have hfz20_1 := blk_frozen BK747.out 1
          have p749 : 0 ≤ (x5_2 : Int) := of_decide_eq_true ah_
          have q749 : x5_2 < (l1_0.length : Int) := of_decide_eq_true ah_
          obtain ⟨ad749, e749, hx749_0⟩ := Kd.at_bool HR1_0.out x5_2 p749 q749
          cases e749
          replace hx749_0 := (HB.out.cell (World.block_lt_of_cell? w _ hx749_0)).trans hx749_0
          replace p749 := eq_true p749
          replace q749 := eq_true q749
          go_wp2
          repeat (go_quiet (fail); try go_wp2)
          go_ret
          exact ⟨by first | rfl | (simp [errW_none, errW_some] <;> rfl) | (simp [*, errW_none, errW_some] <;> rfl), by exact zp39_0_ HB.out GE746.out GE747.out⟩
         ·rw [if_neg c17] at H
          have c17b0 : ((rdOf false l0_0 x5_2) != (rdOf false l1_0 x5_2)) = false := by simpa using c17
          (try (have c17b1 : decide ((rdOf false l0_0 x5_2) = (rdOf false l1_0 x5_2)) = true := by simpa using c17))
          (try (have c17b2 : ((rdOf false l0_0 x5_2) == (rdOf false l1_0 x5_2)) = true := by simpa using c17))
          clear c17
          have H' := am_ H
          clear H
          have hnb21 := NB746_747.out
          have hnc21 := NB747_746.out
          have hcz22_0 : wr.cell? ⟨gb746, 0, none⟩ = some (.slice A0_0 l0_0.length c0_0) := (blk_cell BK746.out 0).trans rfl
          have hcz22_1 : wr.cell? ⟨gb746, 1, none⟩ = some (.slice A0_1 l0_1.length c0_1) := (blk_cell BK746.out 1).trans rfl
          have hfz22_0 := blk_frozen BK746.out 0
          have hfz22_1 := blk_frozen BK746.out 1
          have p748 : 0 ≤ (x5_2 : Int) := of_decide_eq_true ah_
          have q748 : x5_2 < (l0_0.length : Int) := of_decide_eq_true ah_
          obtain ⟨ad748, e748, hx748_0⟩ := Kd.at_bool HR0_0.out x5_2 p748 q748
          cases e748
          replace hx748_0 := (HB.out.cell (World.block_lt_of_cell? w _ hx748_0)).trans hx748_0
          replace p748 := eq_true p748
          replace q748 := eq_true q748
          have hcz23_0 : wr.cell? ⟨gb747, 0, none⟩ = some (.slice A1_0 l1_0.length c1_0) := (blk_cell BK747.out 0).trans rfl
          have hcz23_1 : wr.cell? ⟨gb747, 1, none⟩ = some (.slice A1_1 l1_1.length c1_1) := (blk_cell BK747.out 1).trans rfl
          have hfz23_0 := blk_frozen BK747.out 0
          have hfz23_1 := blk_frozen BK747.out 1
          have p749 : 0 ≤ (x5_2 : Int) := of_decide_eq_true ah_
          have q749 : x5_2 < (l1_0.length : Int) := of_decide_eq_true ah_
          obtain ⟨ad749, e749, hx749_0⟩ := Kd.at_bool HR1_0.out x5_2 p749 q749
          cases e749
          replace hx749_0 := (HB.out.cell (World.block_lt_of_cell? w _ hx749_0)).trans hx749_0
          replace p749 := eq_true p749
          replace q749 := eq_true q749
          go_wp2
          repeat (go_quiet (fail); try go_wp2)
          go_roundg k2
          case measure => have := HJ2.out; have := HK2.out; omega
          case rel => exact ⟨(wrap64 (x5_2 + 1)), (by first | rfl | (simp; done) | (simp [*]; done)), H', ⟨by have := HJ2.out; have := HK2.out; omega⟩, ⟨by refine rb_ ?_; exact BK746.out⟩, ⟨by refine rb_ ?_; exact BK747.out⟩, ⟨by exact zp39_0_ HB.out GE746.out GE747.out⟩⟩
        ·rw [if_neg c16] at H
         exact absurd H (by simp)
       ·rw [if_neg c15] at H
        exact absurd H (by simp)
      ·rw [if_neg c14] at H
       have c14b0 : decide (x5_2 < (l0_0.length : Int)) = false := decide_eq_false c14
       clear c14
       have H' := am_ H
       clear H
       have hnb24 := NB746_747.out
       have hnc24 := NB747_746.out
       have hcz25_0 : wr.cell? ⟨gb746, 0, none⟩ = some (.slice A0_0 l0_0.length c0_0) := (blk_cell BK746.out 0).trans rfl
       have hcz25_1 : wr.cell? ⟨gb746, 1, none⟩ = some (.slice A0_1 l0_1.length c0_1) := (blk_cell BK746.out 1).trans rfl
       have hfz25_0 := blk_frozen BK746.out 0
       have hfz25_1 := blk_frozen BK746.out 1
       go_wp2
       repeat (go_quiet (fail); try go_wp2)
       go_loopg [6] k2 (fun kq v6 w' => ∃ (x6_3 : Int), v6 = .int .i64 x6_3 ∧ Aside0 (spec_EqualDfa.l1 kq x6_3 l0_0 l0_1 l1_0 l1_1 = some r) ∧ Aside0 (kq ≤ k2) ∧ Aside0 (w'.heap[gb746]? = some (.cells #[(.slice A0_0 l0_0.length c0_0), (.slice A0_1 l0_1.length c0_1)] 27 (0, 0))) ∧ Aside0 (w'.heap[gb747]? = some (.cells #[(.slice A1_0 l1_0.length c1_0), (.slice A1_1 l1_1.length c1_1)] 27 (0, 0))) ∧ Aside0 (Below w.heap.size w w'))
       case atStart => exact ⟨(0), (by first | rfl | (simp; done) | (simp [*]; done)), H', ⟨Nat.le_refl _⟩, ⟨by refine rb_ ?_; exact BK746.out⟩, ⟨by refine rb_ ?_; exact BK747.out⟩, ⟨by exact zp39_0_ HB.out GE746.out GE747.out⟩⟩
       case round =>
        clear H'
        try clear c1
        try clear c2
        try clear p2
        try clear c3
        try clear c6
        try clear c6b0
        try clear c6b1
        try clear c6b2
        try clear p6
        try clear c7
        try clear p7
        try clear q7
        try clear hx7
        try clear c10
        try clear c13
        try clear c14
        try clear c14b0
        try clear c15
        try clear c15b0
        try clear c16
        try clear c16b0
        try clear c17
        try clear c17b0
        try clear c17b1
        try clear c17b2
        try clear c18
        try clear c21
        try clear c24
        try clear hcz11_0
        try clear hcz11_1
        try clear hcz12_0
        try clear hcz12_1
        try clear hcz19_0
        try clear hcz19_1
        try clear hcz20_0
        try clear hcz20_1
        try clear hcz22_0
        try clear hcz22_1
        try clear hcz23_0
        try clear hcz23_1
        try clear hcz25_0
        try clear hcz25_1
        try clear hcz8_0
        try clear hcz8_1
        try clear hcz9_0
        try clear hcz9_1
        try clear hfz11_0
        try clear hfz11_1
        try clear hfz12_0
        try clear hfz12_1
        try clear hfz19_0
        try clear hfz19_1
        try clear hfz20_0
        try clear hfz20_1
        try clear hfz22_0
        try clear hfz22_1
        try clear hfz23_0
        try clear hfz23_1
        try clear hfz25_0
        try clear hfz25_1
        try clear hfz8_0
        try clear hfz8_1
        try clear hfz9_0
        try clear hfz9_1
        try clear hx748_0
        try clear hx749_0
        try clear p2
        try clear p748
        try clear p749
        try clear q748
        try clear q749
        obtain ⟨x6_3, rfl, HA, HK3, BK746, BK747, HB⟩ := hrel
        cases gk with
        | zero => exact absurd HA.out (by simp [spec_EqualDfa.l1])
        | succ k3 =>
         have H := HA.out
         clear HA
         simp only [spec_EqualDfa.l1] at H
         by_cases c26 : x6_3 < (l0_1.length : Int)
         ·rw [if_pos c26] at H
          have c26b0 : decide (x6_3 < (l0_1.length : Int)) = true := decide_eq_true c26
          clear c26
          by_cases c27 : 0 ≤ x6_3
          ·rw [if_pos c27] at H
           have c27b0 : decide (0 ≤ x6_3) = true := decide_eq_true c27
           clear c27
           by_cases c28 : x6_3 < (l1_1.length : Int)
           ·rw [if_pos c28] at H
            have c28b0 : decide (x6_3 < (l1_1.length : Int)) = true := decide_eq_true c28
            clear c28
            replace H := Option.bind_eq_some_iff.mp H
            obtain ⟨t752, A290, H⟩ := H
            have A29 := am_ A290
            clear A290
            by_cases c30 : t752 = true
            ·subst c30
             have H1 : (spec_EqualDfa.l1 k3 (wrap64 (x6_3 + 1)) l0_0 l0_1 l1_0 l1_1) = some r := by rw [if_pos rfl] at H; exact H
             clear H
             have H := H1
             clear H1
             have H' := am_ H
             clear H
             have hnb31 := NB746_747.out
             have hnc31 := NB747_746.out
             have hcz32_0 : wr.cell? ⟨gb746, 0, none⟩ = some (.slice A0_0 l0_0.length c0_0) := (blk_cell BK746.out 0).trans rfl
             have hcz32_1 : wr.cell? ⟨gb746, 1, none⟩ = some (.slice A0_1 l0_1.length c0_1) := (blk_cell BK746.out 1).trans rfl
             have hfz32_0 := blk_frozen BK746.out 0
             have hfz32_1 := blk_frozen BK746.out 1
             have p750 : 0 ≤ (x6_3 : Int) := of_decide_eq_true ah_
             have q750 : x6_3 < (l0_1.length : Int) := of_decide_eq_true ah_
             obtain ⟨ad750, A750_0, c750_0, e750, hx750_0, hl750_0, hi750_0⟩ := at_L1 HR0_1.out x6_3 p750 q750
             cases e750
             replace hx750_0 := (HB.out.cell (World.block_lt_of_cell? w _ hx750_0)).trans hx750_0
             have HR750_0 := am_ hi750_0
             have HC750_0 := am_ hl750_0
             clear hi750_0 hl750_0
             replace p750 := eq_true p750
             replace q750 := eq_true q750
             have hcz33_0 : wr.cell? ⟨gb747, 0, none⟩ = some (.slice A1_0 l1_0.length c1_0) := (blk_cell BK747.out 0).trans rfl
             have hcz33_1 : wr.cell? ⟨gb747, 1, none⟩ = some (.slice A1_1 l1_1.length c1_1) := (blk_cell BK747.out 1).trans rfl
             have hfz33_0 := blk_frozen BK747.out 0
             have hfz33_1 := blk_frozen BK747.out 1
             have p751 : 0 ≤ (x6_3 : Int) := of_decide_eq_true ah_
             have q751 : x6_3 < (l1_1.length : Int) := of_decide_eq_true ah_
             obtain ⟨ad751, A751_0, c751_0, e751, hx751_0, hl751_0, hi751_0⟩ := at_L1 HR1_1.out x6_3 p751 q751
             cases e751
             replace hx751_0 := (HB.out.cell (World.block_lt_of_cell? w _ hx751_0)).trans hx751_0
             have HR751_0 := am_ hi751_0
             have HC751_0 := am_ hl751_0
             clear hi751_0 hl751_0
             replace p751 := eq_true p751
             replace q751 := eq_true q751
             go_wp2_with (first | (go_at_call 93; (with_reducible refine (spec_l5Ints.calls k3 _ _ (rd_L1 l0_1 x6_3) _ _ (rd_L1 l1_1 x6_3) true _ ?side1 ?side2 ?side3 ?side4 A29.out).mono ?_); (case side1 => exact rc_ (Kd.C_below HR750_0.out HB.out)); (case side2 => exact HC750_0.out); (case side3 => exact rc_ (Kd.C_below HR751_0.out HB.out)); (case side4 => exact HC751_0.out); rintro e w' ⟨rfl, ⟨nd, rfl⟩⟩; (try first | exact ⟨rfl, _, World.drewN_drewN _ _ _⟩ | exact ⟨rfl, _, Eq.trans (World.drewN_drewN _ _ _) (congrArg (World.drewN _) (Nat.add_assoc _ _ _))⟩)))
             repeat (go_quiet (first | (go_at_call 93; (with_reducible refine (spec_l5Ints.calls k3 _ _ (rd_L1 l0_1 x6_3) _ _ (rd_L1 l1_1 x6_3) true _ ?side1 ?side2 ?side3 ?side4 A29.out).mono ?_); (case side1 => exact rc_ (Kd.C_below HR750_0.out HB.out)); (case side2 => exact HC750_0.out); (case side3 => exact rc_ (Kd.C_below HR751_0.out HB.out)); (case side4 => exact HC751_0.out); rintro e w' ⟨rfl, ⟨nd, rfl⟩⟩; (try first | exact ⟨rfl, _, World.drewN_drewN _ _ _⟩ | exact ⟨rfl, _, Eq.trans (World.drewN_drewN _ _ _) (congrArg (World.drewN _) (Nat.add_assoc _ _ _))⟩))); try go_wp2_with (first | (go_at_call 93; (with_reducible refine (spec_l5Ints.calls k3 _ _ (rd_L1 l0_1 x6_3) _ _ (rd_L1 l1_1 x6_3) true _ ?side1 ?side2 ?side3 ?side4 A29.out).mono ?_); (case side1 => exact rc_ (Kd.C_below HR750_0.out HB.out)); (case side2 => exact HC750_0.out); (case side3 => exact rc_ (Kd.C_below HR751_0.out HB.out)); (case side4 => exact HC751_0.out); rintro e w' ⟨rfl, ⟨nd, rfl⟩⟩; (try first | exact ⟨rfl, _, World.drewN_drewN _ _ _⟩ | exact ⟨rfl, _, Eq.trans (World.drewN_drewN _ _ _) (congrArg (World.drewN _) (Nat.add_assoc _ _ _))⟩))))
             go_roundg k3
             case measure => have := HJ2.out; have := HK2.out; have := HK3.out; omega
             case rel => exact ⟨(wrap64 (x6_3 + 1)), (by first | rfl | (simp; done) | (simp [*]; done)), H', ⟨by have := HJ2.out; have := HK2.out; have := HK3.out; omega⟩, ⟨by refine rb_ ?_; exact BK746.out⟩, ⟨by refine rb_ ?_; exact BK747.out⟩, ⟨by exact zp39_0_ HB.out GE746.out GE747.out⟩⟩
            ·replace c30 := Bool.eq_false_iff.mpr c30
             subst c30
             have H1 : (some false) = some r := by rw [if_neg (show ¬ (false = true) by decide)] at H; exact H
             clear H
             have H := H1
             clear H1
             obtain rfl := Option.some.inj H
             simp only [Option.some.injEq, Prod.mk.injEq] at H
             obtain ⟨rfl⟩ := H
             have hnb34 := NB746_747.out
             have hnc34 := NB747_746.out
             have hcz35_0 : wr.cell? ⟨gb746, 0, none⟩ = some (.slice A0_0 l0_0.length c0_0) := (blk_cell BK746.out 0).trans rfl
             have hcz35_1 : wr.cell? ⟨gb746, 1, none⟩ = some (.slice A0_1 l0_1.length c0_1) := (blk_cell BK746.out 1).trans rfl
             have hfz35_0 := blk_frozen BK746.out 0
             have hfz35_1 := blk_frozen BK746.out 1
             have p750 : 0 ≤ (x6_3 : Int) := of_decide_eq_true ah_
             have q750 : x6_3 < (l0_1.length : Int) := of_decide_eq_true ah_
             obtain ⟨ad750, A750_0, c750_0, e750, hx750_0, hl750_0, hi750_0⟩ := at_L1 HR0_1.out x6_3 p750 q750
             cases e750
             replace hx750_0 := (HB.out.cell (World.block_lt_of_cell? w _ hx750_0)).trans hx750_0
             have HR750_0 := am_ hi750_0
             have HC750_0 := am_ hl750_0
             clear hi750_0 hl750_0
             replace p750 := eq_true p750
             replace q750 := eq_true q750
             have hcz36_0 : wr.cell? ⟨gb747, 0, none⟩ = some (.slice A1_0 l1_0.length c1_0) := (blk_cell BK747.out 0).trans rfl
             have hcz36_1 : wr.cell? ⟨gb747, 1, none⟩ = some (.slice A1_1 l1_1.length c1_1) := (blk_cell BK747.out 1).trans rfl
             have hfz36_0 := blk_frozen BK747.out 0
             have hfz36_1 := blk_frozen BK747.out 1
             have p751 : 0 ≤ (x6_3 : Int) := of_decide_eq_true ah_
             have q751 : x6_3 < (l1_1.length : Int) := of_decide_eq_true ah_
             obtain ⟨ad751, A751_0, c751_0, e751, hx751_0, hl751_0, hi751_0⟩ := at_L1 HR1_1.out x6_3 p751 q751
             cases e751
             replace hx751_0 := (HB.out.cell (World.block_lt_of_cell? w _ hx751_0)).trans hx751_0
             have HR751_0 := am_ hi751_0
             have HC751_0 := am_ hl751_0
             clear hi751_0 hl751_0
             replace p751 := eq_true p751
             replace q751 := eq_true q751
             go_wp2_with (first | (go_at_call 93; (with_reducible refine (spec_l5Ints.calls k3 _ _ (rd_L1 l0_1 x6_3) _ _ (rd_L1 l1_1 x6_3) false _ ?side1 ?side2 ?side3 ?side4 A29.out).mono ?_); (case side1 => exact rc_ (Kd.C_below HR750_0.out HB.out)); (case side2 => exact HC750_0.out); (case side3 => exact rc_ (Kd.C_below HR751_0.out HB.out)); (case side4 => exact HC751_0.out); rintro e w' ⟨rfl, ⟨nd, rfl⟩⟩; (try first | exact ⟨rfl, _, World.drewN_drewN _ _ _⟩ | exact ⟨rfl, _, Eq.trans (World.drewN_drewN _ _ _) (congrArg (World.drewN _) (Nat.add_assoc _ _ _))⟩)))
             repeat (go_quiet (first | (go_at_call 93; (with_reducible refine (spec_l5Ints.calls k3 _ _ (rd_L1 l0_1 x6_3) _ _ (rd_L1 l1_1 x6_3) false _ ?side1 ?side2 ?side3 ?side4 A29.out).mono ?_); (case side1 => exact rc_ (Kd.C_below HR750_0.out HB.out)); (case side2 => exact HC750_0.out); (case side3 => exact rc_ (Kd.C_below HR751_0.out HB.out)); (case side4 => exact HC751_0.out); rintro e w' ⟨rfl, ⟨nd, rfl⟩⟩; (try first | exact ⟨rfl, _, World.drewN_drewN _ _ _⟩ | exact ⟨rfl, _, Eq.trans (World.drewN_drewN _ _ _) (congrArg (World.drewN _) (Nat.add_assoc _ _ _))⟩))); try go_wp2_with (first | (go_at_call 93; (with_reducible refine (spec_l5Ints.calls k3 _ _ (rd_L1 l0_1 x6_3) _ _ (rd_L1 l1_1 x6_3) false _ ?side1 ?side2 ?side3 ?side4 A29.out).mono ?_); (case side1 => exact rc_ (Kd.C_below HR750_0.out HB.out)); (case side2 => exact HC750_0.out); (case side3 => exact rc_ (Kd.C_below HR751_0.out HB.out)); (case side4 => exact HC751_0.out); rintro e w' ⟨rfl, ⟨nd, rfl⟩⟩; (try first | exact ⟨rfl, _, World.drewN_drewN _ _ _⟩ | exact ⟨rfl, _, Eq.trans (World.drewN_drewN _ _ _) (congrArg (World.drewN _) (Nat.add_assoc _ _ _))⟩))))
             go_ret
             exact ⟨by first | rfl | (simp [errW_none, errW_some] <;> rfl) | (simp [*, errW_none, errW_some] <;> rfl), by exact zp39_0_ HB.out GE746.out GE747.out⟩
           ·rw [if_neg c28] at H
            exact absurd H (by simp)
          ·rw [if_neg c27] at H
           exact absurd H (by simp)
         ·rw [if_neg c26] at H
          have c26b0 : decide (x6_3 < (l0_1.length : Int)) = false := decide_eq_false c26
          clear c26
          obtain rfl := Option.some.inj H
          simp only [Option.some.injEq, Prod.mk.injEq] at H
          obtain ⟨rfl⟩ := H
          have hnb37 := NB746_747.out
          have hnc37 := NB747_746.out
          have hcz38_0 : wr.cell? ⟨gb746, 0, none⟩ = some (.slice A0_0 l0_0.length c0_0) := (blk_cell BK746.out 0).trans rfl
          have hcz38_1 : wr.cell? ⟨gb746, 1, none⟩ = some (.slice A0_1 l0_1.length c0_1) := (blk_cell BK746.out 1).trans rfl
          have hfz38_0 := blk_frozen BK746.out 0
          have hfz38_1 := blk_frozen BK746.out 1
          go_wp2
          repeat (go_quiet (fail); try go_wp2)
          go_ret
          exact ⟨by first | rfl | (simp [errW_none, errW_some] <;> rfl) | (simp [*, errW_none, errW_some] <;> rfl), by exact zp39_0_ HB.out GE746.out GE747.out⟩
end Go.Proofs.Ytogamkblkoobkaa.P
end
