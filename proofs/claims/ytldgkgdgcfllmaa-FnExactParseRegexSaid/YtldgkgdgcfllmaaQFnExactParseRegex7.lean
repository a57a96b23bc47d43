/- Texts of the proof of FnExactParseRegex, put together. No condition. -/
import Derived.Test.YtldgkgdgcfllmaaQFnExactParseRegex2
import Derived.Test.YtldgkgdgcfllmaaQFnExactParseRegex6
import Derived.Test.YtldgkgdgcfllmaaQFnExactParseRegex4
import Derived.Test.YtldgkgdgcfllmaaQFnExactParseRegex5
import Derived.Shelf.Abstract
import Derived.Lib.Walk
import Derived.Test.YtldgkgdgcfllmaaQFnExactParseRegex3
import Derived.Laws.MakeOwn
section
namespace Go.Proofs.Ytldgkgdgcfllmaa.P
open Go.RowKit Go.Proofs.YtldgkgdgcfllmaaW.PrintWords Go.Proofs.YtldgkgdgcfllmaaW.PrintLast Go.Proofs.YtldgkgdgcfllmaaW.PrintMore
attribute [local go_sem] max2_int min2_int max_two min_two max_three min_three max_four min_four
set_option linter.unusedVariables false
set_option linter.unusedSimpArgs false
mutual
def impl_nodesOf.j0 : Nat → Int → Bool → Int → ByteArray → List (S29) → Option (Int)
  | 0, _, _, _, _, _ => none
  | k + 1, x1, x18, an, ak, al => if x18 = true then (some 17) else (if an = 3 then (if (ak.size : Int) = 1 then ((impl_IsWord.f k ak).bind fun ay => (if ay = true then (impl_nodesOf.j1 k x1 an ak al) else (some 17))) else (some 17)) else (if ak.toList = ([] : List UInt8) then (impl_nodesOf.j1 k x1 an ak al) else (some 17)))
def impl_nodesOf.j1 : Nat → Int → Int → ByteArray → List (S29) → Option (Int)
  | 0, _, _, _, _ => none
  | k + 1, x1, an, ak, al => impl_nodesOf.l0 k x1 1 al (al.length : Int) 0
def impl_nodesOf.l0 : Nat → Int → Int → List (S29) → Int → Int → Option (Int)
  | 0, _, _, _, _, _ => none
  | k + 1, x1, x5, x36, x37, x38 => if x38 < x37 then (if 0 ≤ x38 then (if x38 < (x36.length : Int) then ((impl_nodesOf.f k ((rd_T29 x36 x38).f0) ((rd_T29 x36 x38).f1) ((rd_T29 x36 x38).f2) (wrap64 (x1 - 1))).bind fun ap => (impl_nodesOf.l0 k x1 (wrap64 (x5 + ap)) x36 x37 (wrap64 (x38 + 1)))) else (none)) else (none)) else (some (mn x5 17))
def impl_nodesOf.f : Nat → Int → ByteArray → List (S29) → Int → Option (Int)
  | 0, _, _, _, _ => none
  | k + 1, a0_0, a0_1, l0_2, a1 => if a1 = 0 then (impl_nodesOf.j0 k a1 true a0_0 a0_1 l0_2) else ((impl_argsOf.f k a0_0).bind fun am => (impl_nodesOf.j0 k a1 ((l0_2.length : Int) != am) a0_0 a0_1 l0_2))
end
theorem impl_nodesOf.mono_l : ∀ k, (∀ y0 y1 y2 y3, LeO (impl_nodesOf.f k y0 y1 y2 y3) (impl_nodesOf.f (k + 1) y0 y1 y2 y3)) ∧ (∀ y0 y1 y2 y3 y4, LeO (impl_nodesOf.j0 k y0 y1 y2 y3 y4) (impl_nodesOf.j0 (k + 1) y0 y1 y2 y3 y4)) ∧ (∀ y0 y1 y2 y3, LeO (impl_nodesOf.j1 k y0 y1 y2 y3) (impl_nodesOf.j1 (k + 1) y0 y1 y2 y3)) ∧ (∀ y0 y1 y2 y3 y4, LeO (impl_nodesOf.l0 k y0 y1 y2 y3 y4) (impl_nodesOf.l0 (k + 1) y0 y1 y2 y3 y4))
 | 0 => ⟨fun _ _ _ _ r h => by simp [impl_nodesOf.f] at h, fun _ _ _ _ _ r h => by simp [impl_nodesOf.j0] at h, fun _ _ _ _ r h => by simp [impl_nodesOf.j1] at h, fun _ _ _ _ _ r h => by simp [impl_nodesOf.l0] at h⟩
 | k + 1 => by
  obtain ⟨ih0, ih1, ih2, ih3⟩ := impl_nodesOf.mono_l k
  refine ⟨?_, ?_, ?_, ?_⟩
  ·intro y0 y1 y2 y3
   unfold impl_nodesOf.f
   repeat' first
   | (with_reducible exact ih0 _ _ _ _)
   | (with_reducible exact ih1 _ _ _ _ _)
   | (with_reducible exact ih2 _ _ _ _)
   | (with_reducible exact ih3 _ _ _ _ _)
   | (with_reducible exact impl_IsWord.mono _ _)
   | (with_reducible exact impl_argsOf.mono _ _)
   | (with_reducible exact LeO.refl _)
   | (with_reducible exact LeO.none _)
   | (with_reducible refine LeO.ite ?_ ?_)
   | (with_reducible refine LeO.bind ?_ (fun _ => ?_))
   | exact ih0 _ _ _ _
   | exact ih1 _ _ _ _ _
   | exact ih2 _ _ _ _
   | exact ih3 _ _ _ _ _
   | exact impl_IsWord.mono _ _
   | exact impl_argsOf.mono _ _
   | exact LeO.none _
   | refine LeO.ite ?_ ?_
   | refine LeO.bind ?_ (fun _ => ?_)
  ·intro y0 y1 y2 y3 y4
   unfold impl_nodesOf.j0
   repeat' first
   | (with_reducible exact ih0 _ _ _ _)
   | (with_reducible exact ih1 _ _ _ _ _)
   | (with_reducible exact ih2 _ _ _ _)
   | (with_reducible exact ih3 _ _ _ _ _)
   | (with_reducible exact impl_IsWord.mono _ _)
   | (with_reducible exact impl_argsOf.mono _ _)
   | (with_reducible exact LeO.refl _)
   | (with_reducible exact LeO.none _)
   | (with_reducible refine LeO.ite ?_ ?_)
   | (with_reducible refine LeO.bind ?_ (fun _ => ?_))
   | exact ih0 _ _ _ _
   | exact ih1 _ _ _ _ _
   | exact ih2 _ _ _ _
   | exact ih3 _ _ _ _ _
   | exact impl_IsWord.mono _ _
   | exact impl_argsOf.mono _ _
   | exact LeO.none _
   | refine LeO.ite ?_ ?_
   | refine LeO.bind ?_ (fun _ => ?_)
  ·intro y0 y1 y2 y3
   unfold impl_nodesOf.j1
   repeat' first
   | (with_reducible exact ih0 _ _ _ _)
   | (with_reducible exact ih1 _ _ _ _ _)
   | (with_reducible exact ih2 _ _ _ _)
   | (with_reducible exact ih3 _ _ _ _ _)
   | (with_reducible exact impl_IsWord.mono _ _)
   | (with_reducible exact impl_argsOf.mono _ _)
   | (with_reducible exact LeO.refl _)
   | (with_reducible exact LeO.none _)
   | (with_reducible refine LeO.ite ?_ ?_)
   | (with_reducible refine LeO.bind ?_ (fun _ => ?_))
   | exact ih0 _ _ _ _
   | exact ih1 _ _ _ _ _
   | exact ih2 _ _ _ _
   | exact ih3 _ _ _ _ _
   | exact impl_IsWord.mono _ _
   | exact impl_argsOf.mono _ _
   | exact LeO.none _
   | refine LeO.ite ?_ ?_
   | refine LeO.bind ?_ (fun _ => ?_)
  ·intro y0 y1 y2 y3 y4
   unfold impl_nodesOf.l0
   repeat' first
   | (with_reducible exact ih0 _ _ _ _)
   | (with_reducible exact ih1 _ _ _ _ _)
   | (with_reducible exact ih2 _ _ _ _)
   | (with_reducible exact ih3 _ _ _ _ _)
   | (with_reducible exact impl_IsWord.mono _ _)
   | (with_reducible exact impl_argsOf.mono _ _)
   | (with_reducible exact LeO.refl _)
   | (with_reducible exact LeO.none _)
   | (with_reducible refine LeO.ite ?_ ?_)
   | (with_reducible refine LeO.bind ?_ (fun _ => ?_))
   | exact ih0 _ _ _ _
   | exact ih1 _ _ _ _ _
   | exact ih2 _ _ _ _
   | exact ih3 _ _ _ _ _
   | exact impl_IsWord.mono _ _
   | exact impl_argsOf.mono _ _
   | exact LeO.none _
   | refine LeO.ite ?_ ?_
   | refine LeO.bind ?_ (fun _ => ?_)
theorem impl_nodesOf.mono : ∀ a0 a1 a2 a3 k, LeO (impl_nodesOf.f k a0 a1 a2 a3) (impl_nodesOf.f (k + 1) a0 a1 a2 a3) := by
 intro a0 a1 a2 a3 k
 obtain ⟨ih0, ih1, ih2, ih3⟩ := impl_nodesOf.mono_l k
 exact ih0 a0 a1 a2 a3
theorem zp13_0_ {p q g1 : Prop} (h : p) (h1 : g1) (c : p → g1 → q := by intro h_ h1_; repeat (first | (with_reducible first | exact h_ | apply below_alloc | apply pw_below_drewN | apply below_drew1 | refine below_set ?_ h1_) | exact h_)) : q := c h h1
set_option maxHeartbeats 8000000 in
set_option maxRecDepth 100000 in
theorem impl_nodesOf.calls (k : Nat) : ∀ (a0_0 : Int) (a0_1 : ByteArray) (A0_2 : Option Addr) (c0_2 : Nat) (l0_2 : List (S29)) (a1 : Int) (r : Int) (w : World) (hr0_2 : Kd.C k29 w A0_2 l0_2.length l0_2) (hc0_2 : l0_2.length ≤ c0_2) (h : impl_nodesOf.f k a0_0 a0_1 l0_2 a1 = some r),
  Calls Try.prog 44 #[.agg #[.int .i64 a0_0, .string a0_1, .slice A0_2 l0_2.length c0_2], .int .i64 a1] w fun e w' => e = .returned (.int .i64 r) ∧ Below w.heap.size w w' := by
 induction k using Nat.strongRecOn with
 | _ k ih =>
 intro a0_0 a0_1 A0_2 c0_2 l0_2 a1 r w hr0_2 hc0_2 h
 cases k with
 | zero => exact absurd h (by simp [impl_nodesOf.f])
 | succ k =>
 simp only [impl_nodesOf.f] at h
 have hu29 := Try.underlying29
 have bJ := am_ hr0_2
 have bK := am_ hc0_2
 clear hr0_2 hc0_2
 have HB := am_ (Below.refl w.heap.size w)
 have H : (if a1 = 0 then (impl_nodesOf.j0 k a1 true a0_0 a0_1 l0_2) else ((impl_argsOf.f k a0_0).bind fun am => (impl_nodesOf.j0 k a1 ((l0_2.length : Int) != am) a0_0 a0_1 l0_2))) = some r := h
 clear h
 have HC3 := am_ H
 clear H
 go_enter Try.func44, Try.ntmps44
 go_upto_region 1 with (first | ((with_reducible refine gate_dst (N := 2) rfl ?_); (try (refine gate_guard (by rfl) ?_; dsimp only)); refine box_event ?hg (N := 2) ?hd (cs := #[.int .i64 a0_0, .string a0_1, .slice A0_2 l0_2.length c0_2]) (t := 29) ?hr ?_; (case hd => rfl); (case hg => rfl); (case hr => first | (go_simp; done) | (go_simp; rfl)); intro ag hg w4 hbox hb; replace aa := am_ (hbox); replace bw := am_ ((by rw [hg]; exact (below_size (b0_ HB.out)) : w.heap.size ≤ ag)); replace ae := am_ ((by rw [hg]; exact (below_size (b0_ HB.out)) : w.heap.size ≤ ag)); replace HB := am_ (below_step (b0_ HB.out) hb); clear hb hbox hg))
 repeat (go_quiet (first | ((with_reducible refine gate_dst (N := 2) rfl ?_); (try (refine gate_guard (by rfl) ?_; dsimp only)); refine box_event ?hg (N := 2) ?hd (cs := #[.int .i64 a0_0, .string a0_1, .slice A0_2 l0_2.length c0_2]) (t := 29) ?hr ?_; (case hd => rfl); (case hg => rfl); (case hr => first | (go_simp; done) | (go_simp; rfl)); intro ag hg w4 hbox hb; replace aa := am_ (hbox); replace bw := am_ ((by rw [hg]; exact (below_size (b0_ HB.out)) : w.heap.size ≤ ag)); replace ae := am_ ((by rw [hg]; exact (below_size (b0_ HB.out)) : w.heap.size ≤ ag)); replace HB := am_ (below_step (b0_ HB.out) hb); clear hb hbox hg)); go_upto_region 1 with (first | ((with_reducible refine gate_dst (N := 2) rfl ?_); (try (refine gate_guard (by rfl) ?_; dsimp only)); refine box_event ?hg (N := 2) ?hd (cs := #[.int .i64 a0_0, .string a0_1, .slice A0_2 l0_2.length c0_2]) (t := 29) ?hr ?_; (case hd => rfl); (case hg => rfl); (case hr => first | (go_simp; done) | (go_simp; rfl)); intro ag hg w4 hbox hb; replace aa := am_ (hbox); replace bw := am_ ((by rw [hg]; exact (below_size (b0_ HB.out)) : w.heap.size ≤ ag)); replace ae := am_ ((by rw [hg]; exact (below_size (b0_ HB.out)) : w.heap.size ≤ ag)); replace HB := am_ (below_step (b0_ HB.out) hb); clear hb hbox hg)))
 (try simp only [Act.put, List.setIfInBounds_toArray, List.set_cons_zero, List.set_cons_succ])
 go_cut [18] (fun v18 wc => ∃ (kq : Nat) (ax : Bool), v18 = .bool ax ∧ Aside0 (impl_nodesOf.j0 kq a1 ax a0_0 a0_1 l0_2 = some r) ∧ Aside0 (kq ≤ k) ∧ Aside0 (wc.heap[ag]? = some (.cells #[.int .i64 a0_0, .string a0_1, (.slice A0_2 l0_2.length c0_2)] 29 (0, 0))) ∧ Aside0 (Below w.heap.size w wc))
 case first =>
  have H := HC3.out
  clear HC3
  by_cases c5 : a1 = 0
  ·rw [if_pos c5] at H
   have c5b0 : (a1 == 0) = true := beq_iff_eq.mpr c5
   have c5b1 : (a1 != 0) = false := bne_eq_false_iff_eq.mpr c5
   clear c5
   (first | rw [c5b0] | (simp only [i64_w, i32_w]; rw [c5b0]) | skip)
   have H' := am_ H
   clear H
   go_wp2
   repeat (go_quiet (fail); try go_wp2)
   go_meet
   case rel => exact ⟨_, (true), (by first | rfl | (simp; done) | (simp [*]; done)), H', ⟨by first | omega | exact Nat.le_refl _⟩, ⟨by refine rb_ ?_; exact aa.out⟩, ⟨by exact zp13_0_ HB.out ae.out⟩⟩
  ·rw [if_neg c5] at H
   have c5b0 : (a1 == 0) = false := beq_eq_false_iff_ne.mpr c5
   have c5b1 : (a1 != 0) = true := bne_iff_ne.mpr c5
   (first | rw [c5b0] | (simp only [i64_w, i32_w]; rw [c5b0]) | skip)
   replace H := Option.bind_eq_some_iff.mp H
   obtain ⟨am, A60, H⟩ := H
   replace H : (impl_nodesOf.j0 k a1 ((l0_2.length : Int) != am) a0_0 a0_1 l0_2) = some r := H
   have A6 := am_ A60
   clear A60
   have H' := am_ H
   clear H
   have az := ck_ (v := (.int .i64 a0_0)) aa 0 rfl
   have aA := ck_ (v := (.string a0_1)) aa 1 rfl
   have aB := ck_ (v := (.slice A0_2 l0_2.length c0_2)) aa 2 rfl
   have aC := blk_frozen aa.out 0
   have aD := blk_frozen aa.out 1
   have aE := blk_frozen aa.out 2
   go_wp2_with (first | (go_at_call 70; (with_reducible refine (impl_argsOf.calls k a0_0 am _ A6.out).mono ?_); rintro e w' ⟨rfl, ⟨nd, rfl⟩⟩; (try first | exact ⟨rfl, _, World.drewN_drewN _ _ _⟩ | exact ⟨rfl, _, Eq.trans (World.drewN_drewN _ _ _) (congrArg (World.drewN _) (Nat.add_assoc _ _ _))⟩)))
   repeat (go_quiet (first | (go_at_call 70; (with_reducible refine (impl_argsOf.calls k a0_0 am _ A6.out).mono ?_); rintro e w' ⟨rfl, ⟨nd, rfl⟩⟩; (try first | exact ⟨rfl, _, World.drewN_drewN _ _ _⟩ | exact ⟨rfl, _, Eq.trans (World.drewN_drewN _ _ _) (congrArg (World.drewN _) (Nat.add_assoc _ _ _))⟩))); try go_wp2_with (first | (go_at_call 70; (with_reducible refine (impl_argsOf.calls k a0_0 am _ A6.out).mono ?_); rintro e w' ⟨rfl, ⟨nd, rfl⟩⟩; (try first | exact ⟨rfl, _, World.drewN_drewN _ _ _⟩ | exact ⟨rfl, _, Eq.trans (World.drewN_drewN _ _ _) (congrArg (World.drewN _) (Nat.add_assoc _ _ _))⟩))))
   go_meet
   case rel => exact ⟨_, (((l0_2.length : Int) != am)), (by first | rfl | (simp; done) | (simp [*]; done)), H', ⟨by first | omega | exact Nat.le_refl _⟩, ⟨by refine rb_ ?_; exact aa.out⟩, ⟨by exact zp13_0_ HB.out ae.out⟩⟩
 case rest =>
  clear HC3
  try clear p2
  try clear c4
  try clear c5
  try clear c5b0
  try clear c5b1
  try clear az
  try clear aA
  try clear aB
  try clear aC
  try clear aD
  try clear aE
  obtain ⟨kq, ax, rfl, HA, HJ2, aa, HB⟩ := hcut
  cases kq with
  | zero => exact absurd HA.out (by simp [impl_nodesOf.j0])
  | succ kj2 =>
   have H := HA.out
   clear HA
   simp only [impl_nodesOf.j0] at H
   by_cases c8 : ax = true
   ·subst c8
    have H1 : (some 17) = some r := by rw [if_pos rfl] at H; exact H
    clear H
    have H := H1
    clear H1
    obtain rfl := Option.some.inj H
    simp only [Option.some.injEq, Prod.mk.injEq] at H
    obtain ⟨rfl⟩ := H
    go_wp2
    repeat (go_quiet (fail); try go_wp2)
    go_ret
    exact ⟨by first | rfl | (simp [errW_none, errW_some] <;> rfl) | (simp [*, errW_none, errW_some] <;> rfl), by exact zp13_0_ HB.out ae.out⟩
   ·replace c8 := Bool.eq_false_iff.mpr c8
    subst c8
    have H1 : (if a0_0 = 3 then (if (a0_1.size : Int) = 1 then ((impl_IsWord.f kj2 a0_1).bind fun ay => (if ay = true then (impl_nodesOf.j1 kj2 a1 a0_0 a0_1 l0_2) else (some 17))) else (some 17)) else (if a0_1.toList = ([] : List UInt8) then (impl_nodesOf.j1 kj2 a1 a0_0 a0_1 l0_2) else (some 17))) = some r := by rw [if_neg (show ¬ (false = true) by decide)] at H; exact H
    clear H
    have H := H1
    clear H1
    have HC9 := am_ H
    clear H
    have aF := ck_ (v := (.int .i64 a0_0)) aa 0 rfl
    have aG := ck_ (v := (.string a0_1)) aa 1 rfl
    have aH := ck_ (v := (.slice A0_2 l0_2.length c0_2)) aa 2 rfl
    have aI := blk_frozen aa.out 0
    have aJ := blk_frozen aa.out 1
    have aK := blk_frozen aa.out 2
    go_upto_if 21 with (fail)
    repeat (go_quiet (fail); go_upto_if 21 with (fail))
    go_cut [] (fun wc => ∃ (kq : Nat), Aside0 (impl_nodesOf.j1 kq a1 a0_0 a0_1 l0_2 = some r) ∧ Aside0 (kq ≤ kj2) ∧ Aside0 (wc.heap[ag]? = some (.cells #[.int .i64 a0_0, .string a0_1, (.slice A0_2 l0_2.length c0_2)] 29 (0, 0))) ∧ Aside0 (Below w.heap.size w wc))
    case first =>
     have H := HC9.out
     clear HC9
     by_cases c11 : a0_0 = 3
     ·rw [if_pos c11] at H
      have c11b0 : (a0_0 == 3) = true := beq_iff_eq.mpr c11
      have c11b1 : (a0_0 != 3) = false := bne_eq_false_iff_eq.mpr c11
      clear c11
      (first | rw [c11b0] | (simp only [i64_w, i32_w]; rw [c11b0]) | skip)
      by_cases c12 : (a0_1.size : Int) = 1
      ·rw [if_pos c12] at H
       have c12b0 : ((a0_1.size : Int) == 1) = true := beq_iff_eq.mpr c12
       have c12b1 : ((a0_1.size : Int) != 1) = false := bne_eq_false_iff_eq.mpr c12
       clear c12
       replace H := Option.bind_eq_some_iff.mp H
       obtain ⟨ay, bH, H⟩ := H
       have A13 := am_ bH
       clear bH
       by_cases c14 : ay = true
       ·subst c14
        have H1 : (impl_nodesOf.j1 kj2 a1 a0_0 a0_1 l0_2) = some r := by rw [if_pos rfl] at H; exact H
        clear H
        have H := H1
        clear H1
        have H' := am_ H
        clear H
        have aL := ck_ (v := (.int .i64 a0_0)) aa 0 rfl
        have aM := ck_ (v := (.string a0_1)) aa 1 rfl
        have aN := ck_ (v := (.slice A0_2 l0_2.length c0_2)) aa 2 rfl
        have aO := blk_frozen aa.out 0
        have aP := blk_frozen aa.out 1
        have aQ := blk_frozen aa.out 2
        go_wp2_with (first | (go_at_call 53; (with_reducible refine (impl_IsWord.calls kj2 a0_1 true _ A13.out).mono ?_); rintro e w' ⟨rfl, ⟨nd, rfl⟩⟩; (try first | exact ⟨rfl, _, World.drewN_drewN _ _ _⟩ | exact ⟨rfl, _, Eq.trans (World.drewN_drewN _ _ _) (congrArg (World.drewN _) (Nat.add_assoc _ _ _))⟩)))
        repeat (go_quiet (first | (go_at_call 53; (with_reducible refine (impl_IsWord.calls kj2 a0_1 true _ A13.out).mono ?_); rintro e w' ⟨rfl, ⟨nd, rfl⟩⟩; (try first | exact ⟨rfl, _, World.drewN_drewN _ _ _⟩ | exact ⟨rfl, _, Eq.trans (World.drewN_drewN _ _ _) (congrArg (World.drewN _) (Nat.add_assoc _ _ _))⟩))); try go_wp2_with (first | (go_at_call 53; (with_reducible refine (impl_IsWord.calls kj2 a0_1 true _ A13.out).mono ?_); rintro e w' ⟨rfl, ⟨nd, rfl⟩⟩; (try first | exact ⟨rfl, _, World.drewN_drewN _ _ _⟩ | exact ⟨rfl, _, Eq.trans (World.drewN_drewN _ _ _) (congrArg (World.drewN _) (Nat.add_assoc _ _ _))⟩))))
        go_meet
        case rel => exact ⟨_, H', ⟨by have := HJ2.out; first | omega | exact Nat.le_refl _⟩, ⟨by refine rb_ ?_; exact aa.out⟩, ⟨by exact zp13_0_ HB.out ae.out⟩⟩
       ·replace c14 := Bool.eq_false_iff.mpr c14
        subst c14
        have H1 : (some 17) = some r := by rw [if_neg (show ¬ (false = true) by decide)] at H; exact H
        clear H
        have H := H1
        clear H1
        obtain rfl := Option.some.inj H
        simp only [Option.some.injEq, Prod.mk.injEq] at H
        obtain ⟨rfl⟩ := H
        have aR := ck_ (v := (.int .i64 a0_0)) aa 0 rfl
        have aS := ck_ (v := (.string a0_1)) aa 1 rfl
        have aT := ck_ (v := (.slice A0_2 l0_2.length c0_2)) aa 2 rfl
        have aU := blk_frozen aa.out 0
        have aV := blk_frozen aa.out 1
        have aW := blk_frozen aa.out 2
        go_wp2_with (first | (go_at_call 53; (with_reducible refine (impl_IsWord.calls kj2 a0_1 false _ A13.out).mono ?_); rintro e w' ⟨rfl, ⟨nd, rfl⟩⟩; (try first | exact ⟨rfl, _, World.drewN_drewN _ _ _⟩ | exact ⟨rfl, _, Eq.trans (World.drewN_drewN _ _ _) (congrArg (World.drewN _) (Nat.add_assoc _ _ _))⟩)))
        repeat (go_quiet (first | (go_at_call 53; (with_reducible refine (impl_IsWord.calls kj2 a0_1 false _ A13.out).mono ?_); rintro e w' ⟨rfl, ⟨nd, rfl⟩⟩; (try first | exact ⟨rfl, _, World.drewN_drewN _ _ _⟩ | exact ⟨rfl, _, Eq.trans (World.drewN_drewN _ _ _) (congrArg (World.drewN _) (Nat.add_assoc _ _ _))⟩))); try go_wp2_with (first | (go_at_call 53; (with_reducible refine (impl_IsWord.calls kj2 a0_1 false _ A13.out).mono ?_); rintro e w' ⟨rfl, ⟨nd, rfl⟩⟩; (try first | exact ⟨rfl, _, World.drewN_drewN _ _ _⟩ | exact ⟨rfl, _, Eq.trans (World.drewN_drewN _ _ _) (congrArg (World.drewN _) (Nat.add_assoc _ _ _))⟩))))
        go_ret
        exact ⟨by first | rfl | (simp [errW_none, errW_some] <;> rfl) | (simp [*, errW_none, errW_some] <;> rfl), by exact zp13_0_ HB.out ae.out⟩
      ·rw [if_neg c12] at H
       have c12b0 : ((a0_1.size : Int) == 1) = false := beq_eq_false_iff_ne.mpr c12
       have c12b1 : ((a0_1.size : Int) != 1) = true := bne_iff_ne.mpr c12
       obtain rfl := Option.some.inj H
       simp only [Option.some.injEq, Prod.mk.injEq] at H
       obtain ⟨rfl⟩ := H
       have aX := ck_ (v := (.int .i64 a0_0)) aa 0 rfl
       have aY := ck_ (v := (.string a0_1)) aa 1 rfl
       have aZ := ck_ (v := (.slice A0_2 l0_2.length c0_2)) aa 2 rfl
       have ba := blk_frozen aa.out 0
       have bb := blk_frozen aa.out 1
       have bc := blk_frozen aa.out 2
       go_wp2
       repeat (go_quiet (fail); try go_wp2)
       go_ret
       exact ⟨by first | rfl | (simp [errW_none, errW_some] <;> rfl) | (simp [*, errW_none, errW_some] <;> rfl), by exact zp13_0_ HB.out ae.out⟩
     ·rw [if_neg c11] at H
      have c11b0 : (a0_0 == 3) = false := beq_eq_false_iff_ne.mpr c11
      have c11b1 : (a0_0 != 3) = true := bne_iff_ne.mpr c11
      (first | rw [c11b0] | (simp only [i64_w, i32_w]; rw [c11b0]) | skip)
      by_cases c18 : a0_1.toList = ([] : List UInt8)
      ·rw [if_pos c18] at H
       have c18b0 : (a0_1.toList == ([] : List UInt8)) = true := beq_iff_eq.mpr c18
       have c18b1 : (a0_1.toList != ([] : List UInt8)) = false := bne_eq_false_iff_eq.mpr c18
       clear c18
       have H' := am_ H
       clear H
       have bd := ck_ (v := (.int .i64 a0_0)) aa 0 rfl
       have be := ck_ (v := (.string a0_1)) aa 1 rfl
       have bf := ck_ (v := (.slice A0_2 l0_2.length c0_2)) aa 2 rfl
       have bg := blk_frozen aa.out 0
       have bh := blk_frozen aa.out 1
       have bi := blk_frozen aa.out 2
       go_wp2
       repeat (go_quiet (fail); try go_wp2)
       go_meet
       case rel => exact ⟨_, H', ⟨by have := HJ2.out; first | omega | exact Nat.le_refl _⟩, ⟨by refine rb_ ?_; exact aa.out⟩, ⟨by exact zp13_0_ HB.out ae.out⟩⟩
      ·rw [if_neg c18] at H
       have c18b0 : (a0_1.toList == ([] : List UInt8)) = false := beq_eq_false_iff_ne.mpr c18
       have c18b1 : (a0_1.toList != ([] : List UInt8)) = true := bne_iff_ne.mpr c18
       obtain rfl := Option.some.inj H
       simp only [Option.some.injEq, Prod.mk.injEq] at H
       obtain ⟨rfl⟩ := H
       have bj := ck_ (v := (.int .i64 a0_0)) aa 0 rfl
       have bk := ck_ (v := (.string a0_1)) aa 1 rfl
       have bl := ck_ (v := (.slice A0_2 l0_2.length c0_2)) aa 2 rfl
       have bm := blk_frozen aa.out 0
       have bn := blk_frozen aa.out 1
       have bo := blk_frozen aa.out 2
       go_wp2
       repeat (go_quiet (fail); try go_wp2)
       go_ret
       exact ⟨by first | rfl | (simp [errW_none, errW_some] <;> rfl) | (simp [*, errW_none, errW_some] <;> rfl), by exact zp13_0_ HB.out ae.out⟩
    case rest =>
     clear HC9
     try clear c1
     try clear p2
     try clear c4
     try clear c5
     try clear c5b0
     try clear c5b1
     try clear c8
     try clear c11
     try clear c11b0
     try clear c11b1
     try clear c12
     try clear c12b0
     try clear c12b1
     try clear c14
     try clear c18
     try clear c18b0
     try clear c18b1
     try clear aF
     try clear aG
     try clear aH
     try clear aL
     try clear aM
     try clear aN
     try clear aR
     try clear aS
     try clear aT
     try clear aX
     try clear aY
     try clear aZ
     try clear bd
     try clear be
     try clear bf
     try clear bj
     try clear bk
     try clear bl
     try clear az
     try clear aA
     try clear aB
     try clear aI
     try clear aJ
     try clear aK
     try clear aO
     try clear aP
     try clear aQ
     try clear aU
     try clear aV
     try clear aW
     try clear ba
     try clear bb
     try clear bc
     try clear bg
     try clear bh
     try clear bi
     try clear bm
     try clear bn
     try clear bo
     try clear aC
     try clear aD
     try clear aE
     try clear p2
     obtain ⟨kq, HA, HJ8, aa, HB⟩ := hcut
     cases kq with
     | zero => exact absurd HA.out (by simp [impl_nodesOf.j1])
     | succ kj8 =>
      have H := HA.out
      clear HA
      simp only [impl_nodesOf.j1] at H
      have H' := am_ H
      clear H
      have bB := ck_ (v := (.int .i64 a0_0)) aa 0 rfl
      have bC := ck_ (v := (.string a0_1)) aa 1 rfl
      have bD := ck_ (v := (.slice A0_2 l0_2.length c0_2)) aa 2 rfl
      have bE := blk_frozen aa.out 0
      have bF := blk_frozen aa.out 1
      have bG := blk_frozen aa.out 2
      go_wp2
      repeat (go_quiet (fail); try go_wp2)
      go_loopg [5, 38] kj8 (fun kq v5 v38 w' => ∃ (ao : Int) (ab : Int), v5 = .int .i64 ao ∧ v38 = .int .i64 ab ∧ Aside0 (impl_nodesOf.l0 kq a1 ao l0_2 (l0_2.length : Int) ab = some r) ∧ Aside0 (kq ≤ kj8) ∧ Aside0 (w'.heap[ag]? = some (.cells #[.int .i64 a0_0, .string a0_1, (.slice A0_2 l0_2.length c0_2)] 29 (0, 0))) ∧ Aside0 (Below w.heap.size w w'))
      case atStart => exact ⟨(1), (0), (by first | rfl | (simp; done) | (simp [*]; done)), (by first | rfl | (simp; done) | (simp [*]; done)), H', ⟨Nat.le_refl _⟩, ⟨by refine rb_ ?_; exact aa.out⟩, ⟨by exact zp13_0_ HB.out ae.out⟩⟩
      case round =>
       clear H'
       try clear c1
       try clear p2
       try clear c4
       try clear c5
       try clear c5b0
       try clear c5b1
       try clear c8
       try clear c11
       try clear c11b0
       try clear c11b1
       try clear c12
       try clear c12b0
       try clear c12b1
       try clear c14
       try clear c18
       try clear c18b0
       try clear c18b1
       try clear aF
       try clear aG
       try clear aH
       try clear aL
       try clear aM
       try clear aN
       try clear aR
       try clear aS
       try clear aT
       try clear aX
       try clear aY
       try clear aZ
       try clear bd
       try clear be
       try clear bf
       try clear bj
       try clear bk
       try clear bl
       try clear bB
       try clear bC
       try clear bD
       try clear az
       try clear aA
       try clear aB
       try clear aI
       try clear aJ
       try clear aK
       try clear aO
       try clear aP
       try clear aQ
       try clear aU
       try clear aV
       try clear aW
       try clear ba
       try clear bb
       try clear bc
       try clear bg
       try clear bh
       try clear bi
       try clear bm
       try clear bn
       try clear bo
       try clear bE
       try clear bF
       try clear bG
       try clear aC
       try clear aD
       try clear aE
       try clear p2
       obtain ⟨ao, ab, rfl, rfl, HA, HK3, aa, HB⟩ := hrel
       cases gk with
       | zero => exact absurd HA.out (by simp [impl_nodesOf.l0])
       | succ k3 =>
        have H := HA.out
        clear HA
        simp only [impl_nodesOf.l0] at H
        by_cases c22 : ab < (l0_2.length : Int)
        ·rw [if_pos c22] at H
         have c22b0 : decide (ab < (l0_2.length : Int)) = true := decide_eq_true c22
         clear c22
         by_cases c23 : 0 ≤ ab
         ·rw [if_pos c23] at H
          have c23b0 : decide (0 ≤ ab) = true := decide_eq_true c23
          clear c23
          by_cases c24 : ab < (l0_2.length : Int)
          ·rw [if_pos c24] at H
           have c24b0 : decide (ab < (l0_2.length : Int)) = true := decide_eq_true c24
           clear c24
           replace H := Option.bind_eq_some_iff.mp H
           obtain ⟨ap, bI, H⟩ := H
           have A25 := am_ bI
           clear bI
           have H' := am_ H
           clear H
           have p222 : 0 ≤ (ab : Int) := of_decide_eq_true ah_
           have q222 : ab < (l0_2.length : Int) := of_decide_eq_true ah_
           obtain ⟨bv, A222_2, c222_2, e222, aq, ar, au, hl222_2, hi222_2⟩ := at_T29 bJ.out ab p222 q222
           cases e222
           replace aq := (HB.out.cell (World.block_lt_of_cell? w _ aq)).trans aq
           replace ar := (HB.out.cell (World.block_lt_of_cell? w _ ar)).trans ar
           replace au := (HB.out.cell (World.block_lt_of_cell? w _ au)).trans au
           have av := am_ hi222_2
           have aw := am_ hl222_2
           clear hi222_2 hl222_2
           replace p222 := eq_true p222
           replace q222 := eq_true q222
           go_wp2_with (first | ((with_reducible refine gate_dst (N := 7) rfl ?_); (try (refine gate_guard (by rfl) ?_; dsimp only)); refine box_event ?hg (N := 7) ?hd (cs := #[.int .i64 0, .string (⟨#[]⟩ : ByteArray), .slice none 0 0]) (t := 29) ?hr ?_; (case hd => rfl); (case hg => rfl); (case hr => first | (go_simp; done) | (go_simp; rfl)); intro ah hg w26 hbox hb; have n0_ := am_ (blk_below (rb_ aa.out) hb); have n1_ := am_ (below_step (b1_ HB.out ae.out) hb); have n2_ := am_ (hbox); have n3_ := am_ ((by rw [hg]; exact (below_size (b1_ HB.out ae.out)) : w.heap.size ≤ ah)); have n4_ := am_ ((by rw [hg]; exact (below_size (b1_ HB.out ae.out)) : w.heap.size ≤ ah)); have n5_ := am_ ((by rw [hg]; exact Nat.ne_of_lt (blk_lt (rb_ aa.out)) : ag ≠ ah)); have n6_ := am_ ((by rw [hg]; exact Nat.ne_of_gt (blk_lt (rb_ aa.out)) : ah ≠ ag)); clear aa; clear HB; have aa := n0_; have HB := n1_; have ad := n2_; have bx := n3_; have aj := n4_; have af := n5_; have ai := n6_; clear n0_ n1_ n2_ n3_ n4_ n5_ n6_; clear hb hbox hg; have bz := ai.out; have bA := af.out; have bp := ck_ (v := (.int .i64 0)) ad 0 rfl; have bq := ck_ (v := (.string (⟨#[]⟩ : ByteArray))) ad 1 rfl; have br := ck_ (v := (.slice none 0 0)) ad 2 rfl; have bs := blk_frozen ad.out 0; have bt := blk_frozen ad.out 1; have bu := blk_frozen ad.out 2) | (go_at_call 44; (with_reducible refine (ih k3 (by have := HJ2.out; have := HJ8.out; have := HK3.out; omega) ((rd_T29 l0_2 ab).f0) ((rd_T29 l0_2 ab).f1) _ _ ((rd_T29 l0_2 ab).f2) (wrap64 (a1 - 1)) ap _ ?side1 ?side2 A25.out).mono ?_); (case side1 => exact Kd.C_below av.out (b2_ HB.out ae.out aj.out)); (case side2 => exact aw.out); rintro e w29 ⟨rfl, hb⟩; have n0_ := am_ (blk_below (g := ag) (o := .cells #[.int .i64 a0_0, .string a0_1, .slice (some bv) l0_2.length c0_2] 29 (0, 0)) (by refine rb_ ?_; refine blk_far ?_ af.out _; refine rb_ ?_; refine blk_far ?_ af.out _; refine rb_ ?_; refine blk_far ?_ af.out _; refine rb_ ?_; exact aa.out) hb); have n1_ := am_ (blk_below (g := ah) (o := .cells #[.int .i64 ((rd_T29 l0_2 ab).f0), .string ((rd_T29 l0_2 ab).f1), .slice A222_2 ((rd_T29 l0_2 ab).f2).length c222_2] 29 (0, 0)) (by refine rb_ ?_; refine blk_put (cs := #[.int .i64 ((rd_T29 l0_2 ab).f0), .string ((rd_T29 l0_2 ab).f1), .slice none 0 0]) ?_ 2 _ rfl; refine rb_ ?_; refine blk_put (cs := #[.int .i64 ((rd_T29 l0_2 ab).f0), .string (⟨#[]⟩ : ByteArray), .slice none 0 0]) ?_ 1 _ rfl; refine rb_ ?_; refine blk_put (cs := #[.int .i64 0, .string (⟨#[]⟩ : ByteArray), .slice none 0 0]) ?_ 0 _ rfl; refine rb_ ?_; exact ad.out) hb); have n2_ := am_ (below_step (b2_ HB.out ae.out aj.out) hb); clear aa; clear ad; clear HB; have aa := n0_; have ad := n1_; have HB := n2_; clear n0_ n1_ n2_; (try clear hb); (try clear hb2); (try clear hk); (try clear hi)))
           repeat (go_quiet (first | ((with_reducible refine gate_dst (N := 7) rfl ?_); (try (refine gate_guard (by rfl) ?_; dsimp only)); refine box_event ?hg (N := 7) ?hd (cs := #[.int .i64 0, .string (⟨#[]⟩ : ByteArray), .slice none 0 0]) (t := 29) ?hr ?_; (case hd => rfl); (case hg => rfl); (case hr => first | (go_simp; done) | (go_simp; rfl)); intro ah hg w26 hbox hb; have n0_ := am_ (blk_below (rb_ aa.out) hb); have n1_ := am_ (below_step (b1_ HB.out ae.out) hb); have n2_ := am_ (hbox); have n3_ := am_ ((by rw [hg]; exact (below_size (b1_ HB.out ae.out)) : w.heap.size ≤ ah)); have n4_ := am_ ((by rw [hg]; exact (below_size (b1_ HB.out ae.out)) : w.heap.size ≤ ah)); have n5_ := am_ ((by rw [hg]; exact Nat.ne_of_lt (blk_lt (rb_ aa.out)) : ag ≠ ah)); have n6_ := am_ ((by rw [hg]; exact Nat.ne_of_gt (blk_lt (rb_ aa.out)) : ah ≠ ag)); clear aa; clear HB; have aa := n0_; have HB := n1_; have ad := n2_; have bx := n3_; have aj := n4_; have af := n5_; have ai := n6_; clear n0_ n1_ n2_ n3_ n4_ n5_ n6_; clear hb hbox hg; have bz := ai.out; have bA := af.out; have bp := ck_ (v := (.int .i64 0)) ad 0 rfl; have bq := ck_ (v := (.string (⟨#[]⟩ : ByteArray))) ad 1 rfl; have br := ck_ (v := (.slice none 0 0)) ad 2 rfl; have bs := blk_frozen ad.out 0; have bt := blk_frozen ad.out 1; have bu := blk_frozen ad.out 2) | (go_at_call 44; (with_reducible refine (ih k3 (by have := HJ2.out; have := HJ8.out; have := HK3.out; omega) ((rd_T29 l0_2 ab).f0) ((rd_T29 l0_2 ab).f1) _ _ ((rd_T29 l0_2 ab).f2) (wrap64 (a1 - 1)) ap _ ?side1 ?side2 A25.out).mono ?_); (case side1 => exact Kd.C_below av.out (b2_ HB.out ae.out aj.out)); (case side2 => exact aw.out); rintro e w29 ⟨rfl, hb⟩; have n0_ := am_ (blk_below (g := ag) (o := .cells #[.int .i64 a0_0, .string a0_1, .slice (some bv) l0_2.length c0_2] 29 (0, 0)) (by refine rb_ ?_; refine blk_far ?_ af.out _; refine rb_ ?_; refine blk_far ?_ af.out _; refine rb_ ?_; refine blk_far ?_ af.out _; refine rb_ ?_; exact aa.out) hb); have n1_ := am_ (blk_below (g := ah) (o := .cells #[.int .i64 ((rd_T29 l0_2 ab).f0), .string ((rd_T29 l0_2 ab).f1), .slice A222_2 ((rd_T29 l0_2 ab).f2).length c222_2] 29 (0, 0)) (by refine rb_ ?_; refine blk_put (cs := #[.int .i64 ((rd_T29 l0_2 ab).f0), .string ((rd_T29 l0_2 ab).f1), .slice none 0 0]) ?_ 2 _ rfl; refine rb_ ?_; refine blk_put (cs := #[.int .i64 ((rd_T29 l0_2 ab).f0), .string (⟨#[]⟩ : ByteArray), .slice none 0 0]) ?_ 1 _ rfl; refine rb_ ?_; refine blk_put (cs := #[.int .i64 0, .string (⟨#[]⟩ : ByteArray), .slice none 0 0]) ?_ 0 _ rfl; refine rb_ ?_; exact ad.out) hb); have n2_ := am_ (below_step (b2_ HB.out ae.out aj.out) hb); clear aa; clear ad; clear HB; have aa := n0_; have ad := n1_; have HB := n2_; clear n0_ n1_ n2_; (try clear hb); (try clear hb2); (try clear hk); (try clear hi))); try go_wp2_with (first | ((with_reducible refine gate_dst (N := 7) rfl ?_); (try (refine gate_guard (by rfl) ?_; dsimp only)); refine box_event ?hg (N := 7) ?hd (cs := #[.int .i64 0, .string (⟨#[]⟩ : ByteArray), .slice none 0 0]) (t := 29) ?hr ?_; (case hd => rfl); (case hg => rfl); (case hr => first | (go_simp; done) | (go_simp; rfl)); intro ah hg w26 hbox hb; have n0_ := am_ (blk_below (rb_ aa.out) hb); have n1_ := am_ (below_step (b1_ HB.out ae.out) hb); have n2_ := am_ (hbox); have n3_ := am_ ((by rw [hg]; exact (below_size (b1_ HB.out ae.out)) : w.heap.size ≤ ah)); have n4_ := am_ ((by rw [hg]; exact (below_size (b1_ HB.out ae.out)) : w.heap.size ≤ ah)); have n5_ := am_ ((by rw [hg]; exact Nat.ne_of_lt (blk_lt (rb_ aa.out)) : ag ≠ ah)); have n6_ := am_ ((by rw [hg]; exact Nat.ne_of_gt (blk_lt (rb_ aa.out)) : ah ≠ ag)); clear aa; clear HB; have aa := n0_; have HB := n1_; have ad := n2_; have bx := n3_; have aj := n4_; have af := n5_; have ai := n6_; clear n0_ n1_ n2_ n3_ n4_ n5_ n6_; clear hb hbox hg; have bz := ai.out; have bA := af.out; have bp := ck_ (v := (.int .i64 0)) ad 0 rfl; have bq := ck_ (v := (.string (⟨#[]⟩ : ByteArray))) ad 1 rfl; have br := ck_ (v := (.slice none 0 0)) ad 2 rfl; have bs := blk_frozen ad.out 0; have bt := blk_frozen ad.out 1; have bu := blk_frozen ad.out 2) | (go_at_call 44; (with_reducible refine (ih k3 (by have := HJ2.out; have := HJ8.out; have := HK3.out; omega) ((rd_T29 l0_2 ab).f0) ((rd_T29 l0_2 ab).f1) _ _ ((rd_T29 l0_2 ab).f2) (wrap64 (a1 - 1)) ap _ ?side1 ?side2 A25.out).mono ?_); (case side1 => exact Kd.C_below av.out (b2_ HB.out ae.out aj.out)); (case side2 => exact aw.out); rintro e w29 ⟨rfl, hb⟩; have n0_ := am_ (blk_below (g := ag) (o := .cells #[.int .i64 a0_0, .string a0_1, .slice (some bv) l0_2.length c0_2] 29 (0, 0)) (by refine rb_ ?_; refine blk_far ?_ af.out _; refine rb_ ?_; refine blk_far ?_ af.out _; refine rb_ ?_; refine blk_far ?_ af.out _; refine rb_ ?_; exact aa.out) hb); have n1_ := am_ (blk_below (g := ah) (o := .cells #[.int .i64 ((rd_T29 l0_2 ab).f0), .string ((rd_T29 l0_2 ab).f1), .slice A222_2 ((rd_T29 l0_2 ab).f2).length c222_2] 29 (0, 0)) (by refine rb_ ?_; refine blk_put (cs := #[.int .i64 ((rd_T29 l0_2 ab).f0), .string ((rd_T29 l0_2 ab).f1), .slice none 0 0]) ?_ 2 _ rfl; refine rb_ ?_; refine blk_put (cs := #[.int .i64 ((rd_T29 l0_2 ab).f0), .string (⟨#[]⟩ : ByteArray), .slice none 0 0]) ?_ 1 _ rfl; refine rb_ ?_; refine blk_put (cs := #[.int .i64 0, .string (⟨#[]⟩ : ByteArray), .slice none 0 0]) ?_ 0 _ rfl; refine rb_ ?_; exact ad.out) hb); have n2_ := am_ (below_step (b2_ HB.out ae.out aj.out) hb); clear aa; clear ad; clear HB; have aa := n0_; have ad := n1_; have HB := n2_; clear n0_ n1_ n2_; (try clear hb); (try clear hb2); (try clear hk); (try clear hi))))
           go_roundg k3
           case measure => have := HJ2.out; have := HJ8.out; have := HK3.out; omega
           case rel => exact ⟨(wrap64 (ao + ap)), (wrap64 (ab + 1)), (by first | rfl | (simp; done) | (simp [*]; done)), (by first | rfl | (simp; done) | (simp [*]; done)), H', ⟨by have := HJ2.out; have := HJ8.out; have := HK3.out; omega⟩, ⟨by refine rb_ ?_; exact aa.out⟩, ⟨by repeat (first | (with_reducible first | exact HB.out | apply below_alloc | apply pw_below_drewN | apply below_drew1 | refine below_set ?_ ae.out | refine below_set ?_ aj.out) | exact HB.out)⟩⟩
          ·rw [if_neg c24] at H
           exact absurd H (by simp)
         ·rw [if_neg c23] at H
          exact absurd H (by simp)
        ·rw [if_neg c22] at H
         have c22b0 : decide (ab < (l0_2.length : Int)) = false := decide_eq_false c22
         clear c22
         obtain ⟨ji30, hji30⟩ : ∃ j_ : Int, (mn ao 17) = j_ := ⟨_, rfl⟩
         replace H : (some ji30) = some r := by first | (rw [hji30] at H; exact H) | (simp only [hji30] at H ⊢; exact H)
         have hji30_ : (if 17 < ao then 17 else ao) = ji30 := hji30
         obtain rfl := Option.some.inj H
         simp only [Option.some.injEq, Prod.mk.injEq] at H
         obtain ⟨rfl⟩ := H
         go_wp2
         repeat (go_quiet (fail); try go_wp2)
         go_ret
         exact ⟨by first | rfl | (simp [errW_none, errW_some] <;> rfl) | (simp only [← hji30]; first | rfl | (simp [errW_none, errW_some] <;> rfl)) | (simp [*, errW_none, errW_some] <;> rfl), by exact zp13_0_ HB.out ae.out⟩
end Go.Proofs.Ytldgkgdgcfllmaa.P
end
section
namespace Go.Proofs.Ytldgkgdgcfllmaa.P
open Go.RowKit Go.Proofs.YtldgkgdgcfllmaaW.PrintWords Go.Proofs.YtldgkgdgcfllmaaW.PrintLast Go.Proofs.YtldgkgdgcfllmaaW.PrintMore
attribute [local go_sem] max2_int min2_int max_two min_two max_three min_three max_four min_four
set_option linter.unusedVariables false
set_option linter.unusedSimpArgs false
def impl_IsValidRegex.f (k : Nat) (a0_0 : Int) (a0_1 : ByteArray) (l0_2 : List (S29)) : Option (Bool) := (impl_nodesOf.f k a0_0 a0_1 l0_2 6).bind fun ab => (some (decide (ab ≤ 16)))
theorem impl_IsValidRegex.mono : ∀ a0 a1 a2 k, LeO (impl_IsValidRegex.f k a0 a1 a2) (impl_IsValidRegex.f (k + 1) a0 a1 a2) := by
  intro a0 a1 a2 k
  unfold impl_IsValidRegex.f
  repeat' first
      | (with_reducible exact impl_nodesOf.mono _ _ _ _ _)
      | (with_reducible exact LeO.refl _)
      | (with_reducible exact LeO.none _)
      | (with_reducible refine LeO.ite ?_ ?_)
      | (with_reducible refine LeO.bind ?_ (fun _ => ?_))
      | exact impl_nodesOf.mono _ _ _ _ _
      | exact LeO.none _
      | refine LeO.ite ?_ ?_
      | refine LeO.bind ?_ (fun _ => ?_)
set_option maxHeartbeats 8000000 in
set_option maxRecDepth 100000 in
theorem impl_IsValidRegex.calls (k : Nat) (a0_0 : Int) (a0_1 : ByteArray) (A0_2 : Option Addr) (c0_2 : Nat) (l0_2 : List (S29)) (r : Bool) (w : World) (hr0_2 : Kd.C k29 w A0_2 l0_2.length l0_2) (hc0_2 : l0_2.length ≤ c0_2) (h : impl_IsValidRegex.f k a0_0 a0_1 l0_2 = some r) :
    Calls Try.prog 18 #[.agg #[.int .i64 a0_0, .string a0_1, .slice A0_2 l0_2.length c0_2]] w fun e w' => e = .returned (.bool r) ∧ Below w.heap.size w w' := by
  have hu29 := Try.underlying29
  have af := am_ hr0_2
  have ag := am_ hc0_2
  clear hr0_2 hc0_2
  have HB := am_ (Below.refl w.heap.size w)
  have H : ((impl_nodesOf.f k a0_0 a0_1 l0_2 6).bind fun ab => (some (decide (ab ≤ 16)))) = some r := h
  clear h
  replace H := Option.bind_eq_some_iff.mp H
  obtain ⟨ab, A20, H⟩ := H
  replace H : (some (decide (ab ≤ 16))) = some r := H
  have A2 := am_ A20
  clear A20
  obtain rfl := Option.some.inj H
  simp only [Option.some.injEq, Prod.mk.injEq] at H
  obtain ⟨rfl⟩ := H
  go_enter Try.func18, Try.ntmps18
  go_wp2_with (first | ((with_reducible refine gate_dst (N := 1) rfl ?_); refine box_event ?hg (N := 1) ?hd (cs := #[.int .i64 a0_0, .string a0_1, .slice A0_2 l0_2.length c0_2]) (t := 29) ?hr ?_; (case hd => rfl); (case hg => rfl); (case hr => first | (go_simp; done) | (go_simp; rfl)); intro ad hg w3 hbox hb; replace aa := am_ (hbox); replace an := am_ ((by rw [hg]; exact (below_size (b0_ HB.out)) : w.heap.size ≤ ad)); replace ae := am_ ((by rw [hg]; exact (below_size (b0_ HB.out)) : w.heap.size ≤ ad)); replace HB := am_ (below_step (b0_ HB.out) hb); clear hb hbox hg; have ah := ck_ (v := (.int .i64 a0_0)) aa 0 rfl; have ai := ck_ (v := (.string a0_1)) aa 1 rfl; have aj := ck_ (v := (.slice A0_2 l0_2.length c0_2)) aa 2 rfl; have ak := blk_frozen aa.out 0; have al := blk_frozen aa.out 1; have am := blk_frozen aa.out 2) | ((with_reducible refine gate_callee (f := 44) rfl ?_); refine gL_ (some 4) Try.func44 #[.agg #[.int .i64 a0_0, .string a0_1, .slice A0_2 l0_2.length c0_2], .int .i64 6] ?_; (with_reducible refine (impl_nodesOf.calls k a0_0 a0_1 _ _ l0_2 6 ab _ ?side1 ?side2 A2.out).mono ?_); (case side1 => exact rc_ (Kd.C_below af.out HB.out)); (case side2 => exact ag.out); rintro e w5 ⟨rfl, hb⟩; refine ⟨_, rfl, ?_⟩; have n0_ := am_ (blk_below (rb_ aa.out) hb); have n1_ := am_ (below_step (b1_ HB.out ae.out) hb); clear aa; clear HB; have aa := n0_; have HB := n1_; clear n0_ n1_; (try clear hb); (try clear hb2); (try clear hk); (try clear hi)))
  go_ret
  exact ⟨by first | rfl | (simp [errW_none, errW_some] <;> rfl) | (simp [*, errW_none, errW_some] <;> rfl), by repeat (first | (with_reducible first | exact HB.out | apply below_alloc | apply pw_below_drewN | apply below_drew1 | refine below_set ?_ ae.out) | exact HB.out)⟩
end Go.Proofs.Ytldgkgdgcfllmaa.P
end
section
namespace Go.Proofs.Ytldgkgdgcfllmaa.Pl
open Go.RowKit Go.Proofs.Ytldgkgdgcfllmaa Go.Proofs.Ytldgkgdgcfllmaa.P Go.Proofs.Ytldgkgdgcfllmaa.Rk Go.Proofs.YtldgkgdgcfllmaaW.PrintWords Go.Proofs.YtldgkgdgcfllmaaW.PrintLast Go.Proofs.YtldgkgdgcfllmaaW.PrintMore
set_option linter.unusedVariables false
set_option linter.unusedSimpArgs false
theorem empty_list : (⟨#[]⟩ : ByteArray).toList = ([] : List UInt8) := by rw [ByteArray.toList_eq]
def argsN (a : Int) : Int := if 1 ≤ a ∧ a ≤ 4 then 0 else if a = 8 ∨ a = 9 then 1 else if 5 ≤ a ∧ a ≤ 7 then 2 else -1
def shp (x : TI) : Bool := decide ((x.f2.length : Int) = argsN x.f0) && (if x.f0 = 3 then decide (x.f1.size = 1) && word x.f1 else decide (x.f1 = (⟨#[]⟩ : ByteArray)))
mutual
def nd : TI → Nat
  | ⟨_, _, l⟩ => 1 + nds l
def nds : List TI → Nat
  | [] => 0
  | x :: l => nd x + nds l
end
mutual
def dp : TI → Nat
  | ⟨_, _, l⟩ => dps l + 1
def dps : List TI → Nat
  | [] => 0
  | x :: l => max (dp x) (dps l)
end
mutual
def al : TI → Bool
  | ⟨a, s, l⟩ => als l && shp ⟨a, s, l⟩
def als : List TI → Bool
  | [] => true
  | x :: l => al x && als l
end
theorem nd_eq (x : TI) : nd x = 1 + nds x.f2 := by obtain ⟨a, s, l⟩ := x; rw [nd]
theorem dp_eq (x : TI) : dp x = dps x.f2 + 1 := by obtain ⟨a, s, l⟩ := x; rw [dp]
theorem al_eq (x : TI) : al x = (als x.f2 && shp x) := by obtain ⟨a, s, l⟩ := x; rw [al]
theorem nds_drop (l : List TI) (i : Nat) (h : i < l.length) : nds (l.drop i) = nd l[i] + nds (l.drop (i + 1)) := by rw [List.drop_eq_getElem_cons h, nds]
theorem dps_drop (l : List TI) (i : Nat) (h : i < l.length) : dps (l.drop i) = max (dp l[i]) (dps (l.drop (i + 1))) := by rw [List.drop_eq_getElem_cons h, dps]
theorem als_drop (l : List TI) (i : Nat) (h : i < l.length) : als (l.drop i) = (al l[i] && als (l.drop (i + 1))) := by rw [List.drop_eq_getElem_cons h, als]
theorem nd_pos (x : TI) : 1 ≤ nd x := by rw [nd_eq]; omega
theorem dp_pos (x : TI) : 1 ≤ dp x := by rw [dp_eq]; omega
theorem nd_mem {l : List TI} {x : TI} (h : x ∈ l) : nd x ≤ nds l := by
  induction l with
  | nil => cases h
  | cons a l ih =>
    rw [nds]
    rcases List.mem_cons.mp h with q | q
    · subst q; omega
    · have := ih q; omega
mutual
theorem dp_nd : ∀ x : TI, dp x ≤ nd x
  | ⟨a, s, l⟩ => by rw [dp, nd]; have := dps_nds l; omega
theorem dps_nds : ∀ l : List TI, dps l ≤ nds l
  | [] => Nat.le_refl _
  | x :: l => by rw [dps, nds]; have := dp_nd x; have := dps_nds l; omega
end
theorem argsN_spec (a : Int) : Ev (fun k => spec_l3Args.f k a) (if 5 ≤ a ∧ a ≤ 7 then 2 else if a = 8 ∨ a = 9 then 1 else 0) := by
  simp only [spec_l3Args.f]
  by_cases h5 : a = 5
  · subst h5; refine next ?_; exact ev_some rfl
  · by_cases h6 : a = 6
    · subst h6; refine next ?_; exact ev_some rfl
    · by_cases h7 : a = 7
      · subst h7; refine next ?_; exact ev_some rfl
      · simp only [if_neg h5, if_neg h6, show (a == 7) = false from by simpa using h7]
        refine next ?_
        simp only [spec_l3Args.j0, Bool.false_eq_true, if_false]
        by_cases h8 : a = 8
        · subst h8; exact ev_some rfl
        · by_cases h9 : a = 9
          · subst h9; exact ev_some rfl
          · simp only [if_neg h8, if_neg h9]
            exact ev_some (by rw [if_neg (by omega), if_neg (by omega)])
theorem argsN_impl (a : Int) : Ev (fun k => impl_argsOf.f k a) (argsN a) := by
  simp only [impl_argsOf.f]
  have rest : (¬ (a == 4) = true ∧ ¬ (1 ≤ a ∧ a ≤ 4)) → Ev (fun k => impl_argsOf.j0 k a (a == 4)) (argsN a) := fun ⟨hb, hn⟩ => by
    refine next ?_
    simp only [impl_argsOf.j0, if_neg hb]
    by_cases h8 : a = 8
    · subst h8; refine next ?_; exact ev_some rfl
    · simp only [if_neg h8]
      refine next ?_
      by_cases h9 : a = 9
      · subst h9; exact ev_some rfl
      · simp only [impl_argsOf.j1, show (a == 9) = false from by simpa using h9, Bool.false_eq_true, if_false]
        unfold argsN
        by_cases h5 : a = 5
        · subst h5; exact ev_some rfl
        · by_cases h6 : a = 6
          · subst h6; exact ev_some rfl
          · by_cases h7 : a = 7
            · subst h7; exact ev_some rfl
            · simp only [if_neg h5, if_neg h6, if_neg h7]
              exact ev_some (by rw [if_neg hn, if_neg (by omega), if_neg (by omega)])
  by_cases h1 : a = 1
  · subst h1; refine next ?_; exact ev_some rfl
  · by_cases h2 : a = 2
    · subst h2; refine next ?_; exact ev_some rfl
    · by_cases h3 : a = 3
      · subst h3; refine next ?_; exact ev_some rfl
      · simp only [if_neg h1, if_neg h2, if_neg h3]
        by_cases h4 : a = 4
        · subst h4; refine next ?_; exact ev_some rfl
        · exact rest ⟨by simpa using h4, by omega⟩
def aft (cur : Int) (n : Nat) : Int := if 0 ≤ cur ∧ (n : Int) ≤ cur then cur - n else -1
theorem left_loop (a : Int) (s : ByteArray) {l : List TI} (hl : l.length ≤ 1048576) (ih : ∀ y ∈ l, ∀ left : Int, 0 ≤ left → left ≤ 16 → Ev (fun k => spec_l3Left.f k y.f0 y.f1 y.f2 left) (aft left (nd y))) :
    ∀ (d i : Nat) (cur : Int), i + d = l.length → -1 ≤ cur → cur ≤ 16 → Ev (fun k => spec_l3Left.l0 k cur (i : Int) a s l) (aft cur (nds (l.drop i))) := by
  intro d
  induction d with
  | zero =>
    intro i cur h h1 h2
    refine next ?_
    simp only [spec_l3Left.l0, if_neg (show ¬ (i : Int) < (l.length : Int) by omega)]
    rw [List.drop_eq_nil_of_le (by omega)]
    exact ev_some (by unfold aft; rw [nds]; split <;> omega)
  | succ d ihd =>
    intro i cur h h1 h2
    have hi : i < l.length := by omega
    refine next ?_
    rw [nds_drop l i hi]
    have hp := nd_pos l[i]
    by_cases hc : cur ≥ 0
    · simp only [spec_l3Left.l0, if_pos (show (i : Int) < (l.length : Int) by omega), if_pos hc, if_pos (show (0 : Int) ≤ (i : Int) by omega), rdTI l i hi]
      refine Ev.bind (ih _ (List.getElem_mem hi) cur hc h2) ?_
      simp only [up1 (show i < 9223372036854775807 by omega)]
      refine ev_eq (ihd (i + 1) _ (by omega) (by unfold aft; split <;> omega) (by unfold aft; split <;> omega)) ?_
      unfold aft
      repeat' split
      all_goals omega
    · simp only [spec_l3Left.l0, if_pos (show (i : Int) < (l.length : Int) by omega), if_neg hc]
      exact ev_some (by unfold aft; rw [if_neg (by omega)]; omega)
theorem left_tree : ∀ x : TI, Thin x → ∀ left : Int, 0 ≤ left → left ≤ 16 → Ev (fun k => spec_l3Left.f k x.f0 x.f1 x.f2 left) (aft left (nd x)) := by
  refine TI.ind fun x ih hx left h0 h1 => ?_
  obtain ⟨_, hl, _, hc⟩ := hx
  refine next ?_
  simp only [spec_l3Left.f, w64 (show -9223372036854775808 ≤ left - 1 by omega) (by omega)]
  refine ev_eq (left_loop x.f0 x.f1 hl (fun y hy => ih y hy (hc y hy)) x.f2.length 0 (left - 1) (by omega) (by omega) (by omega)) ?_
  rw [List.drop_zero, nd_eq]
  unfold aft
  repeat' split
  all_goals omega
theorem depth_loop (a : Int) (s : ByteArray) {l : List TI} (hl : l.length ≤ 1048576) (hn : nds l ≤ 2000000) (ih : ∀ y ∈ l, Ev (fun k => spec_l3Depth.f k y.f0 y.f1 y.f2) (dp y : Int)) :
    ∀ (d i cur : Nat), i + d = l.length → cur ≤ 2000000 → Ev (fun k => spec_l3Depth.l0 k (cur : Int) (i : Int) a s l) ((max cur (dps (l.drop i)) + 1 : Nat) : Int) := by
  intro d
  induction d with
  | zero =>
    intro i cur h h1
    refine next ?_
    simp only [spec_l3Depth.l0, if_neg (show ¬ (i : Int) < (l.length : Int) by omega)]
    rw [List.drop_eq_nil_of_le (by omega), dps, w64 (by omega) (by omega)]
    exact ev_some (by omega)
  | succ d ihd =>
    intro i cur h h1
    have hi : i < l.length := by omega
    refine next ?_
    rw [dps_drop l i hi]
    simp only [spec_l3Depth.l0, if_pos (show (i : Int) < (l.length : Int) by omega), if_pos (show (0 : Int) ≤ (i : Int) by omega), rdTI l i hi]
    refine Ev.bind (ih _ (List.getElem_mem hi)) ?_
    have hd : dp l[i] ≤ 2000000 := by have := dp_nd l[i]; have := nd_mem (List.getElem_mem hi); omega
    have hm : spec_l1Max.f (cur : Int) (dp l[i] : Int) = some ((max cur (dp l[i]) : Nat) : Int) := by
      unfold spec_l1Max.f
      split
      · congr 1; omega
      · congr 1; omega
    simp only [hm, Option.bind_some, up1 (show i < 9223372036854775807 by omega)]
    refine ev_eq (ihd (i + 1) _ (by omega) (by omega)) ?_
    rw [Nat.max_assoc]
theorem depth_tree : ∀ x : TI, Thin x → nd x ≤ 2000000 → Ev (fun k => spec_l3Depth.f k x.f0 x.f1 x.f2) (dp x : Int) := by
  refine TI.ind fun x ih hx hn => ?_
  obtain ⟨_, hl, _, hc⟩ := hx
  rw [nd_eq] at hn
  refine next ?_
  simp only [spec_l3Depth.f]
  refine ev_eq (depth_loop x.f0 x.f1 hl (by omega) (fun y hy => ih y hy (hc y hy) (by have := nd_mem hy; omega)) x.f2.length 0 0 (by omega) (by omega)) ?_
  rw [List.drop_zero, dp_eq]
  omega
theorem all_loop (x : TI) (hs : x.f1.size ≤ 1048576) (hl : x.f2.length ≤ 1048576) (ih : ∀ y ∈ x.f2, Ev (fun k => spec_l3All.f k y.f0 y.f1 y.f2) (al y)) :
    ∀ (d i : Nat), i + d = x.f2.length → Ev (fun k => spec_l3All.l0 k (i : Int) x.f0 x.f1 x.f2) (als (x.f2.drop i) && shp x) := by
  intro d
  induction d with
  | zero =>
    intro i h
    refine next ?_
    simp only [spec_l3All.l0, if_neg (show ¬ (i : Int) < (x.f2.length : Int) by omega)]
    rw [List.drop_eq_nil_of_le (by omega), als, Bool.true_and]
    unfold shp
    by_cases h3 : x.f0 = 3
    · simp only [if_pos h3]
      have ea : argsN x.f0 = 0 := by rw [h3]; rfl
      rw [ea]
      by_cases h1 : (x.f1.size : Int) = 1
      · simp only [if_pos h1]
        refine Ev.bind (spec_word x.f1 (by omega)) ?_
        have h1' : x.f1.size = 1 := by omega
        cases word x.f1 with
        | false => simp only [Bool.false_eq_true, if_false]; exact ev_some (by simp)
        | true =>
          simp only [if_true]
          refine ev_some ?_
          rw [decide_eq_true h1', Bool.and_true, Bool.and_true]
          rfl
      · simp only [if_neg h1]
        exact ev_some (by rw [decide_eq_false (show ¬ x.f1.size = 1 by omega)]; simp)
    · simp only [if_neg h3, spec_l1In.f]
      by_cases h1 : 1 ≤ x.f0 ∧ x.f0 ≤ 9
      · have ein : Ev (fun k => spec_l1In.f x.f0 1 9) true := by
          simp only [spec_l1In.f]
          first
            | (rw [if_pos h1.1]; exact ev_some (by simp; omega))
            | (simp only [if_pos (show x.f0 ≥ 1 from h1.1)]; exact ev_some (by simp; omega))
        refine Ev.bind ein ?_
        simp only [if_true]
        by_cases he : x.f1.toList = ([] : List UInt8)
        · simp only [if_pos he]
          refine Ev.bind (argsN_spec x.f0) ?_
          refine ev_some ?_
          have he' : x.f1 = (⟨#[]⟩ : ByteArray) := toList_iff.mp (he.trans empty_list.symm)
          rw [decide_eq_true he', Bool.and_true]
          have : argsN x.f0 = (if 5 ≤ x.f0 ∧ x.f0 ≤ 7 then 2 else if x.f0 = 8 ∨ x.f0 = 9 then 1 else 0) := by
            unfold argsN
            repeat' split
            all_goals omega
          rw [this]
          rfl
        · simp only [if_neg he]
          refine ev_some ?_
          rw [decide_eq_false (show ¬ x.f1 = (⟨#[]⟩ : ByteArray) from fun e => he (by rw [e]; exact empty_list)), Bool.and_false]
      · have ein : Ev (fun k => spec_l1In.f x.f0 1 9) false := by
          simp only [spec_l1In.f]
          by_cases hb : x.f0 ≥ 1
          · simp only [if_pos hb]; exact ev_some (by simp; omega)
          · simp only [if_neg hb]; exact ev_some rfl
        refine Ev.bind ein ?_
        simp only [Bool.false_eq_true, if_false]
        refine ev_some ?_
        have : argsN x.f0 = -1 := by
          unfold argsN
          rw [if_neg (by omega), if_neg (by omega), if_neg (by omega)]
        rw [this, decide_eq_false (by omega)]
        rfl
  | succ d ihd =>
    intro i h
    have hi : i < x.f2.length := by omega
    refine next ?_
    rw [als_drop x.f2 i hi]
    simp only [spec_l3All.l0, if_pos (show (i : Int) < (x.f2.length : Int) by omega), if_pos (show (0 : Int) ≤ (i : Int) by omega), rdTI x.f2 i hi]
    refine Ev.bind (ih _ (List.getElem_mem hi)) ?_
    cases al x.f2[i] with
    | false => simp only [Bool.false_eq_true, if_false]; exact ev_some (by simp)
    | true =>
      simp only [if_true, up1 (show i < 9223372036854775807 by omega), Bool.true_and]
      exact ihd (i + 1) (by omega)
theorem all_tree : ∀ x : TI, Thin x → Ev (fun k => spec_l3All.f k x.f0 x.f1 x.f2) (al x) := by
  refine TI.ind fun x ih hx => ?_
  obtain ⟨_, hl, hs, hc⟩ := hx
  refine next ?_
  simp only [spec_l3All.f]
  refine ev_eq (all_loop x hs hl (fun y hy => ih y hy (hc y hy)) x.f2.length 0 (by omega)) ?_
  rw [List.drop_zero, al_eq]
def validR (x : TI) : Bool := decide (nd x ≤ 16) && decide (dp x ≤ 6) && al x
theorem spec_validR (x : TI) (hx : Thin x) (hn : nd x ≤ 2000000) : Ev (fun k => spec_IsValidRegex.f k x.f0 x.f1 x.f2) (validR x) := by
  simp only [spec_IsValidRegex.f]
  refine Ev.bind (left_tree x hx 16 (by omega) (by omega)) ?_
  unfold validR aft
  by_cases h1 : nd x ≤ 16
  · simp only [if_pos (show (0 : Int) ≤ 16 ∧ (nd x : Int) ≤ 16 by omega), if_pos (show (16 : Int) - (nd x : Int) ≥ 0 by omega)]
    refine Ev.bind (depth_tree x hx hn) ?_
    rw [decide_eq_true h1, Bool.true_and]
    by_cases h2 : dp x ≤ 6
    · simp only [if_pos (show (dp x : Int) ≤ 6 by omega)]
      refine Ev.bind (all_tree x hx) ?_
      exact ev_some (by rw [decide_eq_true h2, Bool.true_and])
    · simp only [if_neg (show ¬ (dp x : Int) ≤ 6 by omega)]
      exact ev_some (by rw [decide_eq_false h2, Bool.false_and])
  · simp only [if_neg (show ¬ ((0 : Int) ≤ 16 ∧ (nd x : Int) ≤ 16) by omega), if_neg (show ¬ (-1 : Int) ≥ 0 by omega)]
    exact ev_some (by rw [decide_eq_false h1]; rfl)
def nv (d : Int) (x : TI) : Int := if al x = true ∧ (dp x : Int) ≤ d then (if nd x ≤ 17 then (nd x : Int) else 17) else 17
def nvs (d : Int) : List TI → Int
  | [] => 0
  | x :: l => nv d x + nvs d l
theorem nv_bound (d : Int) (x : TI) : 1 ≤ nv d x ∧ nv d x ≤ 17 := by
  have := nd_pos x
  unfold nv
  repeat' split
  all_goals omega
theorem nvs_bound (d : Int) (l : List TI) : (l.length : Int) ≤ nvs d l ∧ nvs d l ≤ 17 * l.length := by
  induction l with
  | nil => exact ⟨Int.le_refl _, Int.le_refl _⟩
  | cons x l ih =>
    have := nv_bound d x
    rw [nvs, List.length_cons]
    omega
theorem nvs_good (d : Int) (hd : 0 ≤ d) (l : List TI) : (als l = true ∧ (dps l : Int) ≤ d → ∀ s : Int, 1 ≤ s → mn (s + nvs d l) 17 = mn (s + nds l) 17) ∧ (¬ (als l = true ∧ (dps l : Int) ≤ d) → 17 ≤ nvs d l) := by
  induction l with
  | nil => exact ⟨fun _ s _ => rfl, fun h => absurd ⟨rfl, by rw [dps]; exact hd⟩ h⟩
  | cons x l ih =>
    have hb := nv_bound d x
    have hbs := nvs_bound d l
    have hp := nd_pos x
    have hx : nv d x = if al x = true ∧ (dp x : Int) ≤ d then (if nd x ≤ 17 then (nd x : Int) else 17) else 17 := rfl
    rw [nvs, nds, als, dps]
    constructor
    · rintro ⟨h1, h2⟩ s hs
      rw [Bool.and_eq_true] at h1
      have i1 := ih.1 ⟨h1.2, by omega⟩ (s + nv d x) (by omega)
      rw [if_pos ⟨h1.1, by omega⟩] at hx
      rw [← Int.add_assoc, i1]
      unfold mn
      rw [hx]
      repeat' split
      all_goals omega
    · intro h
      by_cases hg : al x = true ∧ (dp x : Int) ≤ d
      · have := ih.2 (fun hc => h ⟨by rw [hg.1, hc.1]; rfl, by omega⟩)
        omega
      · rw [if_neg hg] at hx
        omega
theorem nvs_sum (d : Int) (hd : 0 ≤ d) (l : List TI) : mn (1 + nvs d l) 17 = if als l = true ∧ (dps l : Int) ≤ d then (if 1 + nds l ≤ 17 then ((1 + nds l : Nat) : Int) else 17) else 17 := by
  obtain ⟨h1, h2⟩ := nvs_good d hd l
  by_cases hg : als l = true ∧ (dps l : Int) ≤ d
  · rw [if_pos hg, h1 hg 1 (by omega)]
    unfold mn
    repeat' split
    all_goals omega
  · rw [if_neg hg]
    have := h2 hg
    unfold mn
    split <;> omega
theorem nodes_loop (d : Int) (hd : 1 ≤ d) (hd6 : d ≤ 6) {l : List TI} (hl : l.length ≤ 2) (ih : ∀ y ∈ l, Ev (fun k => impl_nodesOf.f k y.f0 y.f1 y.f2 (d - 1)) (nv (d - 1) y)) :
    ∀ (e i : Nat) (s : Int), i + e = l.length → 0 ≤ s → s ≤ 1 + 17 * (i : Int) → Ev (fun k => impl_nodesOf.l0 k d s l (l.length : Int) (i : Int)) (mn (s + nvs (d - 1) (l.drop i)) 17) := by
  intro e
  induction e with
  | zero =>
    intro i s h h0 h1
    refine next ?_
    simp only [impl_nodesOf.l0, if_neg (show ¬ (i : Int) < (l.length : Int) by omega)]
    rw [List.drop_eq_nil_of_le (by omega), nvs, Int.add_zero]
    exact Ev.now _
  | succ e ihe =>
    intro i s h h0 h1
    have hi : i < l.length := by omega
    refine next ?_
    have hb := nv_bound (d - 1) l[i]
    simp only [impl_nodesOf.l0, if_pos (show (i : Int) < (l.length : Int) by omega), if_pos (show (0 : Int) ≤ (i : Int) by omega), rdTI l i hi, w64 (show -9223372036854775808 ≤ d - 1 by omega) (by omega)]
    refine Ev.bind (ih _ (List.getElem_mem hi)) ?_
    simp only [up1 (show i < 9223372036854775807 by omega), w64 (show -9223372036854775808 ≤ s + nv (d - 1) l[i] by omega) (by omega)]
    refine ev_eq (ihe (i + 1) _ (by omega) (by omega) (by omega)) ?_
    rw [List.drop_eq_getElem_cons hi, nvs, Int.add_assoc]
theorem nodes_tree : ∀ x : TI, Thin x → ∀ d : Int, 0 ≤ d → d ≤ 6 → Ev (fun k => impl_nodesOf.f k x.f0 x.f1 x.f2 d) (nv d x) := by
  refine TI.ind fun x ih hx d h0 h1 => ?_
  obtain ⟨_, hl, hs, hc⟩ := hx
  have hdp := dp_pos x
  refine next ?_
  by_cases hd0 : d = 0
  · subst hd0
    simp only [impl_nodesOf.f, if_true]
    refine next ?_
    simp only [impl_nodesOf.j0, if_true]
    exact ev_some (by unfold nv; rw [if_neg (by omega)])
  · simp only [impl_nodesOf.f, if_neg hd0]
    refine Ev.bind (argsN_impl x.f0) ?_
    refine next ?_
    have hbad : shp x = false → (17 : Int) = nv d x := fun hb => by
      unfold nv
      rw [if_neg]
      rintro ⟨ha, _⟩
      rw [al_eq, hb, Bool.and_false] at ha
      cases ha
    by_cases hlen : (x.f2.length : Int) = argsN x.f0
    · have hl2 : x.f2.length ≤ 2 := by
        have : argsN x.f0 ≤ 2 := by unfold argsN; repeat' split <;> omega
        omega
      have hj1 : shp x = true → Ev (fun k => impl_nodesOf.j1 k d x.f0 x.f1 x.f2) (nv d x) := fun hsh => by
        refine next ?_
        simp only [impl_nodesOf.j1]
        refine ev_eq (nodes_loop d (by omega) h1 hl2 (fun y hy => ih y hy (hc y hy) (d - 1) (by omega) (by omega)) x.f2.length 0 1 (by omega) (by omega) (by omega)) ?_
        rw [List.drop_zero, nvs_sum (d - 1) (by omega)]
        unfold nv
        rw [al_eq, hsh, Bool.and_true, nd_eq]
        have : (dps x.f2 : Int) ≤ d - 1 ↔ (dp x : Int) ≤ d := by rw [dp_eq]; omega
        simp only [this]
      simp only [impl_nodesOf.j0, show ((x.f2.length : Int) != argsN x.f0) = false from by rw [bne_eq_false_iff_eq]; exact hlen, Bool.false_eq_true, if_false]
      by_cases h3 : x.f0 = 3
      · simp only [if_pos h3]
        by_cases hz : (x.f1.size : Int) = 1
        · simp only [if_pos hz]
          refine Ev.bind (impl_word x.f1 (by omega)) ?_
          cases hw : word x.f1 with
          | false =>
            simp only [Bool.false_eq_true, if_false]
            exact ev_some (hbad (by unfold shp; rw [if_pos h3, hw]; simp))
          | true =>
            simp only [if_true]
            exact hj1 (by unfold shp; rw [if_pos h3, hw, decide_eq_true hlen, decide_eq_true (show x.f1.size = 1 by omega)]; rfl)
        · simp only [if_neg hz]
          exact ev_some (hbad (by unfold shp; rw [if_pos h3, decide_eq_false (show ¬ x.f1.size = 1 by omega)]; simp))
      · simp only [if_neg h3]
        by_cases he : x.f1.toList = ([] : List UInt8)
        · simp only [if_pos he]
          exact hj1 (by unfold shp; rw [if_neg h3, decide_eq_true hlen, decide_eq_true (show x.f1 = (⟨#[]⟩ : ByteArray) from toList_iff.mp (he.trans empty_list.symm))]; rfl)
        · simp only [if_neg he]
          exact ev_some (hbad (by unfold shp; rw [if_neg h3, decide_eq_false (show ¬ x.f1 = (⟨#[]⟩ : ByteArray) from fun e => he (by rw [e]; exact empty_list))]; simp))
    · simp only [impl_nodesOf.j0, show ((x.f2.length : Int) != argsN x.f0) = true from by rw [bne_iff_ne]; exact hlen, if_true]
      exact ev_some (hbad (by unfold shp; rw [decide_eq_false hlen]; rfl))
theorem impl_validR (x : TI) (hx : Thin x) : Ev (fun k => impl_IsValidRegex.f k x.f0 x.f1 x.f2) (validR x) := by
  simp only [impl_IsValidRegex.f]
  refine Ev.bind (nodes_tree x hx 6 (by omega) (by omega)) ?_
  refine ev_some ?_
  unfold validR nv
  have e6 : ((dp x : Int) ≤ 6) ↔ dp x ≤ 6 := by omega
  by_cases ha : al x = true
  · by_cases hd : dp x ≤ 6
    · rw [if_pos ⟨ha, by omega⟩, ha, decide_eq_true hd, Bool.and_true, Bool.and_true]
      by_cases hn : nd x ≤ 16
      · rw [decide_eq_true hn]
        simp only [decide_eq_true_eq]
        split <;> omega
      · rw [decide_eq_false hn]
        simp only [decide_eq_false_iff_not]
        split <;> omega
    · rw [if_neg (by omega), decide_eq_false hd, Bool.and_false, Bool.false_and]
      rfl
  · simp only [Bool.not_eq_true] at ha
    rw [if_neg (by rw [ha]; simp), ha, Bool.and_false]
    rfl
end Go.Proofs.Ytldgkgdgcfllmaa.Pl
end
section
namespace Go.Proofs.Ytldgkgdgcfllmaa.Rg
open Go.RowKit Go.Shelf Go.Proofs.Ytldgkgdgcfllmaa.P Go.Proofs.Ytldgkgdgcfllmaa.Pl Go.Proofs.YtldgkgdgcfllmaaW.PrintWords Go.Proofs.YtldgkgdgcfllmaaW.PrintLast Go.Proofs.YtldgkgdgcfllmaaW.PrintMore
set_option linter.unusedVariables false
set_option linter.unusedSimpArgs false
def bitv (b : Bool) : Int := if b then 2 else 1
def enc8 (t : List Int) : Array Value := (t.map (fun x => Value.int .i8 x)).toArray
theorem enc8_get {t : List Int} {c : Nat} (h : c < t.length) : (enc8 t)[c]? = some (.int .i8 (t.getD c 0)) := by
  unfold enc8
  simp [List.getD_eq_getElem?_getD, h]
theorem enc8_set (t : List Int) (c : Nat) (x : Int) : (enc8 t).setIfInBounds c (.int .i8 x) = enc8 (t.set c x) := by
  unfold enc8
  simp [List.map_set]
structure Mem (w0 W : World) (gm g : Nat) (s : ByteArray) (N : Nat) (t : List Int) : Prop where
  box : W.heap[gm]? = some (.cells #[.string s, .int .i64 (N : Int), .slice (some ⟨g, 0, none⟩) t.length t.length] 89 (0, 0))
  row : W.heap[g]? = some (.cells (enc8 t) 99 (0, 0))
  bel : Below w0.heap.size w0 W
  ne : gm ≠ g
  lg : w0.heap.size ≤ g
  lm : w0.heap.size ≤ gm
theorem Mem.below {w0 W W' : World} {gm g : Nat} {s : ByteArray} {N : Nat} {t : List Int} (h : Mem w0 W gm g s N t) (hb : Below W.heap.size W W') : Mem w0 W' gm g s N t := ⟨blk_below h.box hb, blk_below h.row hb, below_then h.bel h.bel.size hb, h.ne, h.lg, h.lm⟩
theorem Mem.put {w0 W : World} {gm g : Nat} {s : ByteArray} {N : Nat} {t : List Int} (h : Mem w0 W gm g s N t) (c : Nat) (x : Int) : Mem w0 (W.setCell ⟨g, c, none⟩ (.int .i8 x)) gm g s N (t.set c x) :=
  ⟨by rw [List.length_set]; exact blk_far h.box h.ne _, by rw [← enc8_set]; exact blk_set h.row c _, below_set h.bel h.lg, h.ne, h.lg, h.lm⟩
theorem Mem.cell {w0 W : World} {gm g : Nat} {s : ByteArray} {N : Nat} {t : List Int} (h : Mem w0 W gm g s N t) {c : Nat} (hc : c < t.length) : W.cell? ⟨g, c, none⟩ = some (.int .i8 (t.getD c 0)) := (blk_cell h.row c).trans (enc8_get hc)
def Post (w0 : World) (gm g : Nat) (s : ByteArray) (N : Nat) (E : Nat → Bool) (t : List Int) (W : World) (r : Bool) (e : Ending) (W' : World) : Prop :=
  e = .returned (.bool r) ∧ ∃ t', t'.length = t.length ∧ (∀ c, t'.getD c 0 = t.getD c 0 ∨ t'.getD c 0 = bitv (E c)) ∧ Mem w0 W' gm g s N t' ∧ KeepBut W W' g none
theorem keep_of_below {w w' : World} (g : Nat) (h : Below w.heap.size w w') : KeepBut w w' g none := ⟨h.size, fun i hi _ _ => h.block i hi⟩
structure St (w0 W1 W' : World) (gm g : Nat) (s : ByteArray) (N : Nat) (E : Nat → Bool) (t t' : List Int) : Prop where
  inv : t'.length = t.length ∧ ∀ c, t'.getD c 0 = t.getD c 0 ∨ t'.getD c 0 = bitv (E c)
  mem : Mem w0 W' gm g s N t'
  keep : KeepBut W1 W' g none
section
variable {w0 W W1 W' W2 : World} {gm g : Nat} {s : ByteArray} {N : Nat} {E : Nat → Bool} {t t' : List Int} {b : Bool} {e : Ending}
theorem St.step (h : St w0 W1 W' gm g s N E t t') (p : Post w0 gm g s N E t' W' b e W2) : e = .returned (.bool b) ∧ ∃ t2, St w0 W1 W2 gm g s N E t t2 := by
  obtain ⟨he, t2, h1, h2, h3, h4⟩ := p
  refine ⟨he, t2, ⟨by rw [h1, h.inv.1], fun c => ?_⟩, h3, h.keep.trans h4 (.inl rfl)⟩
  rcases h2 c with e1 | e1
  · rw [e1]; exact h.inv.2 c
  · exact Or.inr e1
theorem St.post (h : St w0 W1 W' gm g s N E t t') (k : KeepBut W W1 g none) : Post w0 gm g s N E t W b (.returned (.bool b)) W' := ⟨rfl, t', h.inv.1, h.inv.2, h.mem, k.trans h.keep (.inl rfl)⟩
theorem St.cell (h : St w0 W1 W' gm g s N E t t') {a : Addr} {v : Value} (hc : W1.cell? a = some v) (hn : a.block ≠ g) : W'.cell? a = some v := keep_cell h.keep hc hn
theorem St.below (h : St w0 W1 W' gm g s N E t t') (hb : Below W'.heap.size W' W2) : St w0 W1 W2 gm g s N E t t' := ⟨h.inv, h.mem.below hb, h.keep.trans (keep_of_below g hb) (.inl rfl)⟩
theorem St.start (hm : Mem w0 W1 gm g s N t) : St w0 W1 W1 gm g s N E t t := ⟨⟨rfl, fun _ => Or.inl rfl⟩, hm, keep_of_below g (Below.refl _ _)⟩
end
end Go.Proofs.Ytldgkgdgcfllmaa.Rg
end
section
namespace Go.Proofs.Ytldgkgdgcfllmaa.Rg
open Go.RowKit Go.Shelf Go.Proofs.Ytldgkgdgcfllmaa.P Go.Proofs.Ytldgkgdgcfllmaa.Pl Go.Proofs.YtldgkgdgcfllmaaW.PrintWords Go.Proofs.YtldgkgdgcfllmaaW.PrintLast Go.Proofs.YtldgkgdgcfllmaaW.PrintMore
set_option linter.unusedVariables false
set_option linter.unusedSimpArgs false
def upd (V : Nat → Nat → Nat → Int) (n i j : Nat) (x : Int) : Nat → Nat → Nat → Int := fun n' i' j' => if n' = n ∧ i' = i ∧ j' = j then x else V n' i' j'
section
variable {w0 w1 W W' : World} {T N : Nat} {b : Nat → Nat → Nat} {V : Nat → Nat → Nat → Int}
end
section
variable {E : Nat → Nat → Nat → Bool} {V V' V2 : Nat → Nat → Nat → Int} {n p : Nat}
end
end Go.Proofs.Ytldgkgdgcfllmaa.Rg
end
section
namespace Go.Proofs.Ytldgkgdgcfllmaa.Rg
open Go.RowKit Go.Shelf Go.Proofs.Ytldgkgdgcfllmaa.P Go.Proofs.Ytldgkgdgcfllmaa.Pl Go.Proofs.YtldgkgdgcfllmaaW.PrintWords Go.Proofs.YtldgkgdgcfllmaaW.PrintLast Go.Proofs.YtldgkgdgcfllmaaW.PrintMore
set_option linter.unusedVariables false
set_option linter.unusedSimpArgs false
section
variable {w0 w1 W W' W2 : World} {T N n p : Nat} {b : Nat → Nat → Nat} {E : Nat → Nat → Nat → Bool} {V V' : Nat → Nat → Nat → Int} {r : Bool} {e : Ending}
end
end Go.Proofs.Ytldgkgdgcfllmaa.Rg
end
section
namespace Go.Proofs.Ytldgkgdgcfllmaa.P
open Go.RowKit Go.Proofs.YtldgkgdgcfllmaaW.PrintWords Go.Proofs.YtldgkgdgcfllmaaW.PrintLast Go.Proofs.YtldgkgdgcfllmaaW.PrintMore
attribute [local go_sem] max2_int min2_int max_two min_two max_three min_three max_four min_four
set_option linter.unusedVariables false
set_option linter.unusedSimpArgs false
end Go.Proofs.Ytldgkgdgcfllmaa.P
end
section
namespace Go.Proofs.Ytldgkgdgcfllmaa.Rg
open Go.RowKit Go.Shelf Go.Proofs.Ytldgkgdgcfllmaa.P Go.Proofs.Ytldgkgdgcfllmaa.Pl Go.Proofs.YtldgkgdgcfllmaaW.PrintWords Go.Proofs.YtldgkgdgcfllmaaW.PrintLast Go.Proofs.YtldgkgdgcfllmaaW.PrintMore
set_option linter.unusedVariables false
set_option linter.unusedSimpArgs false
section
variable {w0 w1 W W' W2 : World} {T N n i p k : Nat} {b : Nat → Nat → Nat} {E : Nat → Nat → Nat → Bool} {V V' : Nat → Nat → Nat → Int} {r cb : Bool} {e : Ending}
end
end Go.Proofs.Ytldgkgdgcfllmaa.Rg
end
section
namespace Go.Proofs.Ytldgkgdgcfllmaa.Rg
open Go.RowKit Go.Shelf Go.Proofs.Ytldgkgdgcfllmaa.P Go.Proofs.Ytldgkgdgcfllmaa.Pl Go.Proofs.YtldgkgdgcfllmaaW.PrintWords Go.Proofs.YtldgkgdgcfllmaaW.PrintLast Go.Proofs.YtldgkgdgcfllmaaW.PrintMore
set_option linter.unusedVariables false
set_option linter.unusedSimpArgs false
section
variable {w0 W W' : World} {gz : Nat} {s : ByteArray} {N T : Nat} {X : List Rx} {C : List (List Int)} {b : Nat → Nat → Nat} {vn va vm : Value} {NC AC MC : List Value} {ok ok' : Nat → Prop}
end
section
variable {w0 W0 W W' : World} {ok0 ok1 : Nat → Prop} {gz gb : Nat} {bx : Array Value} {s : ByteArray} {N : Nat} {X : List Rx} {C : List (List Int)} {v5 v' : Value} {a1 : List Int} {y : Rx} {e : Ending} {q : Int}
end
section
variable {w0 W0 W W' : World} {ok0 ok1 : Nat → Prop} {gz gb : Nat} {bx : Array Value} {s : ByteArray} {N : Nat} {X : List Rx} {C : List (List Int)} {v5 v7 v' : Value} {a1 : List Int} {m r : Nat} {g : Nat → Nat} {TC : List Value} {row : Option Nat}
end
section
variable {w0 W W' : World} {gz : Nat} {s : ByteArray} {N T : Nat} {X : List Rx} {C : List (List Int)} {b : Nat → Nat → Nat} {vn va vm v1 : Value} {NC AC MC : List Value} {ok : Nat → Prop}
end
end Go.Proofs.Ytldgkgdgcfllmaa.Rg
end
section
namespace Go.Proofs.Ytldgkgdgcfllmaa.Rg
open Go.RowKit Go.Shelf Go.Proofs.Ytldgkgdgcfllmaa.P Go.Proofs.Ytldgkgdgcfllmaa.Pl Go.Proofs.YtldgkgdgcfllmaaW.PrintWords Go.Proofs.YtldgkgdgcfllmaaW.PrintLast Go.Proofs.YtldgkgdgcfllmaaW.PrintMore
set_option linter.unusedVariables false
set_option linter.unusedSimpArgs false
section
variable {w0 wr w' : World} {gz : Nat} {vb : Option Nat} {s : ByteArray} {va vm cur : Value} {g1 n c1 : Nat} {L : List Value}
end
section
variable {w0 W0 W W' : World} {ok0 ok1 : Nat → Prop} {gz gb : Nat} {bx : Array Value} {s : ByteArray} {N T : Nat} {X : List Rx} {C : List (List Int)} {b : Nat → Nat → Nat} {vn va vm v1 v5 : Value} {NC AC MC TC : List Value} {t7 c7 : Nat} {g : Nat → Nat} {a1 : List Int}
end
end Go.Proofs.Ytldgkgdgcfllmaa.Rg
end
section
namespace Go.Proofs.Ytldgkgdgcfllmaa.Rg
open Go.RowKit Go.Shelf Go.Proofs.Ytldgkgdgcfllmaa.P Go.Proofs.Ytldgkgdgcfllmaa.Pl Go.Proofs.YtldgkgdgcfllmaaW.PrintWords Go.Proofs.YtldgkgdgcfllmaaW.PrintLast Go.Proofs.YtldgkgdgcfllmaaW.PrintMore
set_option linter.unusedVariables false
set_option linter.unusedSimpArgs false
theorem take_snoc {ys : List Rx} {k : Nat} {y : Rx} (h : ys[k]? = some y) : ys.take (k + 1) = ys.take k ++ [y] := by
  rw [List.take_add_one, h]; rfl
section
variable {P : Program} {md : Region.Mode} {ops : Array Oper} {Q : Exit → Act → World → Prop} {S : World → Prop} {ds : List Nat}
end
end Go.Proofs.Ytldgkgdgcfllmaa.Rg
end
section
namespace Go.Proofs.Ytldgkgdgcfllmaa.P
open Go.RowKit Go.Proofs.YtldgkgdgcfllmaaW.PrintWords Go.Proofs.YtldgkgdgcfllmaaW.PrintLast Go.Proofs.YtldgkgdgcfllmaaW.PrintMore
attribute [local go_sem] max2_int min2_int max_two min_two max_three min_three max_four min_four
set_option linter.unusedVariables false
set_option linter.unusedSimpArgs false
end Go.Proofs.Ytldgkgdgcfllmaa.P
end
section
namespace Go.Proofs.Ytldgkgdgcfllmaa.P
open Go.RowKit Go.Proofs.YtldgkgdgcfllmaaW.PrintWords Go.Proofs.YtldgkgdgcfllmaaW.PrintLast Go.Proofs.YtldgkgdgcfllmaaW.PrintMore
attribute [local go_sem] max2_int min2_int max_two min_two max_three min_three max_four min_four
set_option linter.unusedVariables false
set_option linter.unusedSimpArgs false
end Go.Proofs.Ytldgkgdgcfllmaa.P
end
section
namespace Go.Proofs.Ytldgkgdgcfllmaa.Rg
open Go.RowKit Go.Shelf Go.Proofs.Ytldgkgdgcfllmaa.P Go.Proofs.Ytldgkgdgcfllmaa.Pl Go.Proofs.YtldgkgdgcfllmaaW.PrintWords Go.Proofs.YtldgkgdgcfllmaaW.PrintLast Go.Proofs.YtldgkgdgcfllmaaW.PrintMore
set_option linter.unusedVariables false
set_option linter.unusedSimpArgs false
def nds : Rx → List Rx
  | .cat x y => .cat x y :: (nds x ++ nds y)
  | .or x y => .or x y :: (nds x ++ nds y)
  | .and x y => .and x y :: (nds x ++ nds y)
  | .star x => .star x :: nds x
  | .not x => .not x :: nds x
  | .none => [.none]
  | .empty => [.empty]
  | .letter c => [.letter c]
  | .any => [.any]
end Go.Proofs.Ytldgkgdgcfllmaa.Rg
end
section
namespace Go.Proofs.Ytldgkgdgcfllmaa.P
open Go.RowKit Go.Proofs.YtldgkgdgcfllmaaW.PrintWords Go.Proofs.YtldgkgdgcfllmaaW.PrintLast Go.Proofs.YtldgkgdgcfllmaaW.PrintMore
attribute [local go_sem] max2_int min2_int max_two min_two max_three min_three max_four min_four
set_option linter.unusedVariables false
set_option linter.unusedSimpArgs false
end Go.Proofs.Ytldgkgdgcfllmaa.P
end
section
namespace Go.Proofs.Ytldgkgdgcfllmaa.P
open Go.RowKit Go.Proofs.YtldgkgdgcfllmaaW.PrintWords Go.Proofs.YtldgkgdgcfllmaaW.PrintLast Go.Proofs.YtldgkgdgcfllmaaW.PrintMore
attribute [local go_sem] max2_int min2_int max_two min_two max_three min_three max_four min_four
set_option linter.unusedVariables false
set_option linter.unusedSimpArgs false
end Go.Proofs.Ytldgkgdgcfllmaa.P
end
section
namespace Go.Proofs.Ytldgkgdgcfllmaa.Rg
open Go.RowKit Go.Proofs.Ytldgkgdgcfllmaa.P Go.Proofs.Ytldgkgdgcfllmaa.Pl Go.Proofs.YtldgkgdgcfllmaaW.PrintWords Go.Proofs.YtldgkgdgcfllmaaW.PrintLast Go.Proofs.YtldgkgdgcfllmaaW.PrintMore
set_option linter.unusedVariables false
set_option linter.unusedSimpArgs false
def Lt : Rx → Prop
  | .letter l => l.size = 1
  | .cat x y => Lt x ∧ Lt y
  | .or x y => Lt x ∧ Lt y
  | .and x y => Lt x ∧ Lt y
  | .star x => Lt x
  | .not x => Lt x
  | _ => True
def tr : Rx → Tr
  | .none => ⟨1, ⟨#[]⟩, []⟩
  | .empty => ⟨2, ⟨#[]⟩, []⟩
  | .letter l => ⟨3, l, []⟩
  | .any => ⟨4, ⟨#[]⟩, []⟩
  | .cat x y => ⟨5, ⟨#[]⟩, [tr x, tr y]⟩
  | .or x y => ⟨6, ⟨#[]⟩, [tr x, tr y]⟩
  | .and x y => ⟨7, ⟨#[]⟩, [tr x, tr y]⟩
  | .star x => ⟨8, ⟨#[]⟩, [tr x]⟩
  | .not x => ⟨9, ⟨#[]⟩, [tr x]⟩
end Go.Proofs.Ytldgkgdgcfllmaa.Rg
end
