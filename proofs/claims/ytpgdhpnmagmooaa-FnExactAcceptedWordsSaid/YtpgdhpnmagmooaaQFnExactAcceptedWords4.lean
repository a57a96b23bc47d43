/- Texts of the proof of FnExactAcceptedWords, put together. No condition. -/
import Derived.Test.YtpgdhpnmagmooaaQFnExactAcceptedWords2
import Derived.Test.YtpgdhpnmagmooaaQFnExactAcceptedWords3
import Derived.Deep.Slices
import Derived.Lib.SmallJoins
section
namespace Go.Proofs.Ytpgdhpnmagmooaa.P
open Go.RowKit Go.Proofs.YtpgdhpnmagmooaaW.PrintWords Go.Proofs.YtpgdhpnmagmooaaW.PrintLast Go.Proofs.YtpgdhpnmagmooaaW.PrintMore
attribute [local go_sem] max2_int min2_int max_two min_two max_three min_three max_four min_four
set_option linter.unusedVariables false
set_option linter.unusedSimpArgs false
mutual
def spec_IsValidDfa.j0 : Nat → Int → Bool → List Bool → List (List Int) → Option (Bool)
  | 0, _, _, _, _ => none
  | k + 1, x3, x18, al, ae => if x18 = true then (some false) else (spec_IsValidDfa.l0 k x3 0 al ae)
def spec_IsValidDfa.l0 : Nat → Int → Int → List Bool → List (List Int) → Option (Bool)
  | 0, _, _, _, _ => none
  | k + 1, x3, x4, al, ae => if x4 < x3 then (if 0 ≤ x4 then (if x4 < (ae.length : Int) then (if ((rd_L1 ae x4).length : Int) = 3 then (spec_IsValidDfa.l1 k x3 x4 0 al ae) else (some false)) else (none)) else (none)) else (some true)
def spec_IsValidDfa.l1 : Nat → Int → Int → Int → List Bool → List (List Int) → Option (Bool)
  | 0, _, _, _, _, _ => none
  | k + 1, x3, x4, x5, al, ae => if 0 ≤ x4 then (if x4 < (ae.length : Int) then (if x5 < ((rd_L1 ae x4).length : Int) then (if 0 ≤ x5 then ((spec_l1In.f (rd (rd_L1 ae x4) x5) 0 (wrap64 (x3 - 1))).bind fun aF => (if aF = true then (spec_IsValidDfa.l1 k x3 x4 (wrap64 (x5 + 1)) al ae) else (some false))) else (none)) else (spec_IsValidDfa.l0 k x3 (wrap64 (x4 + 1)) al ae)) else (none)) else (none)
end
def spec_IsValidDfa.f (k : Nat) (l0_0 : List Bool) (l0_1 : List (List Int)) : Option (Bool) := (spec_l1In.f (l0_0.length : Int) 1 40).bind fun ar => (if ar = true then (spec_IsValidDfa.j0 k (l0_0.length : Int) ((l0_1.length : Int) != (l0_0.length : Int)) l0_0 l0_1) else (spec_IsValidDfa.j0 k (l0_0.length : Int) true l0_0 l0_1))
theorem spec_IsValidDfa.mono_l : ∀ k, (∀ y0 y1 y2 y3, LeO (spec_IsValidDfa.j0 k y0 y1 y2 y3) (spec_IsValidDfa.j0 (k + 1) y0 y1 y2 y3)) ∧ (∀ y0 y1 y2 y3, LeO (spec_IsValidDfa.l0 k y0 y1 y2 y3) (spec_IsValidDfa.l0 (k + 1) y0 y1 y2 y3)) ∧ (∀ y0 y1 y2 y3 y4, LeO (spec_IsValidDfa.l1 k y0 y1 y2 y3 y4) (spec_IsValidDfa.l1 (k + 1) y0 y1 y2 y3 y4))
 | 0 => ⟨fun _ _ _ _ r h => by simp [spec_IsValidDfa.j0] at h, fun _ _ _ _ r h => by simp [spec_IsValidDfa.l0] at h, fun _ _ _ _ _ r h => by simp [spec_IsValidDfa.l1] at h⟩
 | k + 1 => by
  obtain ⟨ih0, ih1, ih2⟩ := spec_IsValidDfa.mono_l k
  refine ⟨?_, ?_, ?_⟩
  ·intro y0 y1 y2 y3
   unfold spec_IsValidDfa.j0
   repeat' first
   | (with_reducible exact ih0 _ _ _ _)
   | (with_reducible exact ih1 _ _ _ _)
   | (with_reducible exact ih2 _ _ _ _ _)
   | (with_reducible exact LeO.refl _)
   | (with_reducible exact LeO.none _)
   | (with_reducible refine LeO.ite ?_ ?_)
   | (with_reducible refine LeO.bind ?_ (fun _ => ?_))
   | exact ih0 _ _ _ _
   | exact ih1 _ _ _ _
   | exact ih2 _ _ _ _ _
   | exact LeO.none _
   | refine LeO.ite ?_ ?_
   | refine LeO.bind ?_ (fun _ => ?_)
  ·intro y0 y1 y2 y3
   unfold spec_IsValidDfa.l0
   repeat' first
   | (with_reducible exact ih0 _ _ _ _)
   | (with_reducible exact ih1 _ _ _ _)
   | (with_reducible exact ih2 _ _ _ _ _)
   | (with_reducible exact LeO.refl _)
   | (with_reducible exact LeO.none _)
   | (with_reducible refine LeO.ite ?_ ?_)
   | (with_reducible refine LeO.bind ?_ (fun _ => ?_))
   | exact ih0 _ _ _ _
   | exact ih1 _ _ _ _
   | exact ih2 _ _ _ _ _
   | exact LeO.none _
   | refine LeO.ite ?_ ?_
   | refine LeO.bind ?_ (fun _ => ?_)
  ·intro y0 y1 y2 y3 y4
   unfold spec_IsValidDfa.l1
   repeat' first
   | (with_reducible exact ih0 _ _ _ _)
   | (with_reducible exact ih1 _ _ _ _)
   | (with_reducible exact ih2 _ _ _ _ _)
   | (with_reducible exact LeO.refl _)
   | (with_reducible exact LeO.none _)
   | (with_reducible refine LeO.ite ?_ ?_)
   | (with_reducible refine LeO.bind ?_ (fun _ => ?_))
   | exact ih0 _ _ _ _
   | exact ih1 _ _ _ _
   | exact ih2 _ _ _ _ _
   | exact LeO.none _
   | refine LeO.ite ?_ ?_
   | refine LeO.bind ?_ (fun _ => ?_)
theorem spec_IsValidDfa.mono : ∀ a0 a1 k, LeO (spec_IsValidDfa.f k a0 a1) (spec_IsValidDfa.f (k + 1) a0 a1) := by
 intro a0 a1 k
 obtain ⟨ih0, ih1, ih2⟩ := spec_IsValidDfa.mono_l k
 unfold spec_IsValidDfa.f
 repeat' first
   | (with_reducible exact ih0 _ _ _ _)
   | (with_reducible exact ih1 _ _ _ _)
   | (with_reducible exact ih2 _ _ _ _ _)
   | (with_reducible exact LeO.refl _)
   | (with_reducible exact LeO.none _)
   | (with_reducible refine LeO.ite ?_ ?_)
   | (with_reducible refine LeO.bind ?_ (fun _ => ?_))
   | exact ih0 _ _ _ _
   | exact ih1 _ _ _ _
   | exact ih2 _ _ _ _ _
   | exact LeO.none _
   | refine LeO.ite ?_ ?_
   | refine LeO.bind ?_ (fun _ => ?_)
theorem zp4_0_ {p q g1 : Prop} (h : p) (h1 : g1) (c : p → g1 → q := by intro h_ h1_; repeat (first | (with_reducible first | exact h_ | apply below_alloc | apply pw_below_drewN | apply below_drew1 | refine below_set ?_ h1_) | exact h_)) : q := c h h1
set_option maxHeartbeats 8000000 in
set_option maxRecDepth 100000 in
theorem spec_IsValidDfa.calls (k : Nat) (A0_0 : Option Addr) (c0_0 : Nat) (l0_0 : List Bool) (A0_1 : Option Addr) (c0_1 : Nat) (l0_1 : List (List Int)) (r : Bool) (w : World) (hr0_0 : Kd.C Kd.bool w A0_0 l0_0.length l0_0) (hc0_0 : l0_0.length ≤ c0_0) (hr0_1 : Kd.C (Kd.slice 3 (Kd.int .i64)) w A0_1 l0_1.length l0_1) (hc0_1 : l0_1.length ≤ c0_1) (h : spec_IsValidDfa.f k l0_0 l0_1 = some r) :
  Calls Try.prog 24 #[.agg #[.slice A0_0 l0_0.length c0_0, .slice A0_1 l0_1.length c0_1]] w fun e w' => e = .returned (.bool r) ∧ Below w.heap.size w w' := by
 have hu28 := Try.underlying28
 have bf := am_ hr0_0
 have bg := am_ hc0_0
 clear hr0_0 hc0_0
 have am := am_ hr0_1
 have bh := am_ hc0_1
 clear hr0_1 hc0_1
 have HB := am_ (Below.refl w.heap.size w)
 have H : ((spec_l1In.f (l0_0.length : Int) 1 40).bind fun ar => (if ar = true then (spec_IsValidDfa.j0 k (l0_0.length : Int) ((l0_1.length : Int) != (l0_0.length : Int)) l0_0 l0_1) else (spec_IsValidDfa.j0 k (l0_0.length : Int) true l0_0 l0_1))) = some r := h
 clear h
 have HC2 := am_ H
 clear H
 go_enter Try.func24, Try.ntmps24
 go_upto_region 2 with (first | ((with_reducible refine gate_dst (N := 1) rfl ?_); (try (refine gate_guard (by rfl) ?_; dsimp only)); refine box_event ?hg (N := 1) ?hd (cs := #[.slice A0_0 l0_0.length c0_0, .slice A0_1 l0_1.length c0_1]) (t := 28) ?hr ?_; (case hd => rfl); (case hg => rfl); (case hr => first | (go_simp; done) | (go_simp; rfl)); intro an hg w3 hbox hb; replace ab := am_ (hbox); replace bi := am_ ((by rw [hg]; exact (below_size (b0_ HB.out)) : w.heap.size ≤ an)); replace aj := am_ ((by rw [hg]; exact (below_size (b0_ HB.out)) : w.heap.size ≤ an)); replace HB := am_ (below_step (b0_ HB.out) hb); clear hb hbox hg; have au := ck_ (v := (.slice A0_0 l0_0.length c0_0)) ab 0 rfl; have av := ck_ (v := (.slice A0_1 l0_1.length c0_1)) ab 1 rfl; have aw := blk_frozen ab.out 0; have ax := blk_frozen ab.out 1))
 (try simp only [Act.put, List.setIfInBounds_toArray, List.set_cons_zero, List.set_cons_succ])
 go_cut [18] (fun v18 wc => ∃ (kq : Nat) (aq : Bool), v18 = .bool aq ∧ Aside0 (spec_IsValidDfa.j0 kq (l0_0.length : Int) aq l0_0 l0_1 = some r) ∧ Aside0 (kq ≤ k) ∧ Aside0 (wc.heap[an]? = some (.cells #[(.slice A0_0 l0_0.length c0_0), (.slice A0_1 l0_1.length c0_1)] 28 (0, 0))) ∧ Aside0 (Below w.heap.size w wc))
 case first =>
  have H := HC2.out
  clear HC2
  replace H := Option.bind_eq_some_iff.mp H
  obtain ⟨ar, A50, H⟩ := H
  have A5 := am_ A50
  clear A50
  by_cases c6 : ar = true
  ·subst c6
   have H1 : (spec_IsValidDfa.j0 k (l0_0.length : Int) ((l0_1.length : Int) != (l0_0.length : Int)) l0_0 l0_1) = some r := by rw [if_pos rfl] at H; exact H
   clear H
   have H := H1
   clear H1
   have H' := am_ H
   clear H
   go_wp2_with (first | ((with_reducible refine gate_callee (f := 47) rfl ?_); refine gL_ (some 10) Try.func47 #[.int .i64 (l0_0.length : Int), .int .i64 1, .int .i64 40] ?_; (with_reducible refine (spec_l1In.calls (l0_0.length : Int) 1 40 true _ A5.out).mono ?_); rintro e w' ⟨rfl, ⟨nd, rfl⟩⟩; refine ⟨_, rfl, ?_⟩; have ay := ck_ (v := (.slice A0_0 l0_0.length c0_0)) ab 0 rfl; have az := ck_ (v := (.slice A0_1 l0_1.length c0_1)) ab 1 rfl; have aA := blk_frozen ab.out 0; have aB := blk_frozen ab.out 1))
   go_meet
   case rel => exact ⟨_, (((l0_1.length : Int) != (l0_0.length : Int))), (by first | rfl | (simp; done) | (simp [*]; done)), H', ⟨by first | omega | exact Nat.le_refl _⟩, ⟨by refine rb_ ?_; exact ab.out⟩, ⟨by exact zp4_0_ HB.out aj.out⟩⟩
  ·replace c6 := Bool.eq_false_iff.mpr c6
   subst c6
   have H1 : (spec_IsValidDfa.j0 k (l0_0.length : Int) true l0_0 l0_1) = some r := by rw [if_neg (show ¬ (false = true) by decide)] at H; exact H
   clear H
   have H := H1
   clear H1
   have H' := am_ H
   clear H
   go_wp2_with (first | ((with_reducible refine gate_callee (f := 47) rfl ?_); refine gL_ (some 10) Try.func47 #[.int .i64 (l0_0.length : Int), .int .i64 1, .int .i64 40] ?_; (with_reducible refine (spec_l1In.calls (l0_0.length : Int) 1 40 false _ A5.out).mono ?_); rintro e w' ⟨rfl, ⟨nd, rfl⟩⟩; refine ⟨_, rfl, ?_⟩))
   go_meet
   case rel => exact ⟨_, (true), (by first | rfl | (simp; done) | (simp [*]; done)), H', ⟨by first | omega | exact Nat.le_refl _⟩, ⟨by refine rb_ ?_; exact ab.out⟩, ⟨by exact zp4_0_ HB.out aj.out⟩⟩
 case rest =>
  clear HC2
  try clear c2
  try clear p2
  try clear c4
  try clear c6
  try clear au
  try clear av
  try clear ay
  try clear az
  try clear aw
  try clear ax
  try clear aA
  try clear aB
  obtain ⟨kq, aq, rfl, HA, HJ1, ab, HB⟩ := hcut
  cases kq with
  | zero => exact absurd HA.out (by simp [spec_IsValidDfa.j0])
  | succ kj1 =>
   have H := HA.out
   clear HA
   simp only [spec_IsValidDfa.j0] at H
   by_cases c8 : aq = true
   ·subst c8
    have H1 : (some false) = some r := by rw [if_pos rfl] at H; exact H
    clear H
    have H := H1
    clear H1
    obtain rfl := Option.some.inj H
    simp only [Option.some.injEq, Prod.mk.injEq] at H
    obtain ⟨rfl⟩ := H
    go_wp2
    go_ret
    exact ⟨by first | rfl | (simp [errW_none, errW_some] <;> rfl) | (simp [*, errW_none, errW_some] <;> rfl), by exact zp4_0_ HB.out aj.out⟩
   ·replace c8 := Bool.eq_false_iff.mpr c8
    subst c8
    have H1 : (spec_IsValidDfa.l0 kj1 (l0_0.length : Int) 0 l0_0 l0_1) = some r := by rw [if_neg (show ¬ (false = true) by decide)] at H; exact H
    clear H
    have H := H1
    clear H1
    have H' := am_ H
    clear H
    go_wp2
    go_loopg [4] kj1 (fun kq v4 w' => ∃ (aa : Int), v4 = .int .i64 aa ∧ Aside0 (spec_IsValidDfa.l0 kq (l0_0.length : Int) aa l0_0 l0_1 = some r) ∧ Aside0 (kq ≤ kj1) ∧ Aside0 (w'.heap[an]? = some (.cells #[(.slice A0_0 l0_0.length c0_0), (.slice A0_1 l0_1.length c0_1)] 28 (0, 0))) ∧ Aside0 (Below w.heap.size w w'))
    case atStart => exact ⟨(0), (by first | rfl | (simp; done) | (simp [*]; done)), H', ⟨Nat.le_refl _⟩, ⟨by refine rb_ ?_; exact ab.out⟩, ⟨by exact zp4_0_ HB.out aj.out⟩⟩
    case round =>
     clear H'
     try clear c2
     try clear p2
     try clear c4
     try clear c6
     try clear c8
     try clear au
     try clear av
     try clear ay
     try clear az
     try clear aw
     try clear ax
     try clear aA
     try clear aB
     try clear p2
     obtain ⟨aa, rfl, HA, HK2, ab, HB⟩ := hrel
     cases gk with
     | zero => exact absurd HA.out (by simp [spec_IsValidDfa.l0])
     | succ k2 =>
      have H := HA.out
      clear HA
      simp only [spec_IsValidDfa.l0] at H
      by_cases c9 : aa < (l0_0.length : Int)
      ·rw [if_pos c9] at H
       have c9b0 : decide (aa < (l0_0.length : Int)) = true := decide_eq_true c9
       clear c9
       by_cases c10 : 0 ≤ aa
       ·rw [if_pos c10] at H
        have c10b0 : decide (0 ≤ aa) = true := decide_eq_true c10
        clear c10
        by_cases c11 : aa < (l0_1.length : Int)
        ·rw [if_pos c11] at H
         have c11b0 : decide (aa < (l0_1.length : Int)) = true := decide_eq_true c11
         clear c11
         by_cases c12 : ((rd_L1 l0_1 aa).length : Int) = 3
         ·rw [if_pos c12] at H
          have c12b0 : (((rd_L1 l0_1 aa).length : Int) == 3) = true := beq_iff_eq.mpr c12
          have c12b1 : (((rd_L1 l0_1 aa).length : Int) != 3) = false := bne_eq_false_iff_eq.mpr c12
          clear c12
          have H' := am_ H
          clear H
          have aG := ck_ (v := (.slice A0_0 l0_0.length c0_0)) ab 0 rfl
          have aH := ck_ (v := (.slice A0_1 l0_1.length c0_1)) ab 1 rfl
          have aI := blk_frozen ab.out 0
          have aJ := blk_frozen ab.out 1
          have p129 : 0 ≤ (aa : Int) := of_decide_eq_true ah_
          have q129 : aa < (l0_1.length : Int) := of_decide_eq_true ah_
          obtain ⟨ak, A129_0, c129_0, e129, ah, hl129_0, hi129_0⟩ := at_L1 am.out aa p129 q129
          cases e129
          replace ah := (HB.out.cell (World.block_lt_of_cell? w _ ah)).trans ah
          have aK := am_ hi129_0
          have aL := am_ hl129_0
          clear hi129_0 hl129_0
          replace p129 := eq_true p129
          replace q129 := eq_true q129
          go_wp2
          go_loopg [5] k2 (fun kq v5 w' => ∃ (af : Int), v5 = .int .i64 af ∧ Aside0 (spec_IsValidDfa.l1 kq (l0_0.length : Int) aa af l0_0 l0_1 = some r) ∧ Aside0 (kq ≤ k2) ∧ Aside0 (w'.heap[an]? = some (.cells #[(.slice A0_0 l0_0.length c0_0), (.slice (some ak) l0_1.length c0_1)] 28 (0, 0))) ∧ Aside0 (Below w.heap.size w w'))
          case atStart => exact ⟨(0), (by first | rfl | (simp; done) | (simp [*]; done)), H', ⟨Nat.le_refl _⟩, ⟨by refine rb_ ?_; exact ab.out⟩, ⟨by exact zp4_0_ HB.out aj.out⟩⟩
          case round =>
           clear H'
           try clear c1
           try clear p1
           try clear q1
           try clear hx1
           try clear c2
           try clear p2
           try clear c4
           try clear c6
           try clear c8
           try clear c9
           try clear c9b0
           try clear c10
           try clear c10b0
           try clear c11
           try clear c11b0
           try clear c12
           try clear c12b0
           try clear c12b1
           try clear p12
           try clear q12
           try clear hx12
           try clear aG
           try clear aH
           try clear au
           try clear av
           try clear ay
           try clear az
           try clear aI
           try clear aJ
           try clear aw
           try clear ax
           try clear aA
           try clear aB
           try clear ah
           try clear p129
           try clear p2
           try clear q129
           obtain ⟨af, rfl, HA, HK3, ab, HB⟩ := hrel
           cases gk with
           | zero => exact absurd HA.out (by simp [spec_IsValidDfa.l1])
           | succ k3 =>
            have H := HA.out
            clear HA
            simp only [spec_IsValidDfa.l1] at H
            by_cases c14 : 0 ≤ aa
            ·rw [if_pos c14] at H
             have c14b0 : decide (0 ≤ aa) = true := decide_eq_true c14
             clear c14
             by_cases c15 : aa < (l0_1.length : Int)
             ·rw [if_pos c15] at H
              have c15b0 : decide (aa < (l0_1.length : Int)) = true := decide_eq_true c15
              clear c15
              by_cases c16 : af < ((rd_L1 l0_1 aa).length : Int)
              ·rw [if_pos c16] at H
               have c16b0 : decide (af < ((rd_L1 l0_1 aa).length : Int)) = true := decide_eq_true c16
               clear c16
               by_cases c17 : 0 ≤ af
               ·rw [if_pos c17] at H
                have c17b0 : decide (0 ≤ af) = true := decide_eq_true c17
                clear c17
                replace H := Option.bind_eq_some_iff.mp H
                obtain ⟨aF, aN, H⟩ := H
                have A18 := am_ aN
                clear aN
                by_cases c19 : aF = true
                ·subst c19
                 have H1 : (spec_IsValidDfa.l1 k3 (l0_0.length : Int) aa (wrap64 (af + 1)) l0_0 l0_1) = some r := by rw [if_pos rfl] at H; exact H
                 clear H
                 have H := H1
                 clear H1
                 have H' := am_ H
                 clear H
                 have aP := ck_ (v := (.slice A0_0 l0_0.length c0_0)) ab 0 rfl
                 have aQ := ck_ (v := (.slice (some ak) l0_1.length c0_1)) ab 1 rfl
                 have aR := blk_frozen ab.out 0
                 have aS := blk_frozen ab.out 1
                 have p130 : 0 ≤ (aa : Int) := of_decide_eq_true ah_
                 have q130 : aa < (l0_1.length : Int) := of_decide_eq_true ah_
                 obtain ⟨ao, A130_0, c130_0, e130, ad, hl130_0, hi130_0⟩ := at_L1 am.out aa p130 q130
                 obtain rfl : ak = ao := (by injection e130)
                 replace ad := (HB.out.cell (World.block_lt_of_cell? w _ ad)).trans ad
                 have aC := am_ hi130_0
                 have aD := am_ hl130_0
                 clear hi130_0 hl130_0
                 replace p130 := eq_true p130
                 replace q130 := eq_true q130
                 have p131 : 0 ≤ (aa : Int) := of_decide_eq_true ah_
                 have q131 : aa < (l0_1.length : Int) := of_decide_eq_true ah_
                 obtain ⟨aE, A131_0, c131_0, e131, ag, hl131_0, hi131_0⟩ := at_L1 am.out aa p131 q131
                 obtain rfl : ak = aE := (by injection e131)
                 replace ag := (HB.out.cell (World.block_lt_of_cell? w _ ag)).trans ag
                 have ap := am_ hi131_0
                 have aM := am_ hl131_0
                 clear hi131_0 hl131_0
                 replace p131 := eq_true p131
                 replace q131 := eq_true q131
                 have ea_ := Option.some.inj (ad.symm.trans ag)
                 injection ea_ with ea_ en_ ec_
                 subst ea_
                 subst ec_
                 clear en_
                 have p132 : 0 ≤ (af : Int) := of_decide_eq_true ah_
                 have q132 : af < ((rd_L1 l0_1 aa).length : Int) := of_decide_eq_true ah_
                 obtain ⟨aO, e132, ai⟩ := Kd.at_int ap.out af p132 q132
                 cases e132
                 replace ai := (HB.out.cell (World.block_lt_of_cell? w _ ai)).trans ai
                 replace p132 := eq_true p132
                 replace q132 := eq_true q132
                 go_wp2_with (first | ((with_reducible refine gate_callee (f := 47) rfl ?_); refine gL_ (some 51) Try.func47 #[.int .i64 (rd (rd_L1 l0_1 aa) af), .int .i64 0, .int .i64 (wrap64 ((l0_0.length : Int) - 1))] ?_; (with_reducible refine (spec_l1In.calls (rd (rd_L1 l0_1 aa) af) 0 (wrap64 ((l0_0.length : Int) - 1)) true _ A18.out).mono ?_); rintro e w' ⟨rfl, ⟨nd, rfl⟩⟩; refine ⟨_, rfl, ?_⟩))
                 go_roundg k3
                 case measure => have := HJ1.out; have := HK2.out; have := HK3.out; omega
                 case rel => exact ⟨(wrap64 (af + 1)), (by first | rfl | (simp; done) | (simp [*]; done)), H', ⟨by have := HJ1.out; have := HK2.out; have := HK3.out; omega⟩, ⟨by refine rb_ ?_; exact ab.out⟩, ⟨by exact zp4_0_ HB.out aj.out⟩⟩
                ·replace c19 := Bool.eq_false_iff.mpr c19
                 subst c19
                 have H1 : (some false) = some r := by rw [if_neg (show ¬ (false = true) by decide)] at H; exact H
                 clear H
                 have H := H1
                 clear H1
                 obtain rfl := Option.some.inj H
                 simp only [Option.some.injEq, Prod.mk.injEq] at H
                 obtain ⟨rfl⟩ := H
                 have aT := ck_ (v := (.slice A0_0 l0_0.length c0_0)) ab 0 rfl
                 have aU := ck_ (v := (.slice (some ak) l0_1.length c0_1)) ab 1 rfl
                 have aV := blk_frozen ab.out 0
                 have aW := blk_frozen ab.out 1
                 have p130 : 0 ≤ (aa : Int) := of_decide_eq_true ah_
                 have q130 : aa < (l0_1.length : Int) := of_decide_eq_true ah_
                 obtain ⟨ao, A130_0, c130_0, e130, ad, hl130_0, hi130_0⟩ := at_L1 am.out aa p130 q130
                 obtain rfl : ak = ao := (by injection e130)
                 replace ad := (HB.out.cell (World.block_lt_of_cell? w _ ad)).trans ad
                 have aC := am_ hi130_0
                 have aD := am_ hl130_0
                 clear hi130_0 hl130_0
                 replace p130 := eq_true p130
                 replace q130 := eq_true q130
                 have p131 : 0 ≤ (aa : Int) := of_decide_eq_true ah_
                 have q131 : aa < (l0_1.length : Int) := of_decide_eq_true ah_
                 obtain ⟨aE, A131_0, c131_0, e131, ag, hl131_0, hi131_0⟩ := at_L1 am.out aa p131 q131
                 obtain rfl : ak = aE := (by injection e131)
                 replace ag := (HB.out.cell (World.block_lt_of_cell? w _ ag)).trans ag
                 have ap := am_ hi131_0
                 have aM := am_ hl131_0
                 clear hi131_0 hl131_0
                 replace p131 := eq_true p131
                 replace q131 := eq_true q131
                 have ea_ := Option.some.inj (ad.symm.trans ag)
                 injection ea_ with ea_ en_ ec_
                 subst ea_
                 subst ec_
                 clear en_
                 have p132 : 0 ≤ (af : Int) := of_decide_eq_true ah_
                 have q132 : af < ((rd_L1 l0_1 aa).length : Int) := of_decide_eq_true ah_
                 obtain ⟨aO, e132, ai⟩ := Kd.at_int ap.out af p132 q132
                 cases e132
                 replace ai := (HB.out.cell (World.block_lt_of_cell? w _ ai)).trans ai
                 replace p132 := eq_true p132
                 replace q132 := eq_true q132
                 go_wp2_with (first | ((with_reducible refine gate_callee (f := 47) rfl ?_); refine gL_ (some 51) Try.func47 #[.int .i64 (rd (rd_L1 l0_1 aa) af), .int .i64 0, .int .i64 (wrap64 ((l0_0.length : Int) - 1))] ?_; (with_reducible refine (spec_l1In.calls (rd (rd_L1 l0_1 aa) af) 0 (wrap64 ((l0_0.length : Int) - 1)) false _ A18.out).mono ?_); rintro e w' ⟨rfl, ⟨nd, rfl⟩⟩; refine ⟨_, rfl, ?_⟩))
                 go_ret
                 exact ⟨by first | rfl | (simp [errW_none, errW_some] <;> rfl) | (simp [*, errW_none, errW_some] <;> rfl), by exact zp4_0_ HB.out aj.out⟩
               ·rw [if_neg c17] at H
                exact absurd H (by simp)
              ·rw [if_neg c16] at H
               have c16b0 : decide (af < ((rd_L1 l0_1 aa).length : Int)) = false := decide_eq_false c16
               clear c16
               have H' := am_ H
               clear H
               have aX := ck_ (v := (.slice A0_0 l0_0.length c0_0)) ab 0 rfl
               have aY := ck_ (v := (.slice (some ak) l0_1.length c0_1)) ab 1 rfl
               have aZ := blk_frozen ab.out 0
               have ba := blk_frozen ab.out 1
               have p130 : 0 ≤ (aa : Int) := of_decide_eq_true ah_
               have q130 : aa < (l0_1.length : Int) := of_decide_eq_true ah_
               obtain ⟨ao, A130_0, c130_0, e130, ad, hl130_0, hi130_0⟩ := at_L1 am.out aa p130 q130
               obtain rfl : ak = ao := (by injection e130)
               replace ad := (HB.out.cell (World.block_lt_of_cell? w _ ad)).trans ad
               have aC := am_ hi130_0
               have aD := am_ hl130_0
               clear hi130_0 hl130_0
               replace p130 := eq_true p130
               replace q130 := eq_true q130
               go_wp2
               go_roundg k3
               case measure => have := HJ1.out; have := HK2.out; have := HK3.out; omega
               case rel => exact ⟨(wrap64 (aa + 1)), (by first | rfl | (simp; done) | (simp [*]; done)), H', ⟨by have := HJ1.out; have := HK2.out; have := HK3.out; omega⟩, ⟨by refine rb_ ?_; exact ab.out⟩, ⟨by exact zp4_0_ HB.out aj.out⟩⟩
             ·rw [if_neg c15] at H
              exact absurd H (by simp)
            ·rw [if_neg c14] at H
             exact absurd H (by simp)
         ·rw [if_neg c12] at H
          have c12b0 : (((rd_L1 l0_1 aa).length : Int) == 3) = false := beq_eq_false_iff_ne.mpr c12
          have c12b1 : (((rd_L1 l0_1 aa).length : Int) != 3) = true := bne_iff_ne.mpr c12
          obtain rfl := Option.some.inj H
          simp only [Option.some.injEq, Prod.mk.injEq] at H
          obtain ⟨rfl⟩ := H
          have bb := ck_ (v := (.slice A0_0 l0_0.length c0_0)) ab 0 rfl
          have bc := ck_ (v := (.slice A0_1 l0_1.length c0_1)) ab 1 rfl
          have bd := blk_frozen ab.out 0
          have be := blk_frozen ab.out 1
          have p129 : 0 ≤ (aa : Int) := of_decide_eq_true ah_
          have q129 : aa < (l0_1.length : Int) := of_decide_eq_true ah_
          obtain ⟨ak, A129_0, c129_0, e129, ah, hl129_0, hi129_0⟩ := at_L1 am.out aa p129 q129
          cases e129
          replace ah := (HB.out.cell (World.block_lt_of_cell? w _ ah)).trans ah
          have aK := am_ hi129_0
          have aL := am_ hl129_0
          clear hi129_0 hl129_0
          replace p129 := eq_true p129
          replace q129 := eq_true q129
          go_wp2
          go_ret
          exact ⟨by first | rfl | (simp [errW_none, errW_some] <;> rfl) | (simp [*, errW_none, errW_some] <;> rfl), by exact zp4_0_ HB.out aj.out⟩
        ·rw [if_neg c11] at H
         exact absurd H (by simp)
       ·rw [if_neg c10] at H
        exact absurd H (by simp)
      ·rw [if_neg c9] at H
       have c9b0 : decide (aa < (l0_0.length : Int)) = false := decide_eq_false c9
       clear c9
       obtain rfl := Option.some.inj H
       simp only [Option.some.injEq, Prod.mk.injEq] at H
       obtain ⟨rfl⟩ := H
       go_wp2
       go_ret
       exact ⟨by first | rfl | (simp [errW_none, errW_some] <;> rfl) | (simp [*, errW_none, errW_some] <;> rfl), by exact zp4_0_ HB.out aj.out⟩
end Go.Proofs.Ytpgdhpnmagmooaa.P
end
section
namespace Go.Proofs.Ytpgdhpnmagmooaa.P
open Go.RowKit Go.Proofs.YtpgdhpnmagmooaaW.PrintWords Go.Proofs.YtpgdhpnmagmooaaW.PrintLast Go.Proofs.YtpgdhpnmagmooaaW.PrintMore
attribute [local go_sem] max2_int min2_int max_two min_two max_three min_three max_four min_four
set_option linter.unusedVariables false
set_option linter.unusedSimpArgs false
mutual
def spec_RunDfa.j0 : Nat → Int → ByteArray → Bool → List Bool → List (List Int) → Option (Int × Bool)
  | 0, _, _, _, _, _ => none
  | k + 1, x1, x2, x26, az, an => if x26 = true then (some (0, false)) else (spec_RunDfa.l0 k x2 x1 0 az an)
def spec_RunDfa.l0 : Nat → ByteArray → Int → Int → List Bool → List (List Int) → Option (Int × Bool)
  | 0, _, _, _, _, _ => none
  | k + 1, x2, x8, x9, az, an => if x9 < (x2.size : Int) then (if 0 ≤ x8 then (if x8 < (an.length : Int) then (if 0 ≤ x9 then ((spec_LetterIndex.f k (bt x2 x9)).bind fun ad => (if 0 ≤ ad then (if ad < ((rd_L1 an x8).length : Int) then (spec_RunDfa.l0 k x2 (rd (rd_L1 an x8) ad) (wrap64 (x9 + 1)) az an) else (none)) else (none))) else (none)) else (none)) else (none)) else (some (x8, true))
end
def spec_RunDfa.f (k : Nat) (l0_0 : List Bool) (l0_1 : List (List Int)) (a1 : Int) (a2 : ByteArray) : Option (Int × Bool) := (spec_IsValidDfa.f k l0_0 l0_1).bind fun aD => (if aD = true then ((spec_l1In.f a1 0 (wrap64 ((l0_0.length : Int) - 1))).bind fun ay => (if ay = true then ((spec_IsWord.f k a2).bind fun ah => (spec_RunDfa.j0 k a1 a2 (!ah) l0_0 l0_1)) else (spec_RunDfa.j0 k a1 a2 true l0_0 l0_1))) else (spec_RunDfa.j0 k a1 a2 true l0_0 l0_1))
theorem spec_RunDfa.mono_l : ∀ k, (∀ y0 y1 y2 y3 y4, LeO (spec_RunDfa.j0 k y0 y1 y2 y3 y4) (spec_RunDfa.j0 (k + 1) y0 y1 y2 y3 y4)) ∧ (∀ y0 y1 y2 y3 y4, LeO (spec_RunDfa.l0 k y0 y1 y2 y3 y4) (spec_RunDfa.l0 (k + 1) y0 y1 y2 y3 y4))
 | 0 => ⟨fun _ _ _ _ _ r h => by simp [spec_RunDfa.j0] at h, fun _ _ _ _ _ r h => by simp [spec_RunDfa.l0] at h⟩
 | k + 1 => by
  obtain ⟨ih0, ih1⟩ := spec_RunDfa.mono_l k
  refine ⟨?_, ?_⟩
  ·intro y0 y1 y2 y3 y4
   unfold spec_RunDfa.j0
   repeat' first
   | (with_reducible exact ih0 _ _ _ _ _)
   | (with_reducible exact ih1 _ _ _ _ _)
   | (with_reducible exact spec_IsValidDfa.mono _ _ _)
   | (with_reducible exact spec_IsWord.mono _ _)
   | (with_reducible exact spec_LetterIndex.mono _ _)
   | (with_reducible exact LeO.refl _)
   | (with_reducible exact LeO.none _)
   | (with_reducible refine LeO.ite ?_ ?_)
   | (with_reducible refine LeO.bind ?_ (fun _ => ?_))
   | exact ih0 _ _ _ _ _
   | exact ih1 _ _ _ _ _
   | exact spec_IsValidDfa.mono _ _ _
   | exact spec_IsWord.mono _ _
   | exact spec_LetterIndex.mono _ _
   | exact LeO.none _
   | refine LeO.ite ?_ ?_
   | refine LeO.bind ?_ (fun _ => ?_)
  ·intro y0 y1 y2 y3 y4
   unfold spec_RunDfa.l0
   repeat' first
   | (with_reducible exact ih0 _ _ _ _ _)
   | (with_reducible exact ih1 _ _ _ _ _)
   | (with_reducible exact spec_IsValidDfa.mono _ _ _)
   | (with_reducible exact spec_IsWord.mono _ _)
   | (with_reducible exact spec_LetterIndex.mono _ _)
   | (with_reducible exact LeO.refl _)
   | (with_reducible exact LeO.none _)
   | (with_reducible refine LeO.ite ?_ ?_)
   | (with_reducible refine LeO.bind ?_ (fun _ => ?_))
   | exact ih0 _ _ _ _ _
   | exact ih1 _ _ _ _ _
   | exact spec_IsValidDfa.mono _ _ _
   | exact spec_IsWord.mono _ _
   | exact spec_LetterIndex.mono _ _
   | exact LeO.none _
   | refine LeO.ite ?_ ?_
   | refine LeO.bind ?_ (fun _ => ?_)
theorem spec_RunDfa.mono : ∀ a0 a1 a2 a3 k, LeO (spec_RunDfa.f k a0 a1 a2 a3) (spec_RunDfa.f (k + 1) a0 a1 a2 a3) := by
 intro a0 a1 a2 a3 k
 obtain ⟨ih0, ih1⟩ := spec_RunDfa.mono_l k
 unfold spec_RunDfa.f
 repeat' first
   | (with_reducible exact ih0 _ _ _ _ _)
   | (with_reducible exact ih1 _ _ _ _ _)
   | (with_reducible exact spec_IsValidDfa.mono _ _ _)
   | (with_reducible exact spec_IsWord.mono _ _)
   | (with_reducible exact spec_LetterIndex.mono _ _)
   | (with_reducible exact LeO.refl _)
   | (with_reducible exact LeO.none _)
   | (with_reducible refine LeO.ite ?_ ?_)
   | (with_reducible refine LeO.bind ?_ (fun _ => ?_))
   | exact ih0 _ _ _ _ _
   | exact ih1 _ _ _ _ _
   | exact spec_IsValidDfa.mono _ _ _
   | exact spec_IsWord.mono _ _
   | exact spec_LetterIndex.mono _ _
   | exact LeO.none _
   | refine LeO.ite ?_ ?_
   | refine LeO.bind ?_ (fun _ => ?_)
theorem zp18_0_ {p q g1 : Prop} (h : p) (h1 : g1) (c : p → g1 → q := by intro h_ h1_; repeat (first | (with_reducible first | exact h_ | apply below_alloc | apply pw_below_drewN | apply below_drew1 | refine below_set ?_ h1_) | exact h_)) : q := c h h1
set_option maxHeartbeats 8000000 in
set_option maxRecDepth 100000 in
theorem spec_RunDfa.calls (k : Nat) (A0_0 : Option Addr) (c0_0 : Nat) (l0_0 : List Bool) (A0_1 : Option Addr) (c0_1 : Nat) (l0_1 : List (List Int)) (a1 : Int) (a2 : ByteArray) (r1 : Int) (r2 : Bool) (w : World) (hr0_0 : Kd.C Kd.bool w A0_0 l0_0.length l0_0) (hc0_0 : l0_0.length ≤ c0_0) (hr0_1 : Kd.C (Kd.slice 3 (Kd.int .i64)) w A0_1 l0_1.length l0_1) (hc0_1 : l0_1.length ≤ c0_1) (h : spec_RunDfa.f k l0_0 l0_1 a1 a2 = some (r1, r2)) :
  Calls Try.prog 57 #[.agg #[.slice A0_0 l0_0.length c0_0, .slice A0_1 l0_1.length c0_1], .int .i64 a1, .string a2] w fun e w' => e = .returned (.tuple #[.int .i64 r1, .bool r2]) ∧ Below w.heap.size w w' := by
 have hu28 := Try.underlying28
 have ak := am_ hr0_0
 have al := am_ hc0_0
 clear hr0_0 hc0_0
 have ai := am_ hr0_1
 have am := am_ hc0_1
 clear hr0_1 hc0_1
 have HB := am_ (Below.refl w.heap.size w)
 have H : ((spec_IsValidDfa.f k l0_0 l0_1).bind fun aD => (if aD = true then ((spec_l1In.f a1 0 (wrap64 ((l0_0.length : Int) - 1))).bind fun ay => (if ay = true then ((spec_IsWord.f k a2).bind fun ah => (spec_RunDfa.j0 k a1 a2 (!ah) l0_0 l0_1)) else (spec_RunDfa.j0 k a1 a2 true l0_0 l0_1))) else (spec_RunDfa.j0 k a1 a2 true l0_0 l0_1))) = some (r1, r2) := h
 clear h
 have HC4 := am_ H
 clear H
 go_enter Try.func57, Try.ntmps57
 go_upto_region 1 with (first | ((with_reducible refine gate_dst (N := 3) rfl ?_); (try (refine gate_guard (by rfl) ?_; dsimp only)); refine box_event ?hg (N := 3) ?hd (cs := #[.slice A0_0 l0_0.length c0_0, .slice A0_1 l0_1.length c0_1]) (t := 28) ?hr ?_; (case hd => rfl); (case hg => rfl); (case hr => first | (go_simp; done) | (go_simp; rfl)); intro aj hg w5 hbox hb; replace aa := am_ (hbox); replace aQ := am_ ((by rw [hg]; exact (below_size (b0_ HB.out)) : w.heap.size ≤ aj)); replace ab := am_ ((by rw [hg]; exact (below_size (b0_ HB.out)) : w.heap.size ≤ aj)); replace HB := am_ (below_step (b0_ HB.out) hb); clear hb hbox hg))
 repeat (go_quiet (first | ((with_reducible refine gate_dst (N := 3) rfl ?_); (try (refine gate_guard (by rfl) ?_; dsimp only)); refine box_event ?hg (N := 3) ?hd (cs := #[.slice A0_0 l0_0.length c0_0, .slice A0_1 l0_1.length c0_1]) (t := 28) ?hr ?_; (case hd => rfl); (case hg => rfl); (case hr => first | (go_simp; done) | (go_simp; rfl)); intro aj hg w5 hbox hb; replace aa := am_ (hbox); replace aQ := am_ ((by rw [hg]; exact (below_size (b0_ HB.out)) : w.heap.size ≤ aj)); replace ab := am_ ((by rw [hg]; exact (below_size (b0_ HB.out)) : w.heap.size ≤ aj)); replace HB := am_ (below_step (b0_ HB.out) hb); clear hb hbox hg)); go_upto_region 1 with (first | ((with_reducible refine gate_dst (N := 3) rfl ?_); (try (refine gate_guard (by rfl) ?_; dsimp only)); refine box_event ?hg (N := 3) ?hd (cs := #[.slice A0_0 l0_0.length c0_0, .slice A0_1 l0_1.length c0_1]) (t := 28) ?hr ?_; (case hd => rfl); (case hg => rfl); (case hr => first | (go_simp; done) | (go_simp; rfl)); intro aj hg w5 hbox hb; replace aa := am_ (hbox); replace aQ := am_ ((by rw [hg]; exact (below_size (b0_ HB.out)) : w.heap.size ≤ aj)); replace ab := am_ ((by rw [hg]; exact (below_size (b0_ HB.out)) : w.heap.size ≤ aj)); replace HB := am_ (below_step (b0_ HB.out) hb); clear hb hbox hg)))
 (try simp only [Act.put, List.setIfInBounds_toArray, List.set_cons_zero, List.set_cons_succ])
 go_cut [26] (fun v26 wc => ∃ (kq : Nat) (aC : Bool), v26 = .bool aC ∧ Aside0 (spec_RunDfa.j0 kq a1 a2 aC l0_0 l0_1 = some (r1, r2)) ∧ Aside0 (kq ≤ k) ∧ Aside0 (wc.heap[aj]? = some (.cells #[(.slice A0_0 l0_0.length c0_0), (.slice A0_1 l0_1.length c0_1)] 28 (0, 0))) ∧ Aside0 (Below w.heap.size w wc))
 case first =>
  have H := HC4.out
  clear HC4
  replace H := Option.bind_eq_some_iff.mp H
  obtain ⟨aD, A60, H⟩ := H
  have A6 := am_ A60
  clear A60
  by_cases c7 : aD = true
  ·subst c7
   have H1 : ((spec_l1In.f a1 0 (wrap64 ((l0_0.length : Int) - 1))).bind fun ay => (if ay = true then ((spec_IsWord.f k a2).bind fun ah => (spec_RunDfa.j0 k a1 a2 (!ah) l0_0 l0_1)) else (spec_RunDfa.j0 k a1 a2 true l0_0 l0_1))) = some (r1, r2) := by rw [if_pos rfl] at H; exact H
   clear H
   have H := H1
   clear H1
   replace H := Option.bind_eq_some_iff.mp H
   obtain ⟨ay, A80, H⟩ := H
   have A8 := am_ A80
   clear A80
   by_cases c9 : ay = true
   ·subst c9
    have H1 : ((spec_IsWord.f k a2).bind fun ah => (spec_RunDfa.j0 k a1 a2 (!ah) l0_0 l0_1)) = some (r1, r2) := by rw [if_pos rfl] at H; exact H
    clear H
    have H := H1
    clear H1
    replace H := Option.bind_eq_some_iff.mp H
    obtain ⟨ah, aS, H⟩ := H
    replace H : (spec_RunDfa.j0 k a1 a2 (!ah) l0_0 l0_1) = some (r1, r2) := H
    have A10 := am_ aS
    clear aS
    have H' := am_ H
    clear H
    have aE := ck_ (v := (.slice A0_0 l0_0.length c0_0)) aa 0 rfl
    have aF := ck_ (v := (.slice A0_1 l0_1.length c0_1)) aa 1 rfl
    have aG := blk_frozen aa.out 0
    have aH := blk_frozen aa.out 1
    go_wp2_with (first | (go_at_call 24; (with_reducible refine (spec_IsValidDfa.calls k _ _ l0_0 _ _ l0_1 true _ ?side1 ?side2 ?side3 ?side4 A6.out).mono ?_); (case side1 => exact rc_ (Kd.C_below ak.out HB.out)); (case side2 => exact al.out); (case side3 => exact rc_ (Kd.C_below ai.out HB.out)); (case side4 => exact am.out); rintro e w12 ⟨rfl, hb⟩; have n0_ := am_ (blk_below (rb_ aa.out) hb); have n1_ := am_ (below_step (b1_ HB.out ab.out) hb); clear aa; clear HB; have aa := n0_; have HB := n1_; clear n0_ n1_; (try clear hb); (try clear hb2); (try clear hk); (try clear hi); have ao := ck_ (v := (.slice A0_0 l0_0.length c0_0)) aa 0 rfl; have ap := ck_ (v := (.slice A0_1 l0_1.length c0_1)) aa 1 rfl; have aq := blk_frozen aa.out 0; have ar := blk_frozen aa.out 1) | (go_at_call 47; (with_reducible refine (spec_l1In.calls a1 0 (wrap64 ((l0_0.length : Int) - 1)) true _ A8.out).mono ?_); rintro e w' ⟨rfl, ⟨nd, rfl⟩⟩; (try first | exact ⟨rfl, _, World.drewN_drewN _ _ _⟩ | exact ⟨rfl, _, Eq.trans (World.drewN_drewN _ _ _) (congrArg (World.drewN _) (Nat.add_assoc _ _ _))⟩)) | (go_at_call 63; (with_reducible refine (spec_IsWord.calls k a2 ah _ A10.out).mono ?_); rintro e w' ⟨rfl, ⟨nd, rfl⟩⟩; (try first | exact ⟨rfl, _, World.drewN_drewN _ _ _⟩ | exact ⟨rfl, _, Eq.trans (World.drewN_drewN _ _ _) (congrArg (World.drewN _) (Nat.add_assoc _ _ _))⟩)))
    repeat (go_quiet (first | (go_at_call 24; (with_reducible refine (spec_IsValidDfa.calls k _ _ l0_0 _ _ l0_1 true _ ?side1 ?side2 ?side3 ?side4 A6.out).mono ?_); (case side1 => exact rc_ (Kd.C_below ak.out HB.out)); (case side2 => exact al.out); (case side3 => exact rc_ (Kd.C_below ai.out HB.out)); (case side4 => exact am.out); rintro e w12 ⟨rfl, hb⟩; have n0_ := am_ (blk_below (rb_ aa.out) hb); have n1_ := am_ (below_step (b1_ HB.out ab.out) hb); clear aa; clear HB; have aa := n0_; have HB := n1_; clear n0_ n1_; (try clear hb); (try clear hb2); (try clear hk); (try clear hi); have ao := ck_ (v := (.slice A0_0 l0_0.length c0_0)) aa 0 rfl; have ap := ck_ (v := (.slice A0_1 l0_1.length c0_1)) aa 1 rfl; have aq := blk_frozen aa.out 0; have ar := blk_frozen aa.out 1) | (go_at_call 47; (with_reducible refine (spec_l1In.calls a1 0 (wrap64 ((l0_0.length : Int) - 1)) true _ A8.out).mono ?_); rintro e w' ⟨rfl, ⟨nd, rfl⟩⟩; (try first | exact ⟨rfl, _, World.drewN_drewN _ _ _⟩ | exact ⟨rfl, _, Eq.trans (World.drewN_drewN _ _ _) (congrArg (World.drewN _) (Nat.add_assoc _ _ _))⟩)) | (go_at_call 63; (with_reducible refine (spec_IsWord.calls k a2 ah _ A10.out).mono ?_); rintro e w' ⟨rfl, ⟨nd, rfl⟩⟩; (try first | exact ⟨rfl, _, World.drewN_drewN _ _ _⟩ | exact ⟨rfl, _, Eq.trans (World.drewN_drewN _ _ _) (congrArg (World.drewN _) (Nat.add_assoc _ _ _))⟩))); try go_wp2_with (first | (go_at_call 24; (with_reducible refine (spec_IsValidDfa.calls k _ _ l0_0 _ _ l0_1 true _ ?side1 ?side2 ?side3 ?side4 A6.out).mono ?_); (case side1 => exact rc_ (Kd.C_below ak.out HB.out)); (case side2 => exact al.out); (case side3 => exact rc_ (Kd.C_below ai.out HB.out)); (case side4 => exact am.out); rintro e w12 ⟨rfl, hb⟩; have n0_ := am_ (blk_below (rb_ aa.out) hb); have n1_ := am_ (below_step (b1_ HB.out ab.out) hb); clear aa; clear HB; have aa := n0_; have HB := n1_; clear n0_ n1_; (try clear hb); (try clear hb2); (try clear hk); (try clear hi); have ao := ck_ (v := (.slice A0_0 l0_0.length c0_0)) aa 0 rfl; have ap := ck_ (v := (.slice A0_1 l0_1.length c0_1)) aa 1 rfl; have aq := blk_frozen aa.out 0; have ar := blk_frozen aa.out 1) | (go_at_call 47; (with_reducible refine (spec_l1In.calls a1 0 (wrap64 ((l0_0.length : Int) - 1)) true _ A8.out).mono ?_); rintro e w' ⟨rfl, ⟨nd, rfl⟩⟩; (try first | exact ⟨rfl, _, World.drewN_drewN _ _ _⟩ | exact ⟨rfl, _, Eq.trans (World.drewN_drewN _ _ _) (congrArg (World.drewN _) (Nat.add_assoc _ _ _))⟩)) | (go_at_call 63; (with_reducible refine (spec_IsWord.calls k a2 ah _ A10.out).mono ?_); rintro e w' ⟨rfl, ⟨nd, rfl⟩⟩; (try first | exact ⟨rfl, _, World.drewN_drewN _ _ _⟩ | exact ⟨rfl, _, Eq.trans (World.drewN_drewN _ _ _) (congrArg (World.drewN _) (Nat.add_assoc _ _ _))⟩))))
    go_meet
    case rel => exact ⟨_, (!ah), (by first | rfl | (simp; done) | (simp [*]; done)), H', ⟨by first | omega | exact Nat.le_refl _⟩, ⟨by refine rb_ ?_; exact aa.out⟩, ⟨by exact zp18_0_ HB.out ab.out⟩⟩
   ·replace c9 := Bool.eq_false_iff.mpr c9
    subst c9
    have H1 : (spec_RunDfa.j0 k a1 a2 true l0_0 l0_1) = some (r1, r2) := by rw [if_neg (show ¬ (false = true) by decide)] at H; exact H
    clear H
    have H := H1
    clear H1
    have H' := am_ H
    clear H
    have aI := ck_ (v := (.slice A0_0 l0_0.length c0_0)) aa 0 rfl
    have aJ := ck_ (v := (.slice A0_1 l0_1.length c0_1)) aa 1 rfl
    have aK := blk_frozen aa.out 0
    have aL := blk_frozen aa.out 1
    go_wp2_with (first | (go_at_call 24; (with_reducible refine (spec_IsValidDfa.calls k _ _ l0_0 _ _ l0_1 true _ ?side1 ?side2 ?side3 ?side4 A6.out).mono ?_); (case side1 => exact rc_ (Kd.C_below ak.out HB.out)); (case side2 => exact al.out); (case side3 => exact rc_ (Kd.C_below ai.out HB.out)); (case side4 => exact am.out); rintro e w15 ⟨rfl, hb⟩; have n0_ := am_ (blk_below (rb_ aa.out) hb); have n1_ := am_ (below_step (b1_ HB.out ab.out) hb); clear aa; clear HB; have aa := n0_; have HB := n1_; clear n0_ n1_; (try clear hb); (try clear hb2); (try clear hk); (try clear hi); have au := ck_ (v := (.slice A0_0 l0_0.length c0_0)) aa 0 rfl; have av := ck_ (v := (.slice A0_1 l0_1.length c0_1)) aa 1 rfl; have aw := blk_frozen aa.out 0; have ax := blk_frozen aa.out 1) | (go_at_call 47; (with_reducible refine (spec_l1In.calls a1 0 (wrap64 ((l0_0.length : Int) - 1)) false _ A8.out).mono ?_); rintro e w' ⟨rfl, ⟨nd, rfl⟩⟩; (try first | exact ⟨rfl, _, World.drewN_drewN _ _ _⟩ | exact ⟨rfl, _, Eq.trans (World.drewN_drewN _ _ _) (congrArg (World.drewN _) (Nat.add_assoc _ _ _))⟩)))
    repeat (go_quiet (first | (go_at_call 24; (with_reducible refine (spec_IsValidDfa.calls k _ _ l0_0 _ _ l0_1 true _ ?side1 ?side2 ?side3 ?side4 A6.out).mono ?_); (case side1 => exact rc_ (Kd.C_below ak.out HB.out)); (case side2 => exact al.out); (case side3 => exact rc_ (Kd.C_below ai.out HB.out)); (case side4 => exact am.out); rintro e w15 ⟨rfl, hb⟩; have n0_ := am_ (blk_below (rb_ aa.out) hb); have n1_ := am_ (below_step (b1_ HB.out ab.out) hb); clear aa; clear HB; have aa := n0_; have HB := n1_; clear n0_ n1_; (try clear hb); (try clear hb2); (try clear hk); (try clear hi); have au := ck_ (v := (.slice A0_0 l0_0.length c0_0)) aa 0 rfl; have av := ck_ (v := (.slice A0_1 l0_1.length c0_1)) aa 1 rfl; have aw := blk_frozen aa.out 0; have ax := blk_frozen aa.out 1) | (go_at_call 47; (with_reducible refine (spec_l1In.calls a1 0 (wrap64 ((l0_0.length : Int) - 1)) false _ A8.out).mono ?_); rintro e w' ⟨rfl, ⟨nd, rfl⟩⟩; (try first | exact ⟨rfl, _, World.drewN_drewN _ _ _⟩ | exact ⟨rfl, _, Eq.trans (World.drewN_drewN _ _ _) (congrArg (World.drewN _) (Nat.add_assoc _ _ _))⟩))); try go_wp2_with (first | (go_at_call 24; (with_reducible refine (spec_IsValidDfa.calls k _ _ l0_0 _ _ l0_1 true _ ?side1 ?side2 ?side3 ?side4 A6.out).mono ?_); (case side1 => exact rc_ (Kd.C_below ak.out HB.out)); (case side2 => exact al.out); (case side3 => exact rc_ (Kd.C_below ai.out HB.out)); (case side4 => exact am.out); rintro e w15 ⟨rfl, hb⟩; have n0_ := am_ (blk_below (rb_ aa.out) hb); have n1_ := am_ (below_step (b1_ HB.out ab.out) hb); clear aa; clear HB; have aa := n0_; have HB := n1_; clear n0_ n1_; (try clear hb); (try clear hb2); (try clear hk); (try clear hi); have au := ck_ (v := (.slice A0_0 l0_0.length c0_0)) aa 0 rfl; have av := ck_ (v := (.slice A0_1 l0_1.length c0_1)) aa 1 rfl; have aw := blk_frozen aa.out 0; have ax := blk_frozen aa.out 1) | (go_at_call 47; (with_reducible refine (spec_l1In.calls a1 0 (wrap64 ((l0_0.length : Int) - 1)) false _ A8.out).mono ?_); rintro e w' ⟨rfl, ⟨nd, rfl⟩⟩; (try first | exact ⟨rfl, _, World.drewN_drewN _ _ _⟩ | exact ⟨rfl, _, Eq.trans (World.drewN_drewN _ _ _) (congrArg (World.drewN _) (Nat.add_assoc _ _ _))⟩))))
    go_meet
    case rel => exact ⟨_, (true), (by first | rfl | (simp; done) | (simp [*]; done)), H', ⟨by first | omega | exact Nat.le_refl _⟩, ⟨by refine rb_ ?_; exact aa.out⟩, ⟨by exact zp18_0_ HB.out ab.out⟩⟩
  ·replace c7 := Bool.eq_false_iff.mpr c7
   subst c7
   have H1 : (spec_RunDfa.j0 k a1 a2 true l0_0 l0_1) = some (r1, r2) := by rw [if_neg (show ¬ (false = true) by decide)] at H; exact H
   clear H
   have H := H1
   clear H1
   have H' := am_ H
   clear H
   have aM := ck_ (v := (.slice A0_0 l0_0.length c0_0)) aa 0 rfl
   have aN := ck_ (v := (.slice A0_1 l0_1.length c0_1)) aa 1 rfl
   have aO := blk_frozen aa.out 0
   have aP := blk_frozen aa.out 1
   go_wp2_with (first | (go_at_call 24; (with_reducible refine (spec_IsValidDfa.calls k _ _ l0_0 _ _ l0_1 false _ ?side1 ?side2 ?side3 ?side4 A6.out).mono ?_); (case side1 => exact rc_ (Kd.C_below ak.out HB.out)); (case side2 => exact al.out); (case side3 => exact rc_ (Kd.C_below ai.out HB.out)); (case side4 => exact am.out); rintro e w18 ⟨rfl, hb⟩; have n0_ := am_ (blk_below (rb_ aa.out) hb); have n1_ := am_ (below_step (b1_ HB.out ab.out) hb); clear aa; clear HB; have aa := n0_; have HB := n1_; clear n0_ n1_; (try clear hb); (try clear hb2); (try clear hk); (try clear hi)))
   repeat (go_quiet (first | (go_at_call 24; (with_reducible refine (spec_IsValidDfa.calls k _ _ l0_0 _ _ l0_1 false _ ?side1 ?side2 ?side3 ?side4 A6.out).mono ?_); (case side1 => exact rc_ (Kd.C_below ak.out HB.out)); (case side2 => exact al.out); (case side3 => exact rc_ (Kd.C_below ai.out HB.out)); (case side4 => exact am.out); rintro e w18 ⟨rfl, hb⟩; have n0_ := am_ (blk_below (rb_ aa.out) hb); have n1_ := am_ (below_step (b1_ HB.out ab.out) hb); clear aa; clear HB; have aa := n0_; have HB := n1_; clear n0_ n1_; (try clear hb); (try clear hb2); (try clear hk); (try clear hi))); try go_wp2_with (first | (go_at_call 24; (with_reducible refine (spec_IsValidDfa.calls k _ _ l0_0 _ _ l0_1 false _ ?side1 ?side2 ?side3 ?side4 A6.out).mono ?_); (case side1 => exact rc_ (Kd.C_below ak.out HB.out)); (case side2 => exact al.out); (case side3 => exact rc_ (Kd.C_below ai.out HB.out)); (case side4 => exact am.out); rintro e w18 ⟨rfl, hb⟩; have n0_ := am_ (blk_below (rb_ aa.out) hb); have n1_ := am_ (below_step (b1_ HB.out ab.out) hb); clear aa; clear HB; have aa := n0_; have HB := n1_; clear n0_ n1_; (try clear hb); (try clear hb2); (try clear hk); (try clear hi))))
   go_meet
   case rel => exact ⟨_, (true), (by first | rfl | (simp; done) | (simp [*]; done)), H', ⟨by first | omega | exact Nat.le_refl _⟩, ⟨by refine rb_ ?_; exact aa.out⟩, ⟨by exact zp18_0_ HB.out ab.out⟩⟩
 case rest =>
  clear HC4
  try clear p2
  try clear c5
  try clear p6
  try clear c7
  try clear c9
  try clear aE
  try clear aF
  try clear ao
  try clear ap
  try clear aI
  try clear aJ
  try clear au
  try clear av
  try clear aM
  try clear aN
  try clear aG
  try clear aH
  try clear aq
  try clear ar
  try clear aK
  try clear aL
  try clear aw
  try clear ax
  try clear aO
  try clear aP
  obtain ⟨kq, aC, rfl, HA, HJ3, aa, HB⟩ := hcut
  cases kq with
  | zero => exact absurd HA.out (by simp [spec_RunDfa.j0])
  | succ kj3 =>
   have H := HA.out
   clear HA
   simp only [spec_RunDfa.j0] at H
   by_cases c19 : aC = true
   ·subst c19
    have H1 : (some (0, false)) = some (r1, r2) := by rw [if_pos rfl] at H; exact H
    clear H
    have H := H1
    clear H1
    simp only [Option.some.injEq, Prod.mk.injEq] at H
    obtain ⟨rfl, rfl⟩ := H
    go_wp2
    repeat (go_quiet (fail); try go_wp2)
    go_ret2
    exact ⟨by first | rfl | (simp [errW_none, errW_some] <;> rfl) | (simp [*, errW_none, errW_some] <;> rfl), by exact zp18_0_ HB.out ab.out⟩
   ·replace c19 := Bool.eq_false_iff.mpr c19
    subst c19
    have H1 : (spec_RunDfa.l0 kj3 a2 a1 0 l0_0 l0_1) = some (r1, r2) := by rw [if_neg (show ¬ (false = true) by decide)] at H; exact H
    clear H
    have H := H1
    clear H1
    have H' := am_ H
    clear H
    go_wp2
    repeat (go_quiet (fail); try go_wp2)
    go_loopg [8, 9] kj3 (fun kq v8 v9 w' => ∃ (af : Int) (ag : Int), v8 = .int .i64 af ∧ v9 = .int .i64 ag ∧ Aside0 (spec_RunDfa.l0 kq a2 af ag l0_0 l0_1 = some (r1, r2)) ∧ Aside0 (kq ≤ kj3) ∧ Aside0 (w'.heap[aj]? = some (.cells #[(.slice A0_0 l0_0.length c0_0), (.slice A0_1 l0_1.length c0_1)] 28 (0, 0))) ∧ Aside0 (Below w.heap.size w w'))
    case atStart => exact ⟨(a1), (0), (by first | rfl | (simp; done) | (simp [*]; done)), (by first | rfl | (simp; done) | (simp [*]; done)), H', ⟨Nat.le_refl _⟩, ⟨by refine rb_ ?_; exact aa.out⟩, ⟨by exact zp18_0_ HB.out ab.out⟩⟩
    case round =>
     clear H'
     try clear c1
     try clear p2
     try clear c5
     try clear p6
     try clear c7
     try clear c9
     try clear c19
     try clear aE
     try clear aF
     try clear ao
     try clear ap
     try clear aI
     try clear aJ
     try clear au
     try clear av
     try clear aM
     try clear aN
     try clear aG
     try clear aH
     try clear aq
     try clear ar
     try clear aK
     try clear aL
     try clear aw
     try clear ax
     try clear aO
     try clear aP
     try clear p2
     try clear p6
     obtain ⟨af, ag, rfl, rfl, HA, HK2, aa, HB⟩ := hrel
     cases gk with
     | zero => exact absurd HA.out (by simp [spec_RunDfa.l0])
     | succ k2 =>
      have H := HA.out
      clear HA
      simp only [spec_RunDfa.l0] at H
      by_cases c20 : ag < (a2.size : Int)
      ·rw [if_pos c20] at H
       have c20b0 : decide (ag < (a2.size : Int)) = true := decide_eq_true c20
       clear c20
       by_cases c21 : 0 ≤ af
       ·rw [if_pos c21] at H
        have c21b0 : decide (0 ≤ af) = true := decide_eq_true c21
        clear c21
        by_cases c22 : af < (l0_1.length : Int)
        ·rw [if_pos c22] at H
         have c22b0 : decide (af < (l0_1.length : Int)) = true := decide_eq_true c22
         clear c22
         by_cases c23 : 0 ≤ ag
         ·rw [if_pos c23] at H
          have c23b0 : decide (0 ≤ ag) = true := decide_eq_true c23
          clear c23
          replace H := Option.bind_eq_some_iff.mp H
          obtain ⟨ad, aT, H⟩ := H
          have A25 := am_ aT
          clear aT
          by_cases c26 : 0 ≤ ad
          ·rw [if_pos c26] at H
           have c26b0 : decide (0 ≤ ad) = true := decide_eq_true c26
           clear c26
           by_cases c27 : ad < ((rd_L1 l0_1 af).length : Int)
           ·rw [if_pos c27] at H
            have c27b0 : decide (ad < ((rd_L1 l0_1 af).length : Int)) = true := decide_eq_true c27
            clear c27
            have H' := am_ H
            clear H
            have aU := ck_ (v := (.slice A0_0 l0_0.length c0_0)) aa 0 rfl
            have aV := ck_ (v := (.slice A0_1 l0_1.length c0_1)) aa 1 rfl
            have aW := blk_frozen aa.out 0
            have aX := blk_frozen aa.out 1
            have p366 : 0 ≤ (af : Int) := of_decide_eq_true ah_
            have q366 : af < (l0_1.length : Int) := of_decide_eq_true ah_
            obtain ⟨aZ, A366_0, c366_0, e366, aA, hl366_0, hi366_0⟩ := at_L1 ai.out af p366 q366
            cases e366
            replace aA := (HB.out.cell (World.block_lt_of_cell? w _ aA)).trans aA
            have aB := am_ hi366_0
            have aY := am_ hl366_0
            clear hi366_0 hl366_0
            replace p366 := eq_true p366
            replace q366 := eq_true q366
            have p24 : 0 ≤ (ag : Int) := of_decide_eq_true ah_
            have q24 : ag < (a2.size : Int) := of_decide_eq_true ah_
            have hx24 := bt_at a2 ag
            replace p24 := eq_true p24
            replace q24 := eq_true q24
            go_wp2_with (first | (go_at_call 64; (with_reducible refine (spec_LetterIndex.calls k2 (bt a2 ag) ad _ A25.out).mono ?_); rintro e w' ⟨rfl, ⟨nd, rfl⟩⟩; (try first | exact ⟨rfl, _, World.drewN_drewN _ _ _⟩ | exact ⟨rfl, _, Eq.trans (World.drewN_drewN _ _ _) (congrArg (World.drewN _) (Nat.add_assoc _ _ _))⟩); have p368 : 0 ≤ (ad : Int) := of_decide_eq_true ah_; have q368 : ad < ((rd_L1 l0_1 af).length : Int) := of_decide_eq_true ah_; obtain ⟨aR, e368, ae⟩ := Kd.at_int aB.out ad p368 q368; cases e368; replace ae := (HB.out.cell (World.block_lt_of_cell? w _ ae)).trans ae; replace p368 := eq_true p368; replace q368 := eq_true q368))
            repeat (go_quiet (first | (go_at_call 64; (with_reducible refine (spec_LetterIndex.calls k2 (bt a2 ag) ad _ A25.out).mono ?_); rintro e w' ⟨rfl, ⟨nd, rfl⟩⟩; (try first | exact ⟨rfl, _, World.drewN_drewN _ _ _⟩ | exact ⟨rfl, _, Eq.trans (World.drewN_drewN _ _ _) (congrArg (World.drewN _) (Nat.add_assoc _ _ _))⟩); have p368 : 0 ≤ (ad : Int) := of_decide_eq_true ah_; have q368 : ad < ((rd_L1 l0_1 af).length : Int) := of_decide_eq_true ah_; obtain ⟨aR, e368, ae⟩ := Kd.at_int aB.out ad p368 q368; cases e368; replace ae := (HB.out.cell (World.block_lt_of_cell? w _ ae)).trans ae; replace p368 := eq_true p368; replace q368 := eq_true q368)); try go_wp2_with (first | (go_at_call 64; (with_reducible refine (spec_LetterIndex.calls k2 (bt a2 ag) ad _ A25.out).mono ?_); rintro e w' ⟨rfl, ⟨nd, rfl⟩⟩; (try first | exact ⟨rfl, _, World.drewN_drewN _ _ _⟩ | exact ⟨rfl, _, Eq.trans (World.drewN_drewN _ _ _) (congrArg (World.drewN _) (Nat.add_assoc _ _ _))⟩); have p368 : 0 ≤ (ad : Int) := of_decide_eq_true ah_; have q368 : ad < ((rd_L1 l0_1 af).length : Int) := of_decide_eq_true ah_; obtain ⟨aR, e368, ae⟩ := Kd.at_int aB.out ad p368 q368; cases e368; replace ae := (HB.out.cell (World.block_lt_of_cell? w _ ae)).trans ae; replace p368 := eq_true p368; replace q368 := eq_true q368)))
            go_roundg k2
            case measure => have := HJ3.out; have := HK2.out; omega
            case rel => exact ⟨(rd (rd_L1 l0_1 af) ad), (wrap64 (ag + 1)), (by first | rfl | (simp; done) | (simp [*]; done)), (by first | rfl | (simp; done) | (simp [*]; done)), H', ⟨by have := HJ3.out; have := HK2.out; omega⟩, ⟨by refine rb_ ?_; exact aa.out⟩, ⟨by exact zp18_0_ HB.out ab.out⟩⟩
           ·rw [if_neg c27] at H
            exact absurd H (by simp)
          ·rw [if_neg c26] at H
           exact absurd H (by simp)
         ·rw [if_neg c23] at H
          exact absurd H (by simp)
        ·rw [if_neg c22] at H
         exact absurd H (by simp)
       ·rw [if_neg c21] at H
        exact absurd H (by simp)
      ·rw [if_neg c20] at H
       have c20b0 : decide (ag < (a2.size : Int)) = false := decide_eq_false c20
       clear c20
       simp only [Option.some.injEq, Prod.mk.injEq] at H
       obtain ⟨rfl, rfl⟩ := H
       go_wp2
       repeat (go_quiet (fail); try go_wp2)
       go_ret2
       exact ⟨by first | rfl | (simp [errW_none, errW_some] <;> rfl) | (simp [*, errW_none, errW_some] <;> rfl), by exact zp18_0_ HB.out ab.out⟩
end Go.Proofs.Ytpgdhpnmagmooaa.P
end
section
namespace Go.Proofs.Ytpgdhpnmagmooaa.P
open Go.RowKit Go.Proofs.YtpgdhpnmagmooaaW.PrintWords Go.Proofs.YtpgdhpnmagmooaaW.PrintLast Go.Proofs.YtpgdhpnmagmooaaW.PrintMore
attribute [local go_sem] max2_int min2_int max_two min_two max_three min_three max_four min_four
set_option linter.unusedVariables false
set_option linter.unusedSimpArgs false
def spec_AcceptsWord.f (k : Nat) (l0_0 : List Bool) (l0_1 : List (List Int)) (a1 : ByteArray) : Option (Bool) := (spec_RunDfa.f k l0_0 l0_1 0 a1).bind fun bt370 => (if bt370.2 = true then (if 0 ≤ bt370.1 then (if bt370.1 < (l0_0.length : Int) then (some (rdOf false l0_0 bt370.1)) else (none)) else (none)) else (some false))
theorem spec_AcceptsWord.mono : ∀ a0 a1 a2 k, LeO (spec_AcceptsWord.f k a0 a1 a2) (spec_AcceptsWord.f (k + 1) a0 a1 a2) := by
  intro a0 a1 a2 k
  unfold spec_AcceptsWord.f
  repeat' first
      | (with_reducible exact spec_RunDfa.mono _ _ _ _ _)
      | (with_reducible exact LeO.refl _)
      | (with_reducible exact LeO.none _)
      | (with_reducible refine LeO.ite ?_ ?_)
      | (with_reducible refine LeO.bind ?_ (fun _ => ?_))
      | exact spec_RunDfa.mono _ _ _ _ _
      | exact LeO.none _
      | refine LeO.ite ?_ ?_
      | refine LeO.bind ?_ (fun _ => ?_)
theorem zp19_0_ {p q g1 : Prop} (h : p) (h1 : g1) (c : p → g1 → q := by intro h_ h1_; repeat (first | (with_reducible first | exact h_ | apply below_alloc | apply pw_below_drewN | apply below_drew1 | refine below_set ?_ h1_) | exact h_)) : q := c h h1
theorem zp19_1_ {p q : Prop} (h : p) (c : p → q := by intro h_; repeat (first | (with_reducible first | exact h_ | apply below_alloc | apply pw_below_drewN | apply below_drew1) | exact h_)) : q := c h
set_option maxHeartbeats 8000000 in
set_option maxRecDepth 100000 in
theorem spec_AcceptsWord.calls (k : Nat) (A0_0 : Option Addr) (c0_0 : Nat) (l0_0 : List Bool) (A0_1 : Option Addr) (c0_1 : Nat) (l0_1 : List (List Int)) (a1 : ByteArray) (r : Bool) (w : World) (hr0_0 : Kd.C Kd.bool w A0_0 l0_0.length l0_0) (hc0_0 : l0_0.length ≤ c0_0) (hr0_1 : Kd.C (Kd.slice 3 (Kd.int .i64)) w A0_1 l0_1.length l0_1) (hc0_1 : l0_1.length ≤ c0_1) (h : spec_AcceptsWord.f k l0_0 l0_1 a1 = some r) :
    Calls Try.prog 40 #[.agg #[.slice A0_0 l0_0.length c0_0, .slice A0_1 l0_1.length c0_1], .string a1] w fun e w' => e = .returned (.bool r) ∧ Below w.heap.size w w' := by
  have hu28 := Try.underlying28
  have aw := am_ hr0_0
  have az := am_ hc0_0
  clear hr0_0 hc0_0
  have aA := am_ hr0_1
  have aC := am_ hc0_1
  clear hr0_1 hc0_1
  have HB := am_ (Below.refl w.heap.size w)
  have H : ((spec_RunDfa.f k l0_0 l0_1 0 a1).bind fun bt370 => (if bt370.2 = true then (if 0 ≤ bt370.1 then (if bt370.1 < (l0_0.length : Int) then (some (rdOf false l0_0 bt370.1)) else (none)) else (none)) else (some false))) = some r := h
  clear h
  replace H := Option.bind_eq_some_iff.mp H
  obtain ⟨⟨ao, bw⟩, A30, H⟩ := H
  have A3 := am_ A30
  clear A30
  by_cases c4 : bw = true
  · subst c4
    have H1 : (if 0 ≤ ao then (if ao < (l0_0.length : Int) then (some (rdOf false l0_0 ao)) else (none)) else (none)) = some r := by rw [if_pos rfl] at H; exact H
    clear H
    have H := H1
    clear H1
    by_cases c5 : 0 ≤ ao
    · rw [if_pos c5] at H
      have c5b0 : decide (0 ≤ ao) = true := decide_eq_true c5
      clear c5
      by_cases c6 : ao < (l0_0.length : Int)
      · rw [if_pos c6] at H
        have c6b0 : decide (ao < (l0_0.length : Int)) = true := decide_eq_true c6
        clear c6
        obtain rfl := Option.some.inj H
        simp only [Option.some.injEq, Prod.mk.injEq] at H
        obtain ⟨rfl⟩ := H
        go_enter Try.func40, Try.ntmps40
        go_wp2_with (first | ((with_reducible refine gate_dst (N := 2) rfl ?_); refine box_event ?hg (N := 2) ?hd (cs := #[.slice A0_0 l0_0.length c0_0, .slice A0_1 l0_1.length c0_1]) (t := 28) ?hr ?_; (case hd => rfl); (case hg => rfl); (case hr => first | (go_simp; done) | (go_simp; rfl)); intro aD hg w7 hbox hb; replace ah := am_ (hbox); replace bk := am_ ((by rw [hg]; exact (below_size (b0_ HB.out)) : w.heap.size ≤ aD)); replace aE := am_ ((by rw [hg]; exact (below_size (b0_ HB.out)) : w.heap.size ≤ aD)); replace HB := am_ (below_step (b0_ HB.out) hb); clear hb hbox hg; have bO := ck_ (v := (.slice A0_0 l0_0.length c0_0)) ah 0 rfl; have bP := ck_ (v := (.slice A0_1 l0_1.length c0_1)) ah 1 rfl; have bQ := blk_frozen ah.out 0; have bR := blk_frozen ah.out 1) | ((with_reducible refine gate_callee (f := 57) rfl ?_); refine gL_ (some 10) Try.func57 #[.agg #[.slice A0_0 l0_0.length c0_0, .slice A0_1 l0_1.length c0_1], .int .i64 0, .string a1] ?_; (with_reducible refine (spec_RunDfa.calls k _ _ l0_0 _ _ l0_1 0 a1 ao true _ ?side1 ?side2 ?side3 ?side4 A3.out).mono ?_); (case side1 => exact rc_ (Kd.C_below aw.out HB.out)); (case side2 => exact az.out); (case side3 => exact rc_ (Kd.C_below aA.out HB.out)); (case side4 => exact aC.out); rintro e w9 ⟨rfl, hb⟩; refine ⟨_, rfl, ?_⟩; have n0_ := am_ (blk_below (rb_ ah.out) hb); have n1_ := am_ (below_step (b1_ HB.out aE.out) hb); clear ah; clear HB; have ah := n0_; have HB := n1_; clear n0_ n1_; (try clear hb); (try clear hb2); (try clear hk); (try clear hi); have bF := ck_ (v := (.slice A0_0 l0_0.length c0_0)) ah 0 rfl; have bG := ck_ (v := (.slice A0_1 l0_1.length c0_1)) ah 1 rfl; have bH := blk_frozen ah.out 0; have bI := blk_frozen ah.out 1; have p372 : 0 ≤ (ao : Int) := of_decide_eq_true ah_; have q372 : ao < (l0_0.length : Int) := of_decide_eq_true ah_; obtain ⟨bS, e372, aI⟩ := Kd.at_bool aw.out ao p372 q372; cases e372; replace aI := (HB.out.cell (World.block_lt_of_cell? w _ aI)).trans aI; replace p372 := eq_true p372; replace q372 := eq_true q372))
        go_ret
        exact ⟨by first | rfl | (simp [errW_none, errW_some] <;> rfl) | (simp [*, errW_none, errW_some] <;> rfl), by exact zp19_0_ HB.out aE.out⟩
      · rw [if_neg c6] at H
        exact absurd H (by simp)
    · rw [if_neg c5] at H
      exact absurd H (by simp)
  · replace c4 := Bool.eq_false_iff.mpr c4
    subst c4
    have H1 : (some false) = some r := by rw [if_neg (show ¬ (false = true) by decide)] at H; exact H
    clear H
    have H := H1
    clear H1
    obtain rfl := Option.some.inj H
    simp only [Option.some.injEq, Prod.mk.injEq] at H
    obtain ⟨rfl⟩ := H
    go_enter Try.func40, Try.ntmps40
    go_wp2_with (first | ((with_reducible refine gate_dst (N := 2) rfl ?_); refine box_event ?hg (N := 2) ?hd (cs := #[.slice A0_0 l0_0.length c0_0, .slice A0_1 l0_1.length c0_1]) (t := 28) ?hr ?_; (case hd => rfl); (case hg => rfl); (case hr => first | (go_simp; done) | (go_simp; rfl)); intro aD hg w11 hbox hb; replace ah := am_ (hbox); replace bk := am_ ((by rw [hg]; exact (below_size (b0_ HB.out)) : w.heap.size ≤ aD)); replace aE := am_ ((by rw [hg]; exact (below_size (b0_ HB.out)) : w.heap.size ≤ aD)); replace HB := am_ (below_step (b0_ HB.out) hb); clear hb hbox hg; have bJ := ck_ (v := (.slice A0_0 l0_0.length c0_0)) ah 0 rfl; have bK := ck_ (v := (.slice A0_1 l0_1.length c0_1)) ah 1 rfl; have bL := blk_frozen ah.out 0; have bM := blk_frozen ah.out 1) | ((with_reducible refine gate_callee (f := 57) rfl ?_); refine gL_ (some 10) Try.func57 #[.agg #[.slice A0_0 l0_0.length c0_0, .slice A0_1 l0_1.length c0_1], .int .i64 0, .string a1] ?_; (with_reducible refine (spec_RunDfa.calls k _ _ l0_0 _ _ l0_1 0 a1 ao false _ ?side1 ?side2 ?side3 ?side4 A3.out).mono ?_); (case side1 => exact rc_ (Kd.C_below aw.out HB.out)); (case side2 => exact az.out); (case side3 => exact rc_ (Kd.C_below aA.out HB.out)); (case side4 => exact aC.out); rintro e w13 ⟨rfl, hb⟩; refine ⟨_, rfl, ?_⟩; have n0_ := am_ (blk_below (rb_ ah.out) hb); have n1_ := am_ (below_step (b1_ HB.out aE.out) hb); clear ah; clear HB; have ah := n0_; have HB := n1_; clear n0_ n1_; (try clear hb); (try clear hb2); (try clear hk); (try clear hi)))
    go_ret
    exact ⟨by first | rfl | (simp [errW_none, errW_some] <;> rfl) | (simp [*, errW_none, errW_some] <;> rfl), by exact zp19_0_ HB.out aE.out⟩
def spec_AcceptedWords.l0 : Nat → List ByteArray → List ByteArray → Int → List Bool → List (List Int) → Option (List ByteArray)
  | 0, _, _, _, _, _ => none
  | k + 1, x5, x6, x7, aJ, aK => if x7 < (x5.length : Int) then (if 0 ≤ x7 then ((spec_AcceptsWord.f k aJ aK (rdOf ByteArray.empty x5 x7)).bind fun aU => (if aU = true then (if x6.length < 8796093022208 then (spec_AcceptedWords.l0 k x5 (x6 ++ [rdOf ByteArray.empty x5 x7]) (wrap64 (x7 + 1)) aJ aK) else (none)) else (spec_AcceptedWords.l0 k x5 x6 (wrap64 (x7 + 1)) aJ aK))) else (none)) else (some x6)
def spec_AcceptedWords.f (k : Nat) (l0_0 : List Bool) (l0_1 : List (List Int)) (a1 : Int) : Option (List ByteArray) := (spec_WordsUpTo.f k a1).bind fun ag => (spec_AcceptedWords.l0 k ag (([] : List ByteArray)) 0 l0_0 l0_1)
theorem spec_AcceptedWords.mono_l : ∀ k, (∀ y0 y1 y2 y3 y4, LeO (spec_AcceptedWords.l0 k y0 y1 y2 y3 y4) (spec_AcceptedWords.l0 (k + 1) y0 y1 y2 y3 y4))
 | 0 => fun _ _ _ _ _ r h => by simp [spec_AcceptedWords.l0] at h
 | k + 1 => by
  have ih0 := spec_AcceptedWords.mono_l k
  ·intro y0 y1 y2 y3 y4
   unfold spec_AcceptedWords.l0
   repeat' first
   | (with_reducible exact ih0 _ _ _ _ _)
   | (with_reducible exact spec_AcceptsWord.mono _ _ _ _)
   | (with_reducible exact spec_WordsUpTo.mono _ _)
   | (with_reducible exact LeO.refl _)
   | (with_reducible exact LeO.none _)
   | (with_reducible refine LeO.ite ?_ ?_)
   | (with_reducible refine LeO.bind ?_ (fun _ => ?_))
   | exact ih0 _ _ _ _ _
   | exact spec_AcceptsWord.mono _ _ _ _
   | exact spec_WordsUpTo.mono _ _
   | exact LeO.none _
   | refine LeO.ite ?_ ?_
   | refine LeO.bind ?_ (fun _ => ?_)
theorem spec_AcceptedWords.mono : ∀ a0 a1 a2 k, LeO (spec_AcceptedWords.f k a0 a1 a2) (spec_AcceptedWords.f (k + 1) a0 a1 a2) := by
 intro a0 a1 a2 k
 have ih0 := spec_AcceptedWords.mono_l k
 unfold spec_AcceptedWords.f
 repeat' first
   | (with_reducible exact ih0 _ _ _ _ _)
   | (with_reducible exact spec_AcceptsWord.mono _ _ _ _)
   | (with_reducible exact spec_WordsUpTo.mono _ _)
   | (with_reducible exact LeO.refl _)
   | (with_reducible exact LeO.none _)
   | (with_reducible refine LeO.ite ?_ ?_)
   | (with_reducible refine LeO.bind ?_ (fun _ => ?_))
   | exact ih0 _ _ _ _ _
   | exact spec_AcceptsWord.mono _ _ _ _
   | exact spec_WordsUpTo.mono _ _
   | exact LeO.none _
   | refine LeO.ite ?_ ?_
   | refine LeO.bind ?_ (fun _ => ?_)
set_option maxHeartbeats 8000000 in
set_option maxRecDepth 100000 in
theorem spec_AcceptedWords.calls (k : Nat) (A0_0 : Option Addr) (c0_0 : Nat) (l0_0 : List Bool) (A0_1 : Option Addr) (c0_1 : Nat) (l0_1 : List (List Int)) (a1 : Int) (r : List ByteArray) (w : World) (hr0_0 : Kd.C Kd.bool w A0_0 l0_0.length l0_0) (hc0_0 : l0_0.length ≤ c0_0) (hr0_1 : Kd.C (Kd.slice 3 (Kd.int .i64)) w A0_1 l0_1.length l0_1) (hc0_1 : l0_1.length ≤ c0_1) (h : spec_AcceptedWords.f k l0_0 l0_1 a1 = some r) :
  Calls Try.prog 17 #[.agg #[.slice A0_0 l0_0.length c0_0, .slice A0_1 l0_1.length c0_1], .int .i64 a1] w fun e w' => ∃ v0_ : Value, e = .returned (v0_) ∧ Kd.R Kd.string 9 w' w.heap.size (fun _ => True) v0_ r ∧ Below w.heap.size w w' := by
 have hu28 := Try.underlying28
 have aw := am_ hr0_0
 have az := am_ hc0_0
 clear hr0_0 hc0_0
 have aA := am_ hr0_1
 have aC := am_ hc0_1
 clear hr0_1 hc0_1
 have HB := am_ (Below.refl w.heap.size w)
 have H : ((spec_WordsUpTo.f k a1).bind fun ag => (spec_AcceptedWords.l0 k ag (([] : List ByteArray)) 0 l0_0 l0_1)) = some r := h
 clear h
 replace H := Option.bind_eq_some_iff.mp H
 obtain ⟨ag, A30, H⟩ := H
 replace H : (spec_AcceptedWords.l0 k ag (([] : List ByteArray)) 0 l0_0 l0_1) = some r := H
 have A3 := am_ A30
 clear A30
 obtain ⟨bb, hy377⟩ : ∃ y_ : List ByteArray, y_ = (([] : List ByteArray)) := ⟨_, rfl⟩
 replace H : (spec_AcceptedWords.l0 k ag bb 0 l0_0 l0_1) = some r := by first | (rw [hy377]; with_reducible exact H) | (have H2_ := (Option.bind_some _ _).symm.trans H; rw [hy377]; with_reducible exact H2_) | (have H2_ := (Option.bind_some _ _).symm.trans H; with_reducible exact H2_) | with_reducible exact H | (rw [hy377]; exact H) | exact H
 have aW := am_ hy377
 clear hy377
 have H' := am_ H
 clear H
 go_enter Try.func17, Try.ntmps17
 go_wp2_with (first | ((with_reducible refine gate_dst (N := 2) rfl ?_); refine box_event ?hg (N := 2) ?hd (cs := #[.slice A0_0 l0_0.length c0_0, .slice A0_1 l0_1.length c0_1]) (t := 28) ?hr ?_; (case hd => rfl); (case hg => rfl); (case hr => first | (go_simp; done) | (go_simp; rfl)); intro ar hg w4 hbox hb; replace ab := am_ (hbox); replace bT := am_ ((by rw [hg]; exact (below_size (b0_ HB.out)) : w.heap.size ≤ ar)); replace aj := am_ ((by rw [hg]; exact (below_size (b0_ HB.out)) : w.heap.size ≤ ar)); replace HB := am_ (below_step (b0_ HB.out) hb); clear hb hbox hg) | ((with_reducible refine gate_callee (f := 39) rfl ?_); refine gL_ (some 9) Try.func39 #[.int .i64 a1] ?_; (with_reducible refine (spec_WordsUpTo.calls k a1 ag _ A3.out).mono ?_); rintro e w5 ⟨bc, rfl, ho0, hb⟩; refine ⟨_, rfl, ?_⟩; have n0_ := am_ (Kd.R_lower ho0 (below_size (b1_ HB.out aj.out))); have n1_ := am_ (blk_below (rb_ ab.out) hb); have n2_ := am_ (below_step (b1_ HB.out aj.out) hb); clear ab; clear HB; have aG := n0_; have ab := n1_; have HB := n2_; clear n0_ n1_ n2_; (try clear hb); (try clear hb2); (try clear hk); (try clear hi); (try clear ho0)) | ((with_reducible refine gate_dst (N := 10) rfl ?_); refine Kd.R_lit Kd.string _ 9 ?hg (N := 10) ?hd (xs := ([] : List ByteArray)) (inner := []) (ok := fun _ => True) (okp := fun _ => True) ?hr ?hp (fun _ hk => hk) trivial (Below.refl _ _) (Nat.le_refl _) (by simp) ?_; (case hd => rfl); (case hg => rfl); (case hr => first | (go_simp; done) | (go_simp; rfl)); (case hp => exact (Reps.none _ _)); intro bU w6 ho7 hb hg_ hnew_; clear hg_ hnew_; (first | rw [← aW.out] at ho7 | (simp only [Int.reduceToNat] at ho7; rw [← aW.out] at ho7)); have n0_ := am_ (Kd.R_elder' (rr_ aG.out) (Kd.R_base ho7) hb); have n1_ := am_ (Kd.R_lower (Kd.R_new' ho7 (Kd.R_lt (rr_ aG.out))) (below_size (b1_ HB.out aj.out))); have n2_ := am_ (blk_below (rb_ ab.out) hb); have n3_ := am_ (below_step (b1_ HB.out aj.out) hb); clear aG; clear ab; clear HB; have aG := n0_; have bl := n1_; have ab := n2_; have HB := n3_; clear n0_ n1_ n2_ n3_; clear hb ho7))
 go_loopg [6, 7] k (fun kq v6 v7 w' => ∃ (au : List ByteArray) (ae : Int), v7 = .int .i64 ae ∧ Aside0 (spec_AcceptedWords.l0 kq ag au ae l0_0 l0_1 = some r) ∧ Aside0 (kq ≤ k) ∧ Aside0 (Kd.R Kd.string 9 w' w.heap.size (fun k_ => some k_ ≠ (v6 : Value).ownBlock) bc ag) ∧ Aside0 (Kd.R Kd.string 9 w' w.heap.size (fun k_ => some k_ ≠ (bc : Value).ownBlock) v6 au) ∧ Aside0 (w'.heap[ar]? = some (.cells #[(.slice A0_0 l0_0.length c0_0), (.slice A0_1 l0_1.length c0_1)] 28 (0, 0))) ∧ Aside0 (Below w.heap.size w w'))
 case atStart => exact ⟨(bb), (0), (by first | rfl | (simp; done) | (simp [*]; done)), H', ⟨Nat.le_refl _⟩, ⟨by refine rr_ ?_; exact Kd.R_mono aG.out (fun _ hk => hk.2)⟩, ⟨by refine rr_ ?_; exact Kd.R_mono bl.out (fun _ hk => hk.2)⟩, ⟨by refine rb_ ?_; exact ab.out⟩, ⟨by exact zp19_0_ HB.out aj.out⟩⟩
 case round =>
  clear H'
  try clear c1
  try clear p2
  try clear c3
  obtain ⟨au, ae, rfl, HA, HK1, ai, ak, ab, HB⟩ := hrel
  cases gk with
  | zero => exact absurd HA.out (by simp [spec_AcceptedWords.l0])
  | succ k1 =>
   have H := HA.out
   clear HA
   simp only [spec_AcceptedWords.l0] at H
   by_cases c8 : ae < (ag.length : Int)
   ·rw [if_pos c8] at H
    have c8b0 : decide (ae < (ag.length : Int)) = true := decide_eq_true c8
    clear c8
    by_cases c9 : 0 ≤ ae
    ·rw [if_pos c9] at H
     have c9b0 : decide (0 ≤ ae) = true := decide_eq_true c9
     clear c9
     replace H := Option.bind_eq_some_iff.mp H
     obtain ⟨aU, bd, H⟩ := H
     have A10 := am_ bd
     clear bd
     by_cases c11 : aU = true
     ·subst c11
      have H1 : (if au.length < 8796093022208 then (spec_AcceptedWords.l0 k1 ag (au ++ [rdOf ByteArray.empty ag ae]) (wrap64 (ae + 1)) l0_0 l0_1) else (none)) = some r := by rw [if_pos rfl] at H; exact H
      clear H
      have H := H1
      clear H1
      by_cases c12 : au.length < 8796093022208
      ·rw [if_pos c12] at H
       have LMc12 := am_ c12
       clear c12
       obtain ⟨be, hy383⟩ : ∃ y_ : List ByteArray, y_ = (au ++ [rdOf ByteArray.empty ag ae]) := ⟨_, rfl⟩
       replace H : (spec_AcceptedWords.l0 k1 ag be (wrap64 (ae + 1)) l0_0 l0_1) = some r := by first | (rw [hy383]; with_reducible exact H) | (have H2_ := (Option.bind_some _ _).symm.trans H; rw [hy383]; with_reducible exact H2_) | (have H2_ := (Option.bind_some _ _).symm.trans H; with_reducible exact H2_) | with_reducible exact H | (rw [hy383]; exact H) | exact H
       have bm := am_ hy383
       clear hy383
       have H' := am_ H
       clear H
       obtain ⟨bV, bx, bz⟩ := Kd.R_slice ai.out
       subst bz
       try go_wp2
       replace ai := am_ (Kd.R_drew ai.out)
       replace ak := am_ (Kd.R_drew ak.out)
       replace ab := am_ (blk_drew ab.out)
       replace HB := am_ (below_drew1 HB.out)
       have p380 : 0 ≤ (ae : Int) := of_decide_eq_true ah_
       have q380 : ae < (ag.length : Int) := of_decide_eq_true ah_
       obtain ⟨aH, e380, av⟩ := Kd.at_string (Kd.R_reads' ai.out).2.2 ae p380 q380
       cases e380
       replace p380 := eq_true p380
       replace q380 := eq_true q380
       refine start_ (n := 6) (S := fun w' => w'.cell? ⟨ar, 0, none⟩ = some (.slice A0_0 l0_0.length c0_0) ∧ w'.cell? ⟨ar, 1, none⟩ = some (.slice A0_1 l0_1.length c0_1) ∧ w'.cell? (aH.add (ae).toNat) = some (.string (rdOf ByteArray.empty ag ae))) (ds := []) #[false, false, false, false, false, false] (by kernel_rfl) rfl rfl ⟨(blk_cell ab.out 0).trans rfl, (blk_cell ab.out 1).trans rfl, av⟩ (fun hHeld => ?_)
       generalize wr.drew = w14 at ai ak ab HB av hHeld ⊢
       refine pure_ (i := 1) (N := some 18) (v := ?_) (a' := ?_) #[false, true, false, false, false, false] rfl rfl (by kernel_rfl) (fun _ _ _ h => h) (Or.inl ⟨by rfl, ?_⟩) ?_ ?_
       rotate_left; (focus (intro w'; go_simp; with_reducible rfl)); rotate_left; (focus (simp only [pn_, sz_, ss_, i64_w, i32_w]; rfl))
       refine pure_ (i := 2) (N := some 19) (v := ?_) (a' := ?_) #[false, true, true, false, false, false] rfl rfl (by kernel_rfl) (fun _ _ _ h => h) (Or.inl ⟨by rfl, ?_⟩) ?_ ?_
       rotate_left; (focus (intro w'; go_simp; with_reducible rfl)); rotate_left; (focus (simp only [pn_, sz_, ss_, i64_w, i32_w]; rfl))
       refine pure_ (i := 3) (N := some 20) (v := ?_) (a' := ?_) #[false, true, true, true, false, false] rfl rfl (by kernel_rfl) (fun _ _ _ h => h) (Or.inl ⟨by rfl, ?_⟩) ?_ ?_
       rotate_left; (focus (intro w'; go_simp; with_reducible rfl)); rotate_left; (focus (simp only [pn_, sz_, ss_, i64_w, i32_w]; rfl))
       refine take_ (i := 0) (N := some 17) (v := ?_) (a' := ?_) #[true, true, true, true, false, false] rfl rfl (by kernel_rfl) (fun _ _ _ h => h) (Or.inl ⟨by rfl, ?_⟩) hHeld ?_ ?_
       rotate_left; (focus (rintro w' ⟨s0, s1, s2⟩; go_simp; with_reducible rfl)); rotate_left; (focus (simp only [pn_, sz_, ss_, i64_w, i32_w]; rfl))
       refine take_ (i := 4) (N := some 21) (v := ?_) (a' := ?_) #[true, true, true, true, true, false] rfl rfl (by kernel_rfl) (fun _ _ _ h => h) (Or.inl ⟨by rfl, ?_⟩) hHeld ?_ ?_
       rotate_left; (focus (rintro w' ⟨s0, s1, s2⟩; go_simp; with_reducible rfl)); rotate_left; (focus (simp only [pn_, sz_, ss_, i64_w, i32_w]; rfl))
       refine one_ (i := 5) (N := some 22) #[true, true, true, true, true, true] rfl rfl (by kernel_rfl) (by decide) (fun K hK => ?_)
       refine gO_ Try.func40 #[.agg #[.slice A0_0 l0_0.length c0_0, .slice A0_1 l0_1.length c0_1], .string (rdOf ByteArray.empty ag ae)] ?_
       with_reducible refine (spec_AcceptsWord.calls k1 _ _ l0_0 _ _ l0_1 (rdOf ByteArray.empty ag ae) true _ ?side1 ?side2 ?side3 ?side4 A10.out).mono ?_
       (case side1 => exact rc_ (Kd.C_below aw.out HB.out))
       (case side2 => exact az.out)
       (case side3 => exact rc_ (Kd.C_below aA.out HB.out))
       (case side4 => exact aC.out)
       rintro e w15 ⟨rfl, hb⟩
       have aV := (hb.cell (World.block_lt_of_cell? _ _ (hHeld.2.2))).trans (hHeld.2.2)
       refine ⟨_, rfl, ?_⟩
       replace ai := am_ (Kd.R_below (rr_ ai.out) hb)
       replace ak := am_ (Kd.R_below (rr_ ak.out) hb)
       replace ab := am_ (blk_below (rb_ ab.out) hb)
       replace HB := am_ (below_step (b1_ HB.out aj.out) hb)
       (try clear hb)
       (try clear hb2)
       (try clear hk)
       (try clear hi)
       refine hK.out _ _ ⟨(blk_cell ab.out 0).trans rfl, (blk_cell ab.out 1).trans rfl, aV⟩ (fun hHeld => ?_)
       clear hK K
       refine norm_ (a' := ?_) ?_ ?_
       rotate_left
       ·show Act.put _ (some 22) _ = _
        simp only [pn_, sz_, ss_, i64_w, i32_w]
        rfl
       refine done_ (by kernel_rfl) ?_
       have p382 : 0 ≤ (ae : Int) := of_decide_eq_true ah_
       have q382 : ae < (ag.length : Int) := of_decide_eq_true ah_
       obtain ⟨bn, e382, bN⟩ := Kd.at_string (Kd.R_reads' ai.out).2.2 ae p382 q382
       obtain rfl : aH = bn := (by injection e382)
       replace p382 := eq_true p382
       replace q382 := eq_true q382
       try go_wp2_with (first | ((with_reducible refine gate_builtin (b := .append) (xs := #[.tmp 23, .tmp 28]) rfl ?_); at_builtin; refine Kd.R_append Kd.string (w0 := w) w.heap.size rfl (.tmp 23) (.tmp 28) 37 9 (.string ⟨#[]⟩) 16 rfl Try.underlying37 info9 rfl (by decide) (by omega) u6 au (rdOf ByteArray.empty ag ae) [.string (rdOf ByteArray.empty ag ae)] (fun k_ => some k_ ≠ (.slice (some aH) ag.length bx : Value).ownBlock) (fun _ => False) rfl rfl ?aP (fun _ hk => hk.elim) ?aF ?aO ?aB ?aS ?aL ?_; (case aP => exact rfl); (case aB => exact (b1_ HB.out aj.out)); (case aF => exact (fun k_ hk => Kd.fresh' (Kd.R_lt (rr_ ai.out)) k_ hk)); (case aO => exact (rr_ ak.out)); (case aS => exact (below_size (b1_ HB.out aj.out))); (case aL => have := LMc12.out; omega); intro bW w16 ho hb hg hat; rw [← bm.out] at ho; have n0_ := am_ (Kd.R_after (ok := (fun _ => True)) (by refine rr_ ?_; exact Kd.R_mono ai.out (fun _ hk => ⟨trivial, hk⟩)) hg hat); have n1_ := am_ (blk_grown (g := ar) (o := .cells #[.slice A0_0 l0_0.length c0_0, .slice A0_1 l0_1.length c0_1] 28 (0, 0)) (rb_ ab.out) hg (Kd.R_ne ak.out ab.out (by decide))); have n2_ := am_ (hb); have n3_ := am_ (ho); clear ai; clear ab; clear HB; clear ak; have ai := n0_; have ab := n1_; have HB := n2_; have bo := n3_; clear n0_ n1_ n2_ n3_; clear ho hb hg hat))
       go_roundg k1
       case measure => have := HK1.out; omega
       case rel => exact ⟨(be), (wrap64 (ae + 1)), (by first | rfl | (simp; done) | (simp [*]; done)), H', ⟨by have := HK1.out; omega⟩, ⟨by refine rr_ ?_; exact Kd.R_mono ai.out (fun _ hk => hk.2)⟩, ⟨by refine rr_ ?_; exact bo.out⟩, ⟨by refine rb_ ?_; exact ab.out⟩, ⟨by exact zp19_0_ HB.out aj.out⟩⟩
      ·rw [if_neg c12] at H
       exact absurd H (by simp)
     ·replace c11 := Bool.eq_false_iff.mpr c11
      subst c11
      have H1 : (spec_AcceptedWords.l0 k1 ag au (wrap64 (ae + 1)) l0_0 l0_1) = some r := by rw [if_neg (show ¬ (false = true) by decide)] at H; exact H
      clear H
      have H := H1
      clear H1
      have H' := am_ H
      clear H
      obtain ⟨bX, bY, bA⟩ := Kd.R_slice ai.out
      subst bA
      try go_wp2
      replace ai := am_ (Kd.R_drew ai.out)
      replace ak := am_ (Kd.R_drew ak.out)
      replace ab := am_ (blk_drew ab.out)
      replace HB := am_ (below_drew1 HB.out)
      have p380 : 0 ≤ (ae : Int) := of_decide_eq_true ah_
      have q380 : ae < (ag.length : Int) := of_decide_eq_true ah_
      obtain ⟨aH, e380, av⟩ := Kd.at_string (Kd.R_reads' ai.out).2.2 ae p380 q380
      cases e380
      replace p380 := eq_true p380
      replace q380 := eq_true q380
      refine start_ (n := 6) (S := fun w' => w'.cell? ⟨ar, 0, none⟩ = some (.slice A0_0 l0_0.length c0_0) ∧ w'.cell? ⟨ar, 1, none⟩ = some (.slice A0_1 l0_1.length c0_1) ∧ w'.cell? (aH.add (ae).toNat) = some (.string (rdOf ByteArray.empty ag ae))) (ds := []) #[false, false, false, false, false, false] (by kernel_rfl) rfl rfl ⟨(blk_cell ab.out 0).trans rfl, (blk_cell ab.out 1).trans rfl, av⟩ (fun hHeld => ?_)
      generalize wr.drew = w18 at ai ak ab HB av hHeld ⊢
      refine pure_ (i := 1) (N := some 18) (v := ?_) (a' := ?_) #[false, true, false, false, false, false] rfl rfl (by kernel_rfl) (fun _ _ _ h => h) (Or.inl ⟨by rfl, ?_⟩) ?_ ?_
      rotate_left; (focus (intro w'; go_simp; with_reducible rfl)); rotate_left; (focus (simp only [pn_, sz_, ss_, i64_w, i32_w]; rfl))
      refine pure_ (i := 2) (N := some 19) (v := ?_) (a' := ?_) #[false, true, true, false, false, false] rfl rfl (by kernel_rfl) (fun _ _ _ h => h) (Or.inl ⟨by rfl, ?_⟩) ?_ ?_
      rotate_left; (focus (intro w'; go_simp; with_reducible rfl)); rotate_left; (focus (simp only [pn_, sz_, ss_, i64_w, i32_w]; rfl))
      refine pure_ (i := 3) (N := some 20) (v := ?_) (a' := ?_) #[false, true, true, true, false, false] rfl rfl (by kernel_rfl) (fun _ _ _ h => h) (Or.inl ⟨by rfl, ?_⟩) ?_ ?_
      rotate_left; (focus (intro w'; go_simp; with_reducible rfl)); rotate_left; (focus (simp only [pn_, sz_, ss_, i64_w, i32_w]; rfl))
      refine take_ (i := 0) (N := some 17) (v := ?_) (a' := ?_) #[true, true, true, true, false, false] rfl rfl (by kernel_rfl) (fun _ _ _ h => h) (Or.inl ⟨by rfl, ?_⟩) hHeld ?_ ?_
      rotate_left; (focus (rintro w' ⟨s0, s1, s2⟩; go_simp; with_reducible rfl)); rotate_left; (focus (simp only [pn_, sz_, ss_, i64_w, i32_w]; rfl))
      refine take_ (i := 4) (N := some 21) (v := ?_) (a' := ?_) #[true, true, true, true, true, false] rfl rfl (by kernel_rfl) (fun _ _ _ h => h) (Or.inl ⟨by rfl, ?_⟩) hHeld ?_ ?_
      rotate_left; (focus (rintro w' ⟨s0, s1, s2⟩; go_simp; with_reducible rfl)); rotate_left; (focus (simp only [pn_, sz_, ss_, i64_w, i32_w]; rfl))
      refine one_ (i := 5) (N := some 22) #[true, true, true, true, true, true] rfl rfl (by kernel_rfl) (by decide) (fun K hK => ?_)
      refine gO_ Try.func40 #[.agg #[.slice A0_0 l0_0.length c0_0, .slice A0_1 l0_1.length c0_1], .string (rdOf ByteArray.empty ag ae)] ?_
      with_reducible refine (spec_AcceptsWord.calls k1 _ _ l0_0 _ _ l0_1 (rdOf ByteArray.empty ag ae) false _ ?side1 ?side2 ?side3 ?side4 A10.out).mono ?_
      (case side1 => exact rc_ (Kd.C_below aw.out HB.out))
      (case side2 => exact az.out)
      (case side3 => exact rc_ (Kd.C_below aA.out HB.out))
      (case side4 => exact aC.out)
      rintro e w19 ⟨rfl, hb⟩
      have aV := (hb.cell (World.block_lt_of_cell? _ _ (hHeld.2.2))).trans (hHeld.2.2)
      refine ⟨_, rfl, ?_⟩
      replace ai := am_ (Kd.R_below (rr_ ai.out) hb)
      replace ak := am_ (Kd.R_below (rr_ ak.out) hb)
      replace ab := am_ (blk_below (rb_ ab.out) hb)
      replace HB := am_ (below_step (b1_ HB.out aj.out) hb)
      (try clear hb)
      (try clear hb2)
      (try clear hk)
      (try clear hi)
      refine hK.out _ _ ⟨(blk_cell ab.out 0).trans rfl, (blk_cell ab.out 1).trans rfl, aV⟩ (fun hHeld => ?_)
      clear hK K
      refine norm_ (a' := ?_) ?_ ?_
      rotate_left
      ·show Act.put _ (some 22) _ = _
       simp only [pn_, sz_, ss_, i64_w, i32_w]
       rfl
      refine done_ (by kernel_rfl) ?_
      try go_wp2
      go_roundg k1
      case measure => have := HK1.out; omega
      case rel => exact ⟨(au), (wrap64 (ae + 1)), (by first | rfl | (simp; done) | (simp [*]; done)), H', ⟨by have := HK1.out; omega⟩, ⟨by refine rr_ ?_; exact ai.out⟩, ⟨by refine rr_ ?_; exact ak.out⟩, ⟨by refine rb_ ?_; exact ab.out⟩, ⟨by exact zp19_0_ HB.out aj.out⟩⟩
    ·rw [if_neg c9] at H
     exact absurd H (by simp)
   ·rw [if_neg c8] at H
    have c8b0 : decide (ae < (ag.length : Int)) = false := decide_eq_false c8
    clear c8
    obtain rfl := Option.some.inj H
    simp only [Option.some.injEq, Prod.mk.injEq] at H
    obtain ⟨rfl⟩ := H
    obtain ⟨bZ, ca, bB⟩ := Kd.R_slice ai.out
    subst bB
    go_wp2
    go_ret
    exact ⟨_, by first | rfl | (simp [errW_none, errW_some] <;> rfl) | (simp [*, errW_none, errW_some] <;> rfl), by refine rr_ ?_; exact Kd.R_mono ak.out (fun _ hk => trivial), by exact zp19_0_ HB.out aj.out⟩
mutual
def impl_WordsOfLength.l0 : Nat → List ByteArray → Int → Int → Option (List ByteArray)
  | 0, _, _, _ => none
  | k + 1, x3, x12, x13 => if x13 < x12 then (impl_WordsOfLength.l1 k (([] : List ByteArray)) x12 x13 x3 (x3.length : Int) 0) else (some x3)
def impl_WordsOfLength.l1 : Nat → List ByteArray → Int → Int → List ByteArray → Int → Int → Option (List ByteArray)
  | 0, _, _, _, _, _, _ => none
  | k + 1, x4, x12, x13, x16, x17, x18 => if x18 < x17 then (if 0 ≤ x18 then (if x18 < (x16.length : Int) then (impl_WordsOfLength.l2 k x4 (rdOf ByteArray.empty x16 x18) x12 x13 x16 x17 x18 0) else (none)) else (none)) else (impl_WordsOfLength.l0 k x4 x12 (wrap64 (x13 + 1)))
def impl_WordsOfLength.l2 : Nat → List ByteArray → ByteArray → Int → Int → List ByteArray → Int → Int → Int → Option (List ByteArray)
  | 0, _, _, _, _, _, _, _, _ => none
  | k + 1, x4, x6, x12, x13, x16, x17, x18, x22 => if x22 < 3 then (if 0 ≤ x22 then (if x22 ≤ (wrap64 (x22 + 1)) then (if (wrap64 (x22 + 1)) ≤ 3 then (if x6.size + ((⟨#[97, 98, 99]⟩ : ByteArray).extract (x22 : Int).toNat ((wrap64 (x22 + 1)) : Int).toNat).size ≤ 9223372036854775807 then (if x4.length < 8796093022208 then (impl_WordsOfLength.l2 k (x4 ++ [x6 ++ ((⟨#[97, 98, 99]⟩ : ByteArray).extract (x22 : Int).toNat ((wrap64 (x22 + 1)) : Int).toNat)]) x6 x12 x13 x16 x17 x18 (wrap64 (x22 + 1))) else (none)) else (none)) else (none)) else (none)) else (none)) else (impl_WordsOfLength.l1 k x4 x12 x13 x16 x17 (wrap64 (x18 + 1)))
end
def impl_WordsOfLength.f (k : Nat) (a0 : Int) : Option (List ByteArray) := (impl_within.f a0 0 5).bind fun aN => (if aN = true then (impl_WordsOfLength.l0 k (([(⟨#[]⟩ : ByteArray)] : List ByteArray)) a0 0) else (some ([] : List ByteArray)))
theorem impl_WordsOfLength.mono_l : ∀ k, (∀ y0 y1 y2, LeO (impl_WordsOfLength.l0 k y0 y1 y2) (impl_WordsOfLength.l0 (k + 1) y0 y1 y2)) ∧ (∀ y0 y1 y2 y3 y4 y5, LeO (impl_WordsOfLength.l1 k y0 y1 y2 y3 y4 y5) (impl_WordsOfLength.l1 (k + 1) y0 y1 y2 y3 y4 y5)) ∧ (∀ y0 y1 y2 y3 y4 y5 y6 y7, LeO (impl_WordsOfLength.l2 k y0 y1 y2 y3 y4 y5 y6 y7) (impl_WordsOfLength.l2 (k + 1) y0 y1 y2 y3 y4 y5 y6 y7))
 | 0 => ⟨fun _ _ _ r h => by simp [impl_WordsOfLength.l0] at h, fun _ _ _ _ _ _ r h => by simp [impl_WordsOfLength.l1] at h, fun _ _ _ _ _ _ _ _ r h => by simp [impl_WordsOfLength.l2] at h⟩
 | k + 1 => by
  obtain ⟨ih0, ih1, ih2⟩ := impl_WordsOfLength.mono_l k
  refine ⟨?_, ?_, ?_⟩
  ·intro y0 y1 y2
   unfold impl_WordsOfLength.l0
   repeat' first
   | (with_reducible exact ih0 _ _ _)
   | (with_reducible exact ih1 _ _ _ _ _ _)
   | (with_reducible exact ih2 _ _ _ _ _ _ _ _)
   | (with_reducible exact LeO.refl _)
   | (with_reducible exact LeO.none _)
   | (with_reducible refine LeO.ite ?_ ?_)
   | (with_reducible refine LeO.bind ?_ (fun _ => ?_))
   | exact ih0 _ _ _
   | exact ih1 _ _ _ _ _ _
   | exact ih2 _ _ _ _ _ _ _ _
   | exact LeO.none _
   | refine LeO.ite ?_ ?_
   | refine LeO.bind ?_ (fun _ => ?_)
  ·intro y0 y1 y2 y3 y4 y5
   unfold impl_WordsOfLength.l1
   repeat' first
   | (with_reducible exact ih0 _ _ _)
   | (with_reducible exact ih1 _ _ _ _ _ _)
   | (with_reducible exact ih2 _ _ _ _ _ _ _ _)
   | (with_reducible exact LeO.refl _)
   | (with_reducible exact LeO.none _)
   | (with_reducible refine LeO.ite ?_ ?_)
   | (with_reducible refine LeO.bind ?_ (fun _ => ?_))
   | exact ih0 _ _ _
   | exact ih1 _ _ _ _ _ _
   | exact ih2 _ _ _ _ _ _ _ _
   | exact LeO.none _
   | refine LeO.ite ?_ ?_
   | refine LeO.bind ?_ (fun _ => ?_)
  ·intro y0 y1 y2 y3 y4 y5 y6 y7
   unfold impl_WordsOfLength.l2
   repeat' first
   | (with_reducible exact ih0 _ _ _)
   | (with_reducible exact ih1 _ _ _ _ _ _)
   | (with_reducible exact ih2 _ _ _ _ _ _ _ _)
   | (with_reducible exact LeO.refl _)
   | (with_reducible exact LeO.none _)
   | (with_reducible refine LeO.ite ?_ ?_)
   | (with_reducible refine LeO.bind ?_ (fun _ => ?_))
   | exact ih0 _ _ _
   | exact ih1 _ _ _ _ _ _
   | exact ih2 _ _ _ _ _ _ _ _
   | exact LeO.none _
   | refine LeO.ite ?_ ?_
   | refine LeO.bind ?_ (fun _ => ?_)
theorem impl_WordsOfLength.mono : ∀ a0 k, LeO (impl_WordsOfLength.f k a0) (impl_WordsOfLength.f (k + 1) a0) := by
 intro a0 k
 obtain ⟨ih0, ih1, ih2⟩ := impl_WordsOfLength.mono_l k
 unfold impl_WordsOfLength.f
 repeat' first
   | (with_reducible exact ih0 _ _ _)
   | (with_reducible exact ih1 _ _ _ _ _ _)
   | (with_reducible exact ih2 _ _ _ _ _ _ _ _)
   | (with_reducible exact LeO.refl _)
   | (with_reducible exact LeO.none _)
   | (with_reducible refine LeO.ite ?_ ?_)
   | (with_reducible refine LeO.bind ?_ (fun _ => ?_))
   | exact ih0 _ _ _
   | exact ih1 _ _ _ _ _ _
   | exact ih2 _ _ _ _ _ _ _ _
   | exact LeO.none _
   | refine LeO.ite ?_ ?_
   | refine LeO.bind ?_ (fun _ => ?_)
set_option maxHeartbeats 8000000 in
set_option maxRecDepth 100000 in
theorem impl_WordsOfLength.calls (k : Nat) (a0 : Int) (r : List ByteArray) (w : World) (h : impl_WordsOfLength.f k a0 = some r) :
  Calls Try.prog 59 #[.int .i64 a0] w fun e w' => ∃ v0_ : Value, e = .returned (v0_) ∧ Kd.R Kd.string 9 w' w.heap.size (fun _ => True) v0_ r ∧ Below w.heap.size w w' := by
 have HB := am_ (Below.refl w.heap.size w)
 have H : ((impl_within.f a0 0 5).bind fun aN => (if aN = true then (impl_WordsOfLength.l0 k (([(⟨#[]⟩ : ByteArray)] : List ByteArray)) a0 0) else (some ([] : List ByteArray)))) = some r := h
 clear h
 replace H := Option.bind_eq_some_iff.mp H
 obtain ⟨aN, A20, H⟩ := H
 have A2 := am_ A20
 clear A20
 by_cases c3 : aN = true
 ·subst c3
  have H1 : (impl_WordsOfLength.l0 k (([(⟨#[]⟩ : ByteArray)] : List ByteArray)) a0 0) = some r := by rw [if_pos rfl] at H; exact H
  clear H
  have H := H1
  clear H1
  obtain ⟨bf, hy387⟩ : ∃ y_ : List ByteArray, y_ = (([(⟨#[]⟩ : ByteArray)] : List ByteArray)) := ⟨_, rfl⟩
  replace H : (impl_WordsOfLength.l0 k bf a0 0) = some r := by first | (rw [hy387]; with_reducible exact H) | (have H2_ := (Option.bind_some _ _).symm.trans H; rw [hy387]; with_reducible exact H2_) | (have H2_ := (Option.bind_some _ _).symm.trans H; with_reducible exact H2_) | with_reducible exact H | (rw [hy387]; exact H) | exact H
  have aX := am_ hy387
  clear hy387
  have H' := am_ H
  clear H
  go_enter Try.func59, Try.ntmps59
  go_wp2_with (first | ((with_reducible refine gate_callee (f := 49) rfl ?_); refine gL_ (some 9) Try.func49 #[.int .i64 a0, .int .i64 0, .int .i64 5] ?_; (with_reducible refine (impl_within.calls a0 0 5 true _ A2.out).mono ?_); rintro e w' ⟨rfl, ⟨nd, rfl⟩⟩; refine ⟨_, rfl, ?_⟩) | ((with_reducible refine gate_dst (N := 11) rfl ?_); refine Kd.R_lit Kd.string _ 9 ?hg (N := 11) ?hd (xs := ([(⟨#[]⟩ : ByteArray)] : List ByteArray)) (inner := [.string (⟨#[]⟩ : ByteArray)]) (ok := fun _ => True) (okp := fun _ => True) ?hr ?hp (fun _ hk => hk) trivial (Below.refl _ _) (Nat.le_refl _) (by simp) ?_; (case hd => rfl); (case hg => rfl); (case hr => first | (go_simp; done) | (go_simp; rfl)); (case hp => exact (Reps.one (show Kd.M Kd.string _ _ _ (⟨#[]⟩ : ByteArray) [.string (⟨#[]⟩ : ByteArray)] from rfl) (Reps.none _ _))); intro cb w4 ho5 hb hg_ hnew_; clear hg_ hnew_; (first | rw [← aX.out] at ho5 | (simp only [Int.reduceToNat] at ho5; rw [← aX.out] at ho5)); replace bp := am_ (Kd.R_lower ho5 (below_size (b0_ HB.out))); replace HB := am_ (below_step (b0_ HB.out) hb); clear hb ho5))
  go_loopg [3, 13] k (fun kq v3 v13 w' => ∃ (aa : List ByteArray) (am : Int), v13 = .int .i64 am ∧ Aside0 (impl_WordsOfLength.l0 kq aa a0 am = some r) ∧ Aside0 (kq ≤ k) ∧ Aside0 (Kd.R Kd.string 9 w' w.heap.size (fun _ => True) v3 aa) ∧ Aside0 (Below w.heap.size w w'))
  case atStart => exact ⟨(bf), (0), (by first | rfl | (simp; done) | (simp [*]; done)), H', ⟨Nat.le_refl _⟩, ⟨by refine rr_ ?_; exact bp.out⟩, ⟨by exact zp19_1_ HB.out⟩⟩
  case round =>
   clear H'
   try clear p2
   try clear c3
   try clear c4
   try clear c5
   obtain ⟨aa, am, rfl, HA, HK1, al, HB⟩ := hrel
   cases gk with
   | zero => exact absurd HA.out (by simp [impl_WordsOfLength.l0])
   | succ k1 =>
    have H := HA.out
    clear HA
    simp only [impl_WordsOfLength.l0] at H
    by_cases c6 : am < a0
    ·rw [if_pos c6] at H
     have c6b0 : decide (am < a0) = true := decide_eq_true c6
     clear c6
     obtain ⟨bg, hy390⟩ : ∃ y_ : List ByteArray, y_ = (([] : List ByteArray)) := ⟨_, rfl⟩
     replace H : (impl_WordsOfLength.l1 k1 bg a0 am aa (aa.length : Int) 0) = some r := by first | (rw [hy390]; with_reducible exact H) | (have H2_ := (Option.bind_some _ _).symm.trans H; rw [hy390]; with_reducible exact H2_) | (have H2_ := (Option.bind_some _ _).symm.trans H; with_reducible exact H2_) | with_reducible exact H | (rw [hy390]; exact H) | exact H
     have aY := am_ hy390
     clear hy390
     have H' := am_ H
     clear H
     go_wp2_with (first | ((with_reducible refine gate_dst (N := 15) rfl ?_); refine Kd.R_lit Kd.string _ 9 ?hg (N := 15) ?hd (xs := ([] : List ByteArray)) (inner := []) (ok := fun _ => True) (okp := fun _ => True) ?hr ?hp (fun _ hk => hk) trivial (Below.refl _ _) (Nat.le_refl _) (by simp) ?_; (case hd => rfl); (case hg => rfl); (case hr => first | (go_simp; done) | (go_simp; rfl)); (case hp => exact (Reps.none _ _)); intro cc w7 ho8 hb hg_ hnew_; clear hg_ hnew_; (first | rw [← aY.out] at ho8 | (simp only [Int.reduceToNat] at ho8; rw [← aY.out] at ho8)); have n0_ := am_ (Kd.R_elder' (rr_ al.out) (Kd.R_base ho8) hb); have n1_ := am_ (Kd.R_lower (Kd.R_new' ho8 (Kd.R_lt (rr_ al.out))) (below_size (b0_ HB.out))); have n2_ := am_ (below_step (b0_ HB.out) hb); clear al; clear HB; have al := n0_; have bq := n1_; have HB := n2_; clear n0_ n1_ n2_; clear hb ho8; obtain ⟨Ao9, co9, eo9⟩ := Kd.R_slice al.out; subst eo9))
     go_loopg [4, 18] k1 (fun kq v4 v18 w' => ∃ (aQ : List ByteArray) (af : Int), v18 = .int .i64 af ∧ Aside0 (impl_WordsOfLength.l1 kq aQ a0 am aa (aa.length : Int) af = some r) ∧ Aside0 (kq ≤ k1) ∧ Aside0 (Kd.R Kd.string 9 w' w.heap.size (fun k_ => some k_ ≠ ((.slice Ao9 aa.length co9) : Value).ownBlock) v4 aQ) ∧ Aside0 (Kd.R Kd.string 9 w' w.heap.size (fun k_ => some k_ ≠ (v4 : Value).ownBlock) (.slice Ao9 aa.length co9) aa) ∧ Aside0 (Below w.heap.size w w'))
     case atStart => exact ⟨(bg), (0), (by first | rfl | (simp; done) | (simp [*]; done)), H', ⟨Nat.le_refl _⟩, ⟨by refine rr_ ?_; exact Kd.R_mono bq.out (fun _ hk => hk.2)⟩, ⟨by refine rr_ ?_; exact Kd.R_mono al.out (fun _ hk => hk.2)⟩, ⟨by exact zp19_1_ HB.out⟩⟩
     case round =>
      clear H'
      try clear p2
      try clear c3
      try clear c4
      try clear c5
      try clear c6
      try clear c6b0
      try clear p2
      obtain ⟨aQ, af, rfl, HA, HK2, aM, ap, HB⟩ := hrel
      cases gk with
      | zero => exact absurd HA.out (by simp [impl_WordsOfLength.l1])
      | succ k2 =>
       have H := HA.out
       clear HA
       simp only [impl_WordsOfLength.l1] at H
       by_cases c10 : af < (aa.length : Int)
       ·rw [if_pos c10] at H
        have c10b0 : decide (af < (aa.length : Int)) = true := decide_eq_true c10
        clear c10
        by_cases c11 : 0 ≤ af
        ·rw [if_pos c11] at H
         have c11b0 : decide (0 ≤ af) = true := decide_eq_true c11
         clear c11
         by_cases c12 : af < (aa.length : Int)
         ·rw [if_pos c12] at H
          have c12b0 : decide (af < (aa.length : Int)) = true := decide_eq_true c12
          clear c12
          have H' := am_ H
          clear H
          have p393 : 0 ≤ (af : Int) := of_decide_eq_true ah_
          have q393 : af < (aa.length : Int) := of_decide_eq_true ah_
          obtain ⟨aT, e393, ba⟩ := Kd.at_string (Kd.R_reads' ap.out).2.2 af p393 q393
          cases e393
          replace p393 := eq_true p393
          replace q393 := eq_true q393
          go_wp2
          go_loopg [4, 22] k2 (fun kq v4 v22 w' => ∃ (ay : List ByteArray) (ad : Int), v22 = .int .i64 ad ∧ Aside0 (impl_WordsOfLength.l2 kq ay (rdOf ByteArray.empty aa af) a0 am aa (aa.length : Int) af ad = some r) ∧ Aside0 (kq ≤ k2) ∧ Aside0 (Kd.R Kd.string 9 w' w.heap.size (fun k_ => some k_ ≠ ((.slice (some aT) aa.length co9) : Value).ownBlock) v4 ay) ∧ Aside0 (Kd.R Kd.string 9 w' w.heap.size (fun k_ => some k_ ≠ (v4 : Value).ownBlock) (.slice (some aT) aa.length co9) aa) ∧ Aside0 (Below w.heap.size w w'))
          case atStart => exact ⟨(aQ), (0), (by first | rfl | (simp; done) | (simp [*]; done)), H', ⟨Nat.le_refl _⟩, ⟨by refine rr_ ?_; exact aM.out⟩, ⟨by refine rr_ ?_; exact ap.out⟩, ⟨by exact zp19_1_ HB.out⟩⟩
          case round =>
           clear H'
           try clear c1
           try clear p2
           try clear c3
           try clear p3
           try clear q3
           try clear hx3
           try clear c4
           try clear c5
           try clear c6
           try clear c6b0
           try clear c10
           try clear c10b0
           try clear c11
           try clear c11b0
           try clear c12
           try clear c12b0
           try clear ba
           try clear p2
           try clear p393
           try clear q393
           obtain ⟨ay, ad, rfl, HA, HK3, aM, ap, HB⟩ := hrel
           cases gk with
           | zero => exact absurd HA.out (by simp [impl_WordsOfLength.l2])
           | succ k3 =>
            have H := HA.out
            clear HA
            simp only [impl_WordsOfLength.l2] at H
            by_cases c13 : ad < 3
            ·rw [if_pos c13] at H
             have c13b0 : decide (ad < 3) = true := decide_eq_true c13
             clear c13
             by_cases c14 : 0 ≤ ad
             ·rw [if_pos c14] at H
              have c14b0 := eq_true c14
              have c14b1 : decide (0 ≤ ad) = true := decide_eq_true c14
              clear c14
              by_cases c15 : ad ≤ (wrap64 (ad + 1))
              ·rw [if_pos c15] at H
               have c15b0 := eq_true c15
               have c15b1 : decide (ad ≤ (wrap64 (ad + 1))) = true := decide_eq_true c15
               by_cases c16 : (wrap64 (ad + 1)) ≤ 3
               ·rw [if_pos c16] at H
                have c16b0 := eq_true c16
                have c16b1 : decide ((wrap64 (ad + 1)) ≤ 3) = true := decide_eq_true c16
                by_cases c17 : (rdOf ByteArray.empty aa af).size + ((⟨#[97, 98, 99]⟩ : ByteArray).extract (ad : Int).toNat ((wrap64 (ad + 1)) : Int).toNat).size ≤ 9223372036854775807
                ·rw [if_pos c17] at H
                 have c17b0 := eq_true c17
                 have c17b1 : decide ((rdOf ByteArray.empty aa af).size + ((⟨#[97, 98, 99]⟩ : ByteArray).extract (ad : Int).toNat ((wrap64 (ad + 1)) : Int).toNat).size ≤ 9223372036854775807) = true := decide_eq_true c17
                 try have c17b2 : (9223372036854775807 < (rdOf ByteArray.empty aa af).size + ((⟨#[97, 98, 99]⟩ : ByteArray).extract (ad : Int).toNat ((wrap64 (ad + 1)) : Int).toNat).size) = False := eq_false (Nat.not_lt.2 c17)
                 try have c17b3 : (9223372036854775807 < (rdOf ByteArray.empty aa af).size + (((wrap64 (ad + 1)) : Int).toNat - (ad : Int).toNat)) = False := eq_false (by have h_ := c17; rw [ByteArray.size_extract, show (⟨#[97, 98, 99]⟩ : ByteArray).size = 3 from rfl] at h_; omega)
                 try have c17b5 : (9223372036854775807 < (rdOf ByteArray.empty aa af).size + ((⟨#[97, 98, 99]⟩ : ByteArray).extract (ad : Int).toNat ((wrap64 (ad + 1)) : Int).toNat).size) = False := eq_false (by have h_ := c17; simp only [ByteArray.size_append, ByteArray.size_extract, show (⟨#[97, 98, 99]⟩ : ByteArray).size = 3 from rfl] at h_; first | omega | (simp only [decide_eq_true_eq] at *; omega))
                 by_cases c18 : ay.length < 8796093022208
                 ·rw [if_pos c18] at H
                  have LMc18 := am_ c18
                  clear c18
                  obtain ⟨bh, hy394⟩ : ∃ y_ : List ByteArray, y_ = (ay ++ [(rdOf ByteArray.empty aa af) ++ ((⟨#[97, 98, 99]⟩ : ByteArray).extract (ad : Int).toNat ((wrap64 (ad + 1)) : Int).toNat)]) := ⟨_, rfl⟩
                  replace H : (impl_WordsOfLength.l2 k3 bh (rdOf ByteArray.empty aa af) a0 am aa (aa.length : Int) af (wrap64 (ad + 1))) = some r := by first | (rw [hy394]; with_reducible exact H) | (have H2_ := (Option.bind_some _ _).symm.trans H; rw [hy394]; with_reducible exact H2_) | (have H2_ := (Option.bind_some _ _).symm.trans H; with_reducible exact H2_) | with_reducible exact H | (rw [hy394]; exact H) | exact H
                  have br := am_ hy394
                  clear hy394
                  have H' := am_ H
                  clear H
                  go_wp2_with (first | ((with_reducible refine gate_builtin (b := .append) (xs := #[.tmp 25, .tmp 32]) rfl ?_); at_builtin; refine Kd.R_append Kd.string (w0 := w) w.heap.size rfl (.tmp 25) (.tmp 32) 37 9 (.string ⟨#[]⟩) 16 rfl Try.underlying37 info9 rfl (by decide) (by omega) u4 ay ((rdOf ByteArray.empty aa af) ++ ((⟨#[97, 98, 99]⟩ : ByteArray).extract (ad : Int).toNat ((wrap64 (ad + 1)) : Int).toNat)) [.string ((rdOf ByteArray.empty aa af) ++ ((⟨#[97, 98, 99]⟩ : ByteArray).extract (ad : Int).toNat ((wrap64 (ad + 1)) : Int).toNat))] (fun k_ => some k_ ≠ (.slice (some aT) aa.length co9 : Value).ownBlock) (fun _ => False) rfl rfl ?aP (fun _ hk => hk.elim) ?aF ?aO ?aB ?aS ?aL ?_; (case aP => exact rfl); (case aB => exact (b0_ HB.out)); (case aF => exact (fun k_ hk => Kd.fresh' (Kd.R_lt (rr_ ap.out)) k_ hk)); (case aO => exact (rr_ aM.out)); (case aS => exact (below_size (b0_ HB.out))); (case aL => have := LMc18.out; omega); intro cd w19 ho hb hg hat; rw [← br.out] at ho; have n0_ := am_ (Kd.R_after (ok := (fun _ => True)) (by refine rr_ ?_; exact Kd.R_mono ap.out (fun _ hk => ⟨trivial, hk⟩)) hg hat); have n1_ := am_ (hb); have n2_ := am_ (ho); clear ap; clear HB; clear aM; have ap := n0_; have HB := n1_; have bs := n2_; clear n0_ n1_ n2_; clear ho hb hg hat))
                  go_roundg k3
                  case measure => have := HK1.out; have := HK2.out; have := HK3.out; omega
                  case rel => exact ⟨(bh), (wrap64 (ad + 1)), (by first | rfl | (simp; done) | (simp [*]; done)), H', ⟨by have := HK1.out; have := HK2.out; have := HK3.out; omega⟩, ⟨by refine rr_ ?_; exact bs.out⟩, ⟨by refine rr_ ?_; exact Kd.R_mono ap.out (fun _ hk => hk.2)⟩, ⟨by exact zp19_1_ HB.out⟩⟩
                 ·rw [if_neg c18] at H
                  exact absurd H (by simp)
                ·rw [if_neg c17] at H
                 exact absurd H (by simp)
               ·rw [if_neg c16] at H
                exact absurd H (by simp)
              ·rw [if_neg c15] at H
               exact absurd H (by simp)
             ·rw [if_neg c14] at H
              exact absurd H (by simp)
            ·rw [if_neg c13] at H
             have c13b0 : decide (ad < 3) = false := decide_eq_false c13
             clear c13
             have H' := am_ H
             clear H
             go_wp2
             go_roundg k3
             case measure => have := HK1.out; have := HK2.out; have := HK3.out; omega
             case rel => exact ⟨(ay), (wrap64 (af + 1)), (by first | rfl | (simp; done) | (simp [*]; done)), H', ⟨by have := HK1.out; have := HK2.out; have := HK3.out; omega⟩, ⟨by refine rr_ ?_; exact aM.out⟩, ⟨by refine rr_ ?_; exact ap.out⟩, ⟨by exact zp19_1_ HB.out⟩⟩
         ·rw [if_neg c12] at H
          exact absurd H (by simp)
        ·rw [if_neg c11] at H
         exact absurd H (by simp)
       ·rw [if_neg c10] at H
        have c10b0 : decide (af < (aa.length : Int)) = false := decide_eq_false c10
        clear c10
        have H' := am_ H
        clear H
        go_wp2
        go_roundg k2
        case measure => have := HK1.out; have := HK2.out; omega
        case rel => exact ⟨(aQ), (wrap64 (am + 1)), (by first | rfl | (simp; done) | (simp [*]; done)), H', ⟨by have := HK1.out; have := HK2.out; omega⟩, ⟨by refine rr_ ?_; exact Kd.R_mono aM.out (fun _ hk => trivial)⟩, ⟨by exact zp19_1_ HB.out⟩⟩
    ·rw [if_neg c6] at H
     have c6b0 : decide (am < a0) = false := decide_eq_false c6
     clear c6
     obtain rfl := Option.some.inj H
     simp only [Option.some.injEq, Prod.mk.injEq] at H
     obtain ⟨rfl⟩ := H
     go_wp2
     go_ret
     exact ⟨_, by first | rfl | (simp [errW_none, errW_some] <;> rfl) | (simp [*, errW_none, errW_some] <;> rfl), by refine rr_ ?_; exact al.out, by exact zp19_1_ HB.out⟩
 ·replace c3 := Bool.eq_false_iff.mpr c3
  subst c3
  have H1 : (some ([] : List ByteArray)) = some r := by rw [if_neg (show ¬ (false = true) by decide)] at H; exact H
  clear H
  have H := H1
  clear H1
  obtain rfl := Option.some.inj H
  simp only [Option.some.injEq, Prod.mk.injEq] at H
  obtain ⟨rfl⟩ := H
  go_enter Try.func59, Try.ntmps59
  go_wp2_with (first | ((with_reducible refine gate_callee (f := 49) rfl ?_); refine gL_ (some 9) Try.func49 #[.int .i64 a0, .int .i64 0, .int .i64 5] ?_; (with_reducible refine (impl_within.calls a0 0 5 false _ A2.out).mono ?_); rintro e w' ⟨rfl, ⟨nd, rfl⟩⟩; refine ⟨_, rfl, ?_⟩))
  go_ret
  exact ⟨_, by first | rfl | (simp [errW_none, errW_some] <;> rfl) | (simp [*, errW_none, errW_some] <;> rfl), by first | exact Kd.R_nil _ _ _ _ _ | exact Kd.N_nil _ _ _ _ _ | exact Kd.V_nil _ _ _ _ _ | exact Kd.Q_nil _ _ _ _ _ | exact Kd.S_nil _ _ _ _ _, by exact zp19_1_ HB.out⟩
def impl_WordsUpTo.l0 : Nat → Int → List ByteArray → Int → Option (List ByteArray)
  | 0, _, _, _ => none
  | k + 1, x0, x3, x4 => if x4 ≤ (mn x0 5) then ((impl_WordsOfLength.f k x4).bind fun aq => (if x3.length + aq.length < 8796093022208 then (impl_WordsUpTo.l0 k x0 (x3 ++ aq) (wrap64 (x4 + 1))) else (none))) else (some x3)
def impl_WordsUpTo.f (k : Nat) (a0 : Int) : Option (List ByteArray) := if a0 < 0 then (some ([] : List ByteArray)) else (impl_WordsUpTo.l0 k a0 (([] : List ByteArray)) 0)
theorem impl_WordsUpTo.mono_l : ∀ k, (∀ y0 y1 y2, LeO (impl_WordsUpTo.l0 k y0 y1 y2) (impl_WordsUpTo.l0 (k + 1) y0 y1 y2))
  | 0 => fun _ _ _ r h => by simp [impl_WordsUpTo.l0] at h
  | k + 1 => by
    have ih0 := impl_WordsUpTo.mono_l k
    · intro y0 y1 y2
      unfold impl_WordsUpTo.l0
      repeat' first
      | (with_reducible exact ih0 _ _ _)
      | (with_reducible exact impl_WordsOfLength.mono _ _)
      | (with_reducible exact LeO.refl _)
      | (with_reducible exact LeO.none _)
      | (with_reducible refine LeO.ite ?_ ?_)
      | (with_reducible refine LeO.bind ?_ (fun _ => ?_))
      | exact ih0 _ _ _
      | exact impl_WordsOfLength.mono _ _
      | exact LeO.none _
      | refine LeO.ite ?_ ?_
      | refine LeO.bind ?_ (fun _ => ?_)
theorem impl_WordsUpTo.mono : ∀ a0 k, LeO (impl_WordsUpTo.f k a0) (impl_WordsUpTo.f (k + 1) a0) := by
  intro a0 k
  have ih0 := impl_WordsUpTo.mono_l k
  unfold impl_WordsUpTo.f
  repeat' first
      | (with_reducible exact ih0 _ _ _)
      | (with_reducible exact impl_WordsOfLength.mono _ _)
      | (with_reducible exact LeO.refl _)
      | (with_reducible exact LeO.none _)
      | (with_reducible refine LeO.ite ?_ ?_)
      | (with_reducible refine LeO.bind ?_ (fun _ => ?_))
      | exact ih0 _ _ _
      | exact impl_WordsOfLength.mono _ _
      | exact LeO.none _
      | refine LeO.ite ?_ ?_
      | refine LeO.bind ?_ (fun _ => ?_)
set_option maxHeartbeats 8000000 in
set_option maxRecDepth 100000 in
theorem impl_WordsUpTo.calls (k : Nat) (a0 : Int) (r : List ByteArray) (w : World) (h : impl_WordsUpTo.f k a0 = some r) :
    Calls Try.prog 42 #[.int .i64 a0] w fun e w' => ∃ v0_ : Value, e = .returned (v0_) ∧ Kd.R Kd.string 9 w' w.heap.size (fun _ => True) v0_ r ∧ Below w.heap.size w w' := by
  have HB := am_ (Below.refl w.heap.size w)
  have H : (if a0 < 0 then (some ([] : List ByteArray)) else (impl_WordsUpTo.l0 k a0 (([] : List ByteArray)) 0)) = some r := h
  clear h
  by_cases c2 : a0 < 0
  · rw [if_pos c2] at H
    have c2b0 : decide (a0 < 0) = true := decide_eq_true c2
    clear c2
    obtain rfl := Option.some.inj H
    simp only [Option.some.injEq, Prod.mk.injEq] at H
    obtain ⟨rfl⟩ := H
    go_enter Try.func42, Try.ntmps42
    go_wp2
    go_ret
    exact ⟨_, by first | rfl | (simp [errW_none, errW_some] <;> rfl) | (simp [*, errW_none, errW_some] <;> rfl), by first | exact Kd.R_nil _ _ _ _ _ | exact Kd.N_nil _ _ _ _ _ | exact Kd.V_nil _ _ _ _ _ | exact Kd.Q_nil _ _ _ _ _ | exact Kd.S_nil _ _ _ _ _, by exact zp19_1_ HB.out⟩
  · rw [if_neg c2] at H
    have c2b0 : decide (a0 < 0) = false := decide_eq_false c2
    clear c2
    obtain ⟨bi, hy397⟩ : ∃ y_ : List ByteArray, y_ = (([] : List ByteArray)) := ⟨_, rfl⟩
    replace H : (impl_WordsUpTo.l0 k a0 bi 0) = some r := by first | (rw [hy397]; with_reducible exact H) | (have H2_ := (Option.bind_some _ _).symm.trans H; rw [hy397]; with_reducible exact H2_) | (have H2_ := (Option.bind_some _ _).symm.trans H; with_reducible exact H2_) | with_reducible exact H | (rw [hy397]; exact H) | exact H
    have aZ := am_ hy397
    clear hy397
    have H' := am_ H
    clear H
    go_enter Try.func42, Try.ntmps42
    go_wp2_with (first | ((with_reducible refine gate_dst (N := 7) rfl ?_); refine Kd.R_lit Kd.string _ 9 ?hg (N := 7) ?hd (xs := ([] : List ByteArray)) (inner := []) (ok := fun _ => True) (okp := fun _ => True) ?hr ?hp (fun _ hk => hk) trivial (Below.refl _ _) (Nat.le_refl _) (by simp) ?_; (case hd => rfl); (case hg => rfl); (case hr => first | (go_simp; done) | (go_simp; rfl)); (case hp => exact (Reps.none _ _)); intro ce w3 ho4 hb hg_ hnew_; clear hg_ hnew_; (first | rw [← aZ.out] at ho4 | (simp only [Int.reduceToNat] at ho4; rw [← aZ.out] at ho4)); replace bt := am_ (Kd.R_lower ho4 (below_size (b0_ HB.out))); replace HB := am_ (below_step (b0_ HB.out) hb); clear hb ho4))
    go_loopg [3, 4] k (fun kq v3 v4 w' => ∃ (aa : List ByteArray) (an : Int), v4 = .int .i64 an ∧ Aside0 (impl_WordsUpTo.l0 kq a0 aa an = some r) ∧ Aside0 (kq ≤ k) ∧ Aside0 (Kd.R Kd.string 9 w' w.heap.size (fun _ => True) v3 aa) ∧ Aside0 (Below w.heap.size w w'))
    case atStart => exact ⟨(bi), (0), (by first | rfl | (simp; done) | (simp [*]; done)), H', ⟨Nat.le_refl _⟩, ⟨by refine rr_ ?_; exact bt.out⟩, ⟨by exact zp19_1_ HB.out⟩⟩
    case round =>
      clear H'
      try clear c2
      try clear c2b0
      try clear p2
      try clear c4
      obtain ⟨aa, an, rfl, HA, HK1, al, HB⟩ := hrel
      cases gk with
      | zero => exact absurd HA.out (by simp [impl_WordsUpTo.l0])
      | succ k1 =>
        have H := HA.out
        clear HA
        simp only [impl_WordsUpTo.l0] at H
        obtain ⟨ji5, hji5⟩ : ∃ j_ : Int, (mn a0 5) = j_ := ⟨_, rfl⟩
        replace H : (if an ≤ (ji5) then ((impl_WordsOfLength.f k1 an).bind fun aq => (if aa.length + aq.length < 8796093022208 then (impl_WordsUpTo.l0 k1 a0 (aa ++ aq) (wrap64 (an + 1))) else (none))) else (some aa)) = some r := by first | (rw [hji5] at H; exact H) | (simp only [hji5] at H ⊢; exact H)
        have hji5_ : (if 5 < a0 then 5 else a0) = ji5 := hji5
        by_cases c6 : an ≤ (ji5)
        · rw [if_pos c6] at H
          have c6b0 : decide (an ≤ (ji5)) = true := decide_eq_true c6
          clear c6
          replace H := Option.bind_eq_some_iff.mp H
          obtain ⟨aq, A70, H⟩ := H
          have A7 := am_ A70
          clear A70
          by_cases c8 : aa.length + aq.length < 8796093022208
          · rw [if_pos c8] at H
            have LMc8 := am_ c8
            clear c8
            obtain ⟨bj, hy403⟩ : ∃ y_ : List ByteArray, y_ = (aa ++ aq) := ⟨_, rfl⟩
            replace H : (impl_WordsUpTo.l0 k1 a0 bj (wrap64 (an + 1))) = some r := by first | (rw [hy403]; with_reducible exact H) | (have H2_ := (Option.bind_some _ _).symm.trans H; rw [hy403]; with_reducible exact H2_) | (have H2_ := (Option.bind_some _ _).symm.trans H; with_reducible exact H2_) | with_reducible exact H | (rw [hy403]; exact H) | exact H
            have bu := am_ hy403
            clear hy403
            have H' := am_ H
            clear H
            go_wp2_with (first | ((with_reducible refine gate_callee (f := 59) rfl ?_); refine gL_ (some 16) Try.func59 #[.int .i64 an] ?_; (with_reducible refine (impl_WordsOfLength.calls k1 an aq _ A7.out).mono ?_); rintro e w9 ⟨cf, rfl, ho0, hb⟩; refine ⟨_, rfl, ?_⟩; have n0_ := am_ (Kd.R_elder' (rr_ al.out) (Kd.R_base ho0) hb); have n1_ := am_ (Kd.R_lower (Kd.R_new' ho0 (Kd.R_lt (rr_ al.out))) (below_size (b0_ HB.out))); have n2_ := am_ (below_step (b0_ HB.out) hb); clear al; clear HB; have al := n0_; have ax := n1_; have HB := n2_; clear n0_ n1_ n2_; (try clear hb); (try clear hb2); (try clear hk); (try clear hi); (try clear ho0); obtain ⟨bC, bD, bE⟩ := Kd.R_slice ax.out; subst bE) | ((with_reducible refine gate_builtin (b := .append) (xs := #[.tmp 14, .tmp 16]) rfl ?_); at_builtin; refine Kd.R_append_rows Kd.string (w0 := w) w.heap.size rfl (.tmp 14) (.tmp 16) 37 9 (.string ⟨#[]⟩) 16 rfl Try.underlying37 info9 rfl (by decide) (by omega) u3 aa aq _ _ _ (fun k_ => some k_ ≠ (.slice bC aq.length bD : Value).ownBlock) (fun _ => False) rfl rfl ?aO ?aR (fun _ _ h => h) (fun _ h => h.elim) ?aF ?aB ?aS ?aL ?_; (case aR => exact rc_ ((Kd.R_reads' ax.out).2.2)); (case aB => exact (b0_ HB.out)); (case aF => exact (fun k_ hk => Kd.fresh' (Kd.R_lt (rr_ ax.out)) k_ hk)); (case aO => exact (rr_ (Kd.R_mono al.out (fun _ hk => hk.2)))); (case aS => exact (below_size (b0_ HB.out))); (case aL => have := LMc8.out; omega); intro cg w10 ho hb hg hat; rw [← bu.out] at ho; have n0_ := am_ (Kd.R_after (ok := (fun _ => True)) (rr_ ax.out) hg hat); have n1_ := am_ (hb); have n2_ := am_ (ho); clear ax; clear HB; clear al; have ax := n0_; have HB := n1_; have bv := n2_; clear n0_ n1_ n2_; clear ho hb hg hat))
            go_roundg k1
            case measure => have := HK1.out; omega
            case rel => exact ⟨(bj), (wrap64 (an + 1)), (by first | rfl | (simp; done) | (simp [*]; done)), H', ⟨by have := HK1.out; omega⟩, ⟨by refine rr_ ?_; exact Kd.R_mono bv.out (fun _ hk => trivial)⟩, ⟨by exact zp19_1_ HB.out⟩⟩
          · rw [if_neg c8] at H
            exact absurd H (by simp)
        · rw [if_neg c6] at H
          have c6b0 : decide (an ≤ (ji5)) = false := decide_eq_false c6
          clear c6
          obtain rfl := Option.some.inj H
          simp only [Option.some.injEq, Prod.mk.injEq] at H
          obtain ⟨rfl⟩ := H
          go_wp2
          go_ret
          exact ⟨_, by first | rfl | (simp [errW_none, errW_some] <;> rfl) | (simp only [← hji5]; first | rfl | (simp [errW_none, errW_some] <;> rfl)) | (simp [*, errW_none, errW_some] <;> rfl), by refine rr_ ?_; exact al.out, by exact zp19_1_ HB.out⟩
end Go.Proofs.Ytpgdhpnmagmooaa.P
end
section
namespace Go.Proofs.Ytpgdhpnmagmooaa.Wu
open Go.RowKit Go.Proofs.Ytpgdhpnmagmooaa.P Go.Proofs.Ytpgdhpnmagmooaa.Pl Go.Proofs.YtpgdhpnmagmooaaW.PrintWords Go.Proofs.YtpgdhpnmagmooaaW.PrintLast Go.Proofs.YtpgdhpnmagmooaaW.PrintMore
set_option linter.unusedVariables false
set_option linter.unusedSimpArgs false
theorem impl_words_l2 (w : ByteArray) (n r : Int) (l : List ByteArray) (m : Int) (i : Nat) (out : List ByteArray) (res : List ByteArray) (hsz : w.size ≤ 1000) (ho : out.length ≤ 1000000) (hi : i ≤ 1000000)
    (h : Ev (fun k => impl_WordsOfLength.l1 k (out ++ three w) n r l m ((i + 1 : Nat) : Int)) res) : Ev (fun k => impl_WordsOfLength.l2 k out w n r l m i 0) res := by
  have w0 : wrap64 ((0 : Int) + 1) = 1 := by unfold wrap64; omega
  have w1 : wrap64 ((1 : Int) + 1) = 2 := by unfold wrap64; omega
  have w2 : wrap64 ((2 : Int) + 1) = 3 := by unfold wrap64; omega
  have p0 : (⟨#[97, 98, 99]⟩ : ByteArray).extract (0 : Int).toNat (1 : Int).toNat = pc 0 := rfl
  have p1 : (⟨#[97, 98, 99]⟩ : ByteArray).extract (1 : Int).toNat (2 : Int).toNat = pc 1 := rfl
  have p2 : (⟨#[97, 98, 99]⟩ : ByteArray).extract (2 : Int).toNat (3 : Int).toNat = pc 2 := rfl
  refine next ?_
  simp only [impl_WordsOfLength.l2, if_pos (show (0 : Int) < 3 by omega), if_pos (show (0 : Int) ≤ 0 by omega), w0, if_pos (show (0 : Int) ≤ 1 by omega), if_pos (show (1 : Int) ≤ 3 by omega), p0, size_pc 0 (by omega), if_pos (show w.size + 1 ≤ 9223372036854775807 by omega), if_pos (show out.length < 8796093022208 by omega)]
  refine next ?_
  simp only [impl_WordsOfLength.l2, if_pos (show (1 : Int) < 3 by omega), if_pos (show (0 : Int) ≤ 1 by omega), w1, if_pos (show (1 : Int) ≤ 2 by omega), if_pos (show (2 : Int) ≤ 3 by omega), p1, size_pc 1 (by omega), if_pos (show w.size + 1 ≤ 9223372036854775807 by omega), List.length_append, List.length_cons, List.length_nil, if_pos (show out.length + (0 + 1) < 8796093022208 by omega)]
  refine next ?_
  simp only [impl_WordsOfLength.l2, if_pos (show (2 : Int) < 3 by omega), if_pos (show (0 : Int) ≤ 2 by omega), w2, if_pos (show (2 : Int) ≤ 3 by omega), if_pos (show (3 : Int) ≤ 3 by omega), p2, size_pc 2 (by omega), if_pos (show w.size + 1 ≤ 9223372036854775807 by omega), List.length_append, List.length_cons, List.length_nil, if_pos (show out.length + (0 + 1) + (0 + 1) < 8796093022208 by omega)]
  refine next ?_
  simp only [impl_WordsOfLength.l2, if_neg (show ¬ (3 : Int) < 3 by omega)]
  have e : out ++ [w ++ pc 0] ++ [w ++ pc 1] ++ [w ++ pc 2] = out ++ three w := by simp [three]
  rw [e, up1 (by omega)]
  exact h
theorem impl_words_l1 (n r : Int) (l : List ByteArray) (hsz : ∀ w ∈ l, w.size ≤ 1000) (hll : l.length ≤ 100000) (res : List ByteArray) (h : Ev (fun k => impl_WordsOfLength.l0 k (longer l) n (wrap64 (r + 1))) res) :
    ∀ (d i : Nat) (out : List ByteArray), i + d = l.length → out = longer (l.take i) → Ev (fun k => impl_WordsOfLength.l1 k out n r l (l.length : Int) i) res := by
  intro d
  induction d with
  | zero =>
    intro i out hd ho
    refine next ?_
    simp only [impl_WordsOfLength.l1, if_neg (show ¬ (i : Int) < (l.length : Int) by omega)]
    rw [ho, List.take_of_length_le (by omega)]
    exact h
  | succ d ih =>
    intro i out hd ho
    have hi : i < l.length := by omega
    refine next ?_
    simp only [impl_WordsOfLength.l1, if_pos (show (i : Int) < (l.length : Int) by omega), if_pos (show (0 : Int) ≤ i by omega), rdOf_get _ l i hi]
    refine impl_words_l2 _ n r l _ i out res (hsz _ (List.getElem_mem _)) (by rw [ho, len_longer, List.length_take]; omega) (by omega) ?_
    refine ih (i + 1) _ (by omega) ?_
    rw [ho, List.take_succ_eq_append_getElem hi]
    simp only [longer, List.flatMap_append, List.flatMap_cons, List.flatMap_nil, List.append_nil]
theorem impl_words_l0 (n : Nat) (hn : n ≤ 5) : ∀ (d i : Nat), i + d = n → Ev (fun k => impl_WordsOfLength.l0 k (wordsN i) n i) (wordsN n) := by
  intro d
  induction d with
  | zero =>
    intro i h
    refine next ?_
    simp only [impl_WordsOfLength.l0, if_neg (show ¬ (i : Int) < (n : Int) by omega)]
    have : i = n := by omega
    subst this
    exact Ev.now _
  | succ d ih =>
    intro i h
    have hlen : (wordsN i).length ≤ 100000 := by
      rw [len_words]
      have : 3 ^ i ≤ 3 ^ 5 := Nat.pow_le_pow_right (by omega) (by omega)
      omega
    refine next ?_
    simp only [impl_WordsOfLength.l0, if_pos (show (i : Int) < (n : Int) by omega)]
    refine impl_words_l1 n i (wordsN i) (fun w hw => by rw [size_words i w hw]; omega) hlen _ ?_ (wordsN i).length 0 [] (by omega) rfl
    rw [up1 (by omega)]
    exact ih (i + 1) (by omega)
theorem impl_words (n : Int) : Ev (fun k => impl_WordsOfLength.f k n) (if 0 ≤ n ∧ n ≤ 5 then wordsN n.toNat else []) := by
  simp only [impl_WordsOfLength.f, impl_within.f]
  by_cases h0 : 0 ≤ n
  · by_cases h5 : n ≤ 5
    · simp only [ge_iff_le, if_pos h0, Option.bind_some, h5, decide_true, if_true, h0, true_and]
      obtain ⟨m, rfl⟩ := Int.eq_ofNat_of_zero_le h0
      rw [Int.toNat_natCast]
      exact impl_words_l0 m (by omega) m 0 (by omega)
    · simp only [ge_iff_le, if_pos h0, Option.bind_some, h5, decide_false, if_neg Bool.false_ne_true, h0, true_and, if_false]
      exact Ev.now _
  · simp only [ge_iff_le, if_neg h0, Option.bind_some, h0, false_and, if_false, if_neg Bool.false_ne_true]
    exact Ev.now _
theorem impl_upto_l0 (n : Int) (m : Nat) (hm : (m : Int) = min n 5) : ∀ (d i : Nat), i + d = m + 1 → Ev (fun k => impl_WordsUpTo.l0 k n (before i) i) (upto m) := by
  have hmn : mn n 5 = min n 5 := by unfold mn; split <;> omega
  intro d
  induction d with
  | zero =>
    intro i h
    have e : i = m + 1 := by omega
    subst e
    refine next ?_
    simp only [impl_WordsUpTo.l0, hmn, if_neg (show ¬ ((m + 1 : Nat) : Int) ≤ min n 5 by omega)]
    exact Ev.now _
  | succ d ih =>
    intro i h
    refine next ?_
    simp only [impl_WordsUpTo.l0, hmn, if_pos (show (i : Int) ≤ min n 5 by omega), up1 (show i < 9223372036854775807 by omega)]
    refine Ev.bind (impl_words i) ?_
    rw [if_pos (by omega), Int.toNat_natCast]
    have hl := (len_upto i (by omega)).1
    rw [← before_next, List.length_append] at hl
    simp only [if_pos (show (before i).length + (wordsN i).length < 8796093022208 by omega), before_next]
    exact ih (i + 1) (by omega)
theorem impl_upto (n : Int) : Ev (fun k => impl_WordsUpTo.f k n) (if n < 0 then [] else upto (min n 5).toNat) := by
  simp only [impl_WordsUpTo.f]
  by_cases h : n < 0
  · simp only [if_pos h]
    exact Ev.now _
  · simp only [if_neg h]
    exact impl_upto_l0 n (min n 5).toNat (by omega) ((min n 5).toNat + 1) 0 (by omega)
end Go.Proofs.Ytpgdhpnmagmooaa.Wu
end
section
namespace Go.Proofs.Ytpgdhpnmagmooaa.Rk
open Go.RowKit Go.Deep Go.ChangeShapes Go.WideShapes Go.Proofs.YtpgdhpnmagmooaaW.PrintWords Go.Proofs.YtpgdhpnmagmooaaW.PrintLast Go.Proofs.YtpgdhpnmagmooaaW.PrintMore
set_option linter.unusedVariables false
set_option linter.unusedSimpArgs false
variable {H : Type} {enc : TypeId × Value → H} {P : Program} {w : World} {base : Nat} {spare : Nat → Bool} {held : Bool} {α : Type}
def Opens (enc : TypeId × Value → H) (P : Program) (w : World) (base : Nat) (spare : Nat → Bool) (held : Bool) (K : Kd α) (G : α → Prop) (t : TypeId) : Prop :=
  ∀ (fuel : Nat) (cs : List Value) (x : DataW H × List MemPlace), DataW.trod enc P w base spare held fuel t cs = some x → ∃ a, K.K w a cs ∧ G a
def wfI (k : IntKind) (n : Int) : Prop := (Lit.int k n).wf = true
def rowsOf (G : α → Prop) (xs : List α) : Prop := xs.length ≤ 9223372036854775807 ∧ ∀ x ∈ xs, G x
theorem opens_int {k : IntKind} {t : TypeId} (ht : P.underlying t = some (.int k)) : Opens enc P w base spare held (Kd.int k) (wfI k) t := by
  intro fuel cs x h
  obtain ⟨n, rfl, _, h2⟩ := DataW.trod_int ht h
  exact ⟨n, rfl, h2⟩
theorem opens_bool {t : TypeId} (ht : P.underlying t = some .bool) : Opens enc P w base spare held Kd.bool (fun _ => True) t := by
  intro fuel cs x h
  obtain ⟨b, rfl, _⟩ := DataW.trod_bool ht h
  exact ⟨b, rfl, trivial⟩
theorem opens_slice [Inhabited α] {K : Kd α} {G : α → Prop} {t e : TypeId} (q : Nat) (ht : P.underlying t = some (.slice e)) (hc : P.cellsOf e = 1) (hs : K.sz = 1) (h : Opens enc P w base spare held K G e) : Opens enc P w base spare held (Kd.slice q K) (rowsOf G) t := by
  intro fuel cs x hx
  rcases open_slice1 ht hc hx with ⟨rfl, _⟩ | ⟨a, len, cap, m, n, V, D, Pl, rfl, _, hl, hm, hmm, _, hx⟩
  · exact ⟨[], ⟨none, 0, rfl, Nat.le_refl _, rfl, by simp, fun h0 => absurd h0 (Nat.lt_irrefl _)⟩, by simp, fun x hx => by cases hx⟩
  · have hle : len ≤ m := by rw [hmm]; split <;> omega
    obtain ⟨f, hf⟩ := choose_lt (n := len) (p := fun i y => K.K w y [V i] ∧ G y) (fun i hi => h _ _ _ (hx i (by omega)).2)
    have hlen : ((List.range len).map f).length = len := by simp
    have hbig : len ≤ 9223372036854775807 := by unfold maxLen at hm; omega
    refine ⟨(List.range len).map f, ⟨some a, cap, by rw [hlen], by rw [hlen]; exact hl, hlen.symm ▸ rfl, ?_, fun _ => ⟨a, rfl, fun j p hj => ?_⟩⟩, by rw [hlen]; exact hbig, fun x hx => ?_⟩
    · rw [hlen]; exact hbig
    · have hjl : j < len := by
        have := (List.getElem?_eq_some_iff.1 hj).1
        rwa [hlen] at this
      have hp : f j = p := by
        rw [List.getElem?_map, List.getElem?_range hjl] at hj
        simpa using hj
      subst hp
      refine ⟨[V j], hs.symm, (hf j hjl).1, fun i u hu => ?_⟩
      cases i with
      | zero =>
        have : V j = u := by simpa using hu
        subst this
        rw [hs, Nat.mul_one, Nat.add_zero]
        exact (hx j (by omega)).1
      | succ i => simp at hu
    · obtain ⟨i, hi, rfl⟩ := List.mem_map.mp hx
      exact (hf i (List.mem_range.mp hi)).2
theorem slice_of {K : Kd α} {q : Nat} {v : Value} {xs : List α} (h : (Kd.slice q K).K w xs [v]) : ∃ A c, v = .slice A xs.length c ∧ xs.length ≤ c ∧ K.C w A xs.length xs := by
  obtain ⟨A, c, e, h1, h2⟩ := h
  exact ⟨A, c, by simpa using e, h1, h2⟩
end Go.Proofs.Ytpgdhpnmagmooaa.Rk
end
