/- Texts of the proof of FnExactIsFinite, put together. No condition. -/
import Derived.Test.YtpgdhpnmagmooaaQFnExactIsFinite2
import Derived.Test.YtpgdhpnmagmooaaQFnExactIsFinite3
import Derived.Test.YtpgdhpnmagmooaaQFnExactIsFinite4
section
namespace Go.Proofs.Ytpgdhpnmagmooaa.P
open Go.RowKit Go.Proofs.YtpgdhpnmagmooaaW.PrintWords Go.Proofs.YtpgdhpnmagmooaaW.PrintLast Go.Proofs.YtpgdhpnmagmooaaW.PrintMore
attribute [local go_sem] max2_int min2_int max_two min_two max_three min_three max_four min_four
set_option linter.unusedVariables false
set_option linter.unusedSimpArgs false
def spec_IsFinite.l0 : Nat → List Int → Int → List Bool → List (List Int) → Option (Bool)
  | 0, _, _, _, _ => none
  | k + 1, x3, x4, ar, au => if x4 < (x3.length : Int) then (if 0 ≤ x4 then ((spec_l7Reach.f ar au (rd x3 x4)).bind fun aj => ((spec_l5Find.f k aj (rd x3 x4)).bind fun aq => (if aq ≥ 0 then ((spec_l6Any.f k ar au aj).bind fun aA => (if aA = true then (some false) else (spec_IsFinite.l0 k x3 (wrap64 (x4 + 1)) ar au))) else (spec_IsFinite.l0 k x3 (wrap64 (x4 + 1)) ar au)))) else (none)) else (some true)
def spec_IsFinite.f (k : Nat) (l0_0 : List Bool) (l0_1 : List (List Int)) : Option (Bool) := (spec_IsValidDfa.f k l0_0 l0_1).bind fun ax => (if ax = true then ((spec_l7Reach.f l0_0 l0_1 0).bind fun ak => ((spec_l6Put.f k ak 0).bind fun ae => (spec_IsFinite.l0 k ae 0 l0_0 l0_1))) else (some false))
theorem spec_IsFinite.mono_l : ∀ k, (∀ y0 y1 y2 y3, LeO (spec_IsFinite.l0 k y0 y1 y2 y3) (spec_IsFinite.l0 (k + 1) y0 y1 y2 y3))
 | 0 => fun _ _ _ _ r h => by simp [spec_IsFinite.l0] at h
 | k + 1 => by
  have ih0 := spec_IsFinite.mono_l k
  ·intro y0 y1 y2 y3
   unfold spec_IsFinite.l0
   repeat' first
   | (with_reducible exact ih0 _ _ _ _)
   | (with_reducible exact spec_IsValidDfa.mono _ _ _)
   | (with_reducible exact spec_l5Find.mono _ _ _)
   | (with_reducible exact spec_l6Any.mono _ _ _ _)
   | (with_reducible exact spec_l6Put.mono _ _ _)
   | (with_reducible exact LeO.refl _)
   | (with_reducible exact LeO.none _)
   | (with_reducible refine LeO.ite ?_ ?_)
   | (with_reducible refine LeO.bind ?_ (fun _ => ?_))
   | exact ih0 _ _ _ _
   | exact spec_IsValidDfa.mono _ _ _
   | exact spec_l5Find.mono _ _ _
   | exact spec_l6Any.mono _ _ _ _
   | exact spec_l6Put.mono _ _ _
   | exact LeO.none _
   | refine LeO.ite ?_ ?_
   | refine LeO.bind ?_ (fun _ => ?_)
theorem spec_IsFinite.mono : ∀ a0 a1 k, LeO (spec_IsFinite.f k a0 a1) (spec_IsFinite.f (k + 1) a0 a1) := by
 intro a0 a1 k
 have ih0 := spec_IsFinite.mono_l k
 unfold spec_IsFinite.f
 repeat' first
   | (with_reducible exact ih0 _ _ _ _)
   | (with_reducible exact spec_IsValidDfa.mono _ _ _)
   | (with_reducible exact spec_l5Find.mono _ _ _)
   | (with_reducible exact spec_l6Any.mono _ _ _ _)
   | (with_reducible exact spec_l6Put.mono _ _ _)
   | (with_reducible exact LeO.refl _)
   | (with_reducible exact LeO.none _)
   | (with_reducible refine LeO.ite ?_ ?_)
   | (with_reducible refine LeO.bind ?_ (fun _ => ?_))
   | exact ih0 _ _ _ _
   | exact spec_IsValidDfa.mono _ _ _
   | exact spec_l5Find.mono _ _ _
   | exact spec_l6Any.mono _ _ _ _
   | exact spec_l6Put.mono _ _ _
   | exact LeO.none _
   | refine LeO.ite ?_ ?_
   | refine LeO.bind ?_ (fun _ => ?_)
theorem zp6_0_ {p q g1 : Prop} (h : p) (h1 : g1) (c : p → g1 → q := by intro h_ h1_; repeat (first | (with_reducible first | exact h_ | apply below_alloc | apply pw_below_drewN | apply below_drew1 | refine below_set ?_ h1_) | exact h_)) : q := c h h1
set_option maxHeartbeats 8000000 in
set_option maxRecDepth 100000 in
theorem spec_IsFinite.calls (k : Nat) (A0_0 : Option Addr) (c0_0 : Nat) (l0_0 : List Bool) (A0_1 : Option Addr) (c0_1 : Nat) (l0_1 : List (List Int)) (r : Bool) (w : World) (hr0_0 : Kd.C Kd.bool w A0_0 l0_0.length l0_0) (hc0_0 : l0_0.length ≤ c0_0) (hr0_1 : Kd.C (Kd.slice 3 (Kd.int .i64)) w A0_1 l0_1.length l0_1) (hc0_1 : l0_1.length ≤ c0_1) (h : spec_IsFinite.f k l0_0 l0_1 = some r) :
  Calls Try.prog 7 #[.agg #[.slice A0_0 l0_0.length c0_0, .slice A0_1 l0_1.length c0_1]] w fun e w' => e = .returned (.bool r) ∧ Below w.heap.size w w' := by
 have hu28 := Try.underlying28
 have al := am_ hr0_0
 have am := am_ hc0_0
 clear hr0_0 hc0_0
 have an := am_ hr0_1
 have ao := am_ hc0_1
 clear hr0_1 hc0_1
 have HB := am_ (Below.refl w.heap.size w)
 have H : ((spec_IsValidDfa.f k l0_0 l0_1).bind fun ax => (if ax = true then ((spec_l7Reach.f l0_0 l0_1 0).bind fun ak => ((spec_l6Put.f k ak 0).bind fun ae => (spec_IsFinite.l0 k ae 0 l0_0 l0_1))) else (some false))) = some r := h
 clear h
 replace H := Option.bind_eq_some_iff.mp H
 obtain ⟨ax, A20, H⟩ := H
 have A2 := am_ A20
 clear A20
 by_cases c3 : ax = true
 ·subst c3
  have H1 : ((spec_l7Reach.f l0_0 l0_1 0).bind fun ak => ((spec_l6Put.f k ak 0).bind fun ae => (spec_IsFinite.l0 k ae 0 l0_0 l0_1))) = some r := by rw [if_pos rfl] at H; exact H
  clear H
  have H := H1
  clear H1
  replace H := Option.bind_eq_some_iff.mp H
  obtain ⟨ak, A40, H⟩ := H
  have A4 := am_ A40
  clear A40
  replace H := Option.bind_eq_some_iff.mp H
  obtain ⟨ae, A50, H⟩ := H
  replace H : (spec_IsFinite.l0 k ae 0 l0_0 l0_1) = some r := H
  have A5 := am_ A50
  clear A50
  have H' := am_ H
  clear H
  go_enter Try.func7, Try.ntmps7
  go_wp2_with (first | ((with_reducible refine gate_dst (N := 1) rfl ?_); refine box_event ?hg (N := 1) ?hd (cs := #[.slice A0_0 l0_0.length c0_0, .slice A0_1 l0_1.length c0_1]) (t := 28) ?hr ?_; (case hd => rfl); (case hg => rfl); (case hr => first | (go_simp; done) | (go_simp; rfl)); intro ah hg w6 hbox hb; replace aa := am_ (hbox); replace aP := am_ ((by rw [hg]; exact (below_size (b0_ HB.out)) : w.heap.size ≤ ah)); replace af := am_ ((by rw [hg]; exact (below_size (b0_ HB.out)) : w.heap.size ≤ ah)); replace HB := am_ (below_step (b0_ HB.out) hb); clear hb hbox hg; have aD := ck_ (v := (.slice A0_0 l0_0.length c0_0)) aa 0 rfl; have aE := ck_ (v := (.slice A0_1 l0_1.length c0_1)) aa 1 rfl; have aF := blk_frozen aa.out 0; have aG := blk_frozen aa.out 1) | ((with_reducible refine gate_callee (f := 24) rfl ?_); refine gL_ (some 7) Try.func24 #[.agg #[.slice A0_0 l0_0.length c0_0, .slice A0_1 l0_1.length c0_1]] ?_; (with_reducible refine (spec_IsValidDfa.calls k _ _ l0_0 _ _ l0_1 true _ ?side1 ?side2 ?side3 ?side4 A2.out).mono ?_); (case side1 => exact rc_ (Kd.C_below al.out HB.out)); (case side2 => exact am.out); (case side3 => exact rc_ (Kd.C_below an.out HB.out)); (case side4 => exact ao.out); rintro e w8 ⟨rfl, hb⟩; refine ⟨_, rfl, ?_⟩; have n0_ := am_ (blk_below (rb_ aa.out) hb); have n1_ := am_ (below_step (b1_ HB.out af.out) hb); clear aa; clear HB; have aa := n0_; have HB := n1_; clear n0_ n1_; (try clear hb); (try clear hb2); (try clear hk); (try clear hi); have aH := ck_ (v := (.slice A0_0 l0_0.length c0_0)) aa 0 rfl; have aI := ck_ (v := (.slice A0_1 l0_1.length c0_1)) aa 1 rfl; have aJ := blk_frozen aa.out 0; have aK := blk_frozen aa.out 1) | ((with_reducible refine gate_callee (f := 26) rfl ?_); refine gL_ (some 10) Try.func26 #[.agg #[.slice A0_0 l0_0.length c0_0, .slice A0_1 l0_1.length c0_1], .int .i64 0] ?_; (with_reducible refine (spec_l7Reach.calls _ _ l0_0 _ _ l0_1 0 ak _ ?side1 ?side2 ?side3 ?side4 A4.out).mono ?_); (case side1 => exact rc_ (Kd.C_below al.out HB.out)); (case side2 => exact am.out); (case side3 => exact rc_ (Kd.C_below an.out HB.out)); (case side4 => exact ao.out); rintro e w10 ⟨bs, rfl, ho0, hb⟩; refine ⟨_, rfl, ?_⟩; have n0_ := am_ (Kd.R_lower ho0 (below_size (b1_ HB.out af.out))); have n1_ := am_ (blk_below (rb_ aa.out) hb); have n2_ := am_ (below_step (b1_ HB.out af.out) hb); clear aa; clear HB; have aw := n0_; have aa := n1_; have HB := n2_; clear n0_ n1_ n2_; (try clear hb); (try clear hb2); (try clear hk); (try clear hi); (try clear ho0); obtain ⟨aB, aC, aR⟩ := Kd.R_slice aw.out; subst aR) | ((with_reducible refine gate_callee (f := 25) rfl ?_); refine gL_ (some 11) Try.func25 #[.slice aB ak.length aC, .int .i64 0] ?_; (with_reducible refine (spec_l6Put.calls k (fun k_ => some k_ = (.slice aB ak.length aC : Value).ownBlock) (.slice aB ak.length aC) ak 0 ae w _ ?side1 ?side2 A5.out).mono ?_); (case side1 => exact zp6_0_ HB.out af.out); (case side2 => exact Kd.R_tight rfl aw.out); rintro e w12 ⟨aS, rfl, ho0, hb, hkp⟩; refine ⟨_, rfl, ?_⟩; have n0_ := am_ (blk_kept (rb_ aa.out) hkp (fun hs_ => (fun e_ => (Kd.R_ne aw.out aa.out (by decide)) e_) hs_)); have n1_ := am_ (Kd.R_mono (ok' := fun k_ => True) ho0 (fun k_ hk_ => trivial)); have n2_ := am_ (hb); clear aa; clear HB; clear aw; have aa := n0_; have aQ := n1_; have HB := n2_; clear n0_ n1_ n2_; (try clear hb); (try clear hkp); (try clear ho0)))
  go_loopg [4] k (fun kq v4 w' => ∃ (ab : Int), v4 = .int .i64 ab ∧ Aside0 (spec_IsFinite.l0 kq ae ab l0_0 l0_1 = some r) ∧ Aside0 (kq ≤ k) ∧ Aside0 (Kd.R (Kd.int .i64) 3 w' w.heap.size (fun _ => True) aS ae) ∧ Aside0 (w'.heap[ah]? = some (.cells #[(.slice A0_0 l0_0.length c0_0), (.slice A0_1 l0_1.length c0_1)] 28 (0, 0))) ∧ Aside0 (Below w.heap.size w w'))
  case atStart => exact ⟨(0), (by first | rfl | (simp; done) | (simp [*]; done)), H', ⟨Nat.le_refl _⟩, ⟨by refine rr_ ?_; exact aQ.out⟩, ⟨by refine rb_ ?_; exact aa.out⟩, ⟨by exact zp6_0_ HB.out af.out⟩⟩
  case round =>
   clear H'
   try clear c2
   try clear p2
   try clear c3
   try clear c7
   try clear aD
   try clear aE
   try clear aH
   try clear aI
   try clear aF
   try clear aG
   try clear aJ
   try clear aK
   obtain ⟨ab, rfl, HA, HK1, ad, aa, HB⟩ := hrel
   cases gk with
   | zero => exact absurd HA.out (by simp [spec_IsFinite.l0])
   | succ k1 =>
    have H := HA.out
    clear HA
    simp only [spec_IsFinite.l0] at H
    by_cases c13 : ab < (ae.length : Int)
    ·rw [if_pos c13] at H
     have c13b0 : decide (ab < (ae.length : Int)) = true := decide_eq_true c13
     clear c13
     by_cases c14 : 0 ≤ ab
     ·rw [if_pos c14] at H
      have c14b0 : decide (0 ≤ ab) = true := decide_eq_true c14
      clear c14
      replace H := Option.bind_eq_some_iff.mp H
      obtain ⟨aj, aL, H⟩ := H
      have A15 := am_ aL
      clear aL
      replace H := Option.bind_eq_some_iff.mp H
      obtain ⟨aq, aM, H⟩ := H
      have A16 := am_ aM
      clear aM
      by_cases c17 : aq ≥ 0
      ·rw [if_pos c17] at H
       have c17b0 : decide (0 ≤ aq) = true := decide_eq_true c17
       clear c17
       replace H := Option.bind_eq_some_iff.mp H
       obtain ⟨aA, aN, H⟩ := H
       have A18 := am_ aN
       clear aN
       by_cases c19 : aA = true
       ·subst c19
        have H1 : (some false) = some r := by rw [if_pos rfl] at H; exact H
        clear H
        have H := H1
        clear H1
        obtain rfl := Option.some.inj H
        simp only [Option.some.injEq, Prod.mk.injEq] at H
        obtain ⟨rfl⟩ := H
        obtain ⟨bt, bu, aT⟩ := Kd.R_slice ad.out
        subst aT
        try go_wp2
        replace ad := am_ (Kd.R_drew ad.out)
        replace aa := am_ (blk_drew aa.out)
        replace HB := am_ (below_drew1 HB.out)
        have p172 : 0 ≤ (ab : Int) := of_decide_eq_true ah_
        have q172 : ab < (ae.length : Int) := of_decide_eq_true ah_
        obtain ⟨ap, e172, ai⟩ := Kd.at_int (Kd.R_reads' ad.out).2.2 ab p172 q172
        cases e172
        replace p172 := eq_true p172
        replace q172 := eq_true q172
        refine start_ (n := 7) (S := fun w' => w'.cell? ⟨ah, 0, none⟩ = some (.slice A0_0 l0_0.length c0_0) ∧ w'.cell? ⟨ah, 1, none⟩ = some (.slice A0_1 l0_1.length c0_1) ∧ w'.cell? (ap.add (ab).toNat) = some (.int .i64 (rd ae ab))) (ds := []) #[false, false, false, false, false, false, false] (by kernel_rfl) rfl rfl ⟨(blk_cell aa.out 0).trans rfl, (blk_cell aa.out 1).trans rfl, ai⟩ (fun hHeld => ?_)
        generalize wr.drew = w21 at ad aa HB ai hHeld ⊢
        refine pure_ (i := 1) (N := some 19) (v := ?_) (a' := ?_) #[false, true, false, false, false, false, false] rfl rfl (by kernel_rfl) (fun _ _ _ h => h) (Or.inl ⟨by rfl, ?_⟩) ?_ ?_
        rotate_left; (focus (intro w'; go_simp; with_reducible rfl)); rotate_left; (focus (simp only [pn_, sz_, ss_, i64_w, i32_w]; rfl))
        refine pure_ (i := 2) (N := some 20) (v := ?_) (a' := ?_) #[false, true, true, false, false, false, false] rfl rfl (by kernel_rfl) (fun _ _ _ h => h) (Or.inl ⟨by rfl, ?_⟩) ?_ ?_
        rotate_left; (focus (intro w'; go_simp; with_reducible rfl)); rotate_left; (focus (simp only [pn_, sz_, ss_, i64_w, i32_w]; rfl))
        refine pure_ (i := 3) (N := some 21) (v := ?_) (a' := ?_) #[false, true, true, true, false, false, false] rfl rfl (by kernel_rfl) (fun _ _ _ h => h) (Or.inl ⟨by rfl, ?_⟩) ?_ ?_
        rotate_left; (focus (intro w'; go_simp; with_reducible rfl)); rotate_left; (focus (simp only [pn_, sz_, ss_, i64_w, i32_w]; rfl))
        refine take_ (i := 0) (N := some 18) (v := ?_) (a' := ?_) #[true, true, true, true, false, false, false] rfl rfl (by kernel_rfl) (fun _ _ _ h => h) (Or.inl ⟨by rfl, ?_⟩) hHeld ?_ ?_
        rotate_left; (focus (rintro w' ⟨s0, s1, s2⟩; go_simp; with_reducible rfl)); rotate_left; (focus (simp only [pn_, sz_, ss_, i64_w, i32_w]; rfl))
        refine take_ (i := 4) (N := some 22) (v := ?_) (a' := ?_) #[true, true, true, true, true, false, false] rfl rfl (by kernel_rfl) (fun _ _ _ h => h) (Or.inl ⟨by rfl, ?_⟩) hHeld ?_ ?_
        rotate_left; (focus (rintro w' ⟨s0, s1, s2⟩; go_simp; with_reducible rfl)); rotate_left; (focus (simp only [pn_, sz_, ss_, i64_w, i32_w]; rfl))
        refine one_ (i := 5) (N := some 23) #[true, true, true, true, true, true, false] rfl rfl (by kernel_rfl) (by decide) (fun K hK => ?_)
        refine gO_ Try.func26 #[.agg #[.slice A0_0 l0_0.length c0_0, .slice A0_1 l0_1.length c0_1], .int .i64 (rd ae ab)] ?_
        with_reducible refine (spec_l7Reach.calls _ _ l0_0 _ _ l0_1 (rd ae ab) aj _ ?side1 ?side2 ?side3 ?side4 A15.out).mono ?_
        (case side1 => exact rc_ (Kd.C_below al.out HB.out))
        (case side2 => exact am.out)
        (case side3 => exact rc_ (Kd.C_below an.out HB.out))
        (case side4 => exact ao.out)
        rintro e w22 ⟨aO, rfl, ho0, hb⟩
        have ay := (hb.cell (World.block_lt_of_cell? _ _ (hHeld.2.2))).trans (hHeld.2.2)
        refine ⟨_, rfl, ?_⟩
        replace ag := am_ (Kd.R_lower (Kd.R_new' ho0 (Kd.R_lt (rr_ ad.out))) (below_size (b1_ HB.out af.out)))
        replace ad := am_ (Kd.R_elder' (rr_ ad.out) (Kd.R_base ho0) hb)
        replace aa := am_ (blk_below (rb_ aa.out) hb)
        replace HB := am_ (below_step (b1_ HB.out af.out) hb)
        (try clear hb)
        (try clear hb2)
        (try clear hk)
        (try clear hi)
        (try clear ho0)
        refine hK.out _ _ ⟨(blk_cell aa.out 0).trans rfl, (blk_cell aa.out 1).trans rfl, ay⟩ (fun hHeld => ?_)
        clear hK K
        refine norm_ (a' := ?_) ?_ ?_
        rotate_left
        ·show Act.put _ (some 23) _ = _
         simp only [pn_, sz_, ss_, i64_w, i32_w]
         rfl
        refine pure_ (i := 6) (N := some 5) (v := ?_) (a' := ?_) #[true, true, true, true, true, true, true] rfl rfl (by kernel_rfl) (fun _ _ _ h => h) (Or.inl ⟨by rfl, ?_⟩) ?_ ?_
        rotate_left; (focus (intro w'; go_simp; with_reducible rfl)); rotate_left; (focus (simp only [pn_, sz_, ss_, i64_w, i32_w]; rfl))
        refine done_ (by kernel_rfl) ?_
        have p176 : 0 ≤ (ab : Int) := of_decide_eq_true ah_
        have q176 : ab < (ae.length : Int) := of_decide_eq_true ah_
        obtain ⟨av, e176, az⟩ := Kd.at_int (Kd.R_reads' ad.out).2.2 ab p176 q176
        obtain rfl : ap = av := (by injection e176)
        replace p176 := eq_true p176
        replace q176 := eq_true q176
        obtain ⟨aU, aV, aW⟩ := Kd.R_slice ag.out
        subst aW
        try go_wp2_with (first | ((with_reducible refine gate_callee (f := 27) rfl ?_); refine gL_ (some 29) Try.func27 #[.slice aU aj.length aV, .int .i64 (rd ae ab)] ?_; (with_reducible refine (spec_l5Find.calls k1 _ _ aj (rd ae ab) aq _ ?side1 ?side2 A16.out).mono ?_); (case side1 => exact rc_ ((Kd.R_reads' ag.out).2.2)); (case side2 => exact (Kd.R_reads' ag.out).2.1); rintro e w' ⟨rfl, ⟨nd, rfl⟩⟩; refine ⟨_, rfl, ?_⟩; have bg := ck_ (v := (.slice A0_0 l0_0.length c0_0)) aa 0 rfl; have bh := ck_ (v := (.slice A0_1 l0_1.length c0_1)) aa 1 rfl; have bi := blk_frozen aa.out 0; have bj := blk_frozen aa.out 1) | (go_at_call 28; (with_reducible refine (spec_l6Any.calls k1 _ _ l0_0 _ _ l0_1 _ _ aj true _ ?side1 ?side2 ?side3 ?side4 ?side5 ?side6 A18.out).mono ?_); (case side1 => exact rc_ (Kd.C_below al.out (b1_ HB.out af.out))); (case side2 => exact am.out); (case side3 => exact rc_ (Kd.C_below an.out (b1_ HB.out af.out))); (case side4 => exact ao.out); (case side5 => exact rc_ ((Kd.R_reads' ag.out).2.2)); (case side6 => exact (Kd.R_reads' ag.out).2.1); rintro e w25 ⟨rfl, hb⟩; have n0_ := am_ (Kd.R_below (rr_ ad.out) hb); have n1_ := am_ (Kd.R_below (rr_ ag.out) hb); have n2_ := am_ (blk_below (rb_ aa.out) hb); have n3_ := am_ (below_step (b1_ HB.out af.out) hb); clear ad; clear ag; clear aa; clear HB; have ad := n0_; have ag := n1_; have aa := n2_; have HB := n3_; clear n0_ n1_ n2_ n3_; (try clear hb); (try clear hb2); (try clear hk); (try clear hi)))
        go_ret
        exact ⟨by first | rfl | (simp [errW_none, errW_some] <;> rfl) | (simp [*, errW_none, errW_some] <;> rfl), by exact zp6_0_ HB.out af.out⟩
       ·replace c19 := Bool.eq_false_iff.mpr c19
        subst c19
        have H1 : (spec_IsFinite.l0 k1 ae (wrap64 (ab + 1)) l0_0 l0_1) = some r := by rw [if_neg (show ¬ (false = true) by decide)] at H; exact H
        clear H
        have H := H1
        clear H1
        have H' := am_ H
        clear H
        obtain ⟨bv, bw, aX⟩ := Kd.R_slice ad.out
        subst aX
        try go_wp2
        replace ad := am_ (Kd.R_drew ad.out)
        replace aa := am_ (blk_drew aa.out)
        replace HB := am_ (below_drew1 HB.out)
        have p172 : 0 ≤ (ab : Int) := of_decide_eq_true ah_
        have q172 : ab < (ae.length : Int) := of_decide_eq_true ah_
        obtain ⟨ap, e172, ai⟩ := Kd.at_int (Kd.R_reads' ad.out).2.2 ab p172 q172
        cases e172
        replace p172 := eq_true p172
        replace q172 := eq_true q172
        refine start_ (n := 7) (S := fun w' => w'.cell? ⟨ah, 0, none⟩ = some (.slice A0_0 l0_0.length c0_0) ∧ w'.cell? ⟨ah, 1, none⟩ = some (.slice A0_1 l0_1.length c0_1) ∧ w'.cell? (ap.add (ab).toNat) = some (.int .i64 (rd ae ab))) (ds := []) #[false, false, false, false, false, false, false] (by kernel_rfl) rfl rfl ⟨(blk_cell aa.out 0).trans rfl, (blk_cell aa.out 1).trans rfl, ai⟩ (fun hHeld => ?_)
        generalize wr.drew = w27 at ad aa HB ai hHeld ⊢
        refine pure_ (i := 1) (N := some 19) (v := ?_) (a' := ?_) #[false, true, false, false, false, false, false] rfl rfl (by kernel_rfl) (fun _ _ _ h => h) (Or.inl ⟨by rfl, ?_⟩) ?_ ?_
        rotate_left; (focus (intro w'; go_simp; with_reducible rfl)); rotate_left; (focus (simp only [pn_, sz_, ss_, i64_w, i32_w]; rfl))
        refine pure_ (i := 2) (N := some 20) (v := ?_) (a' := ?_) #[false, true, true, false, false, false, false] rfl rfl (by kernel_rfl) (fun _ _ _ h => h) (Or.inl ⟨by rfl, ?_⟩) ?_ ?_
        rotate_left; (focus (intro w'; go_simp; with_reducible rfl)); rotate_left; (focus (simp only [pn_, sz_, ss_, i64_w, i32_w]; rfl))
        refine pure_ (i := 3) (N := some 21) (v := ?_) (a' := ?_) #[false, true, true, true, false, false, false] rfl rfl (by kernel_rfl) (fun _ _ _ h => h) (Or.inl ⟨by rfl, ?_⟩) ?_ ?_
        rotate_left; (focus (intro w'; go_simp; with_reducible rfl)); rotate_left; (focus (simp only [pn_, sz_, ss_, i64_w, i32_w]; rfl))
        refine take_ (i := 0) (N := some 18) (v := ?_) (a' := ?_) #[true, true, true, true, false, false, false] rfl rfl (by kernel_rfl) (fun _ _ _ h => h) (Or.inl ⟨by rfl, ?_⟩) hHeld ?_ ?_
        rotate_left; (focus (rintro w' ⟨s0, s1, s2⟩; go_simp; with_reducible rfl)); rotate_left; (focus (simp only [pn_, sz_, ss_, i64_w, i32_w]; rfl))
        refine take_ (i := 4) (N := some 22) (v := ?_) (a' := ?_) #[true, true, true, true, true, false, false] rfl rfl (by kernel_rfl) (fun _ _ _ h => h) (Or.inl ⟨by rfl, ?_⟩) hHeld ?_ ?_
        rotate_left; (focus (rintro w' ⟨s0, s1, s2⟩; go_simp; with_reducible rfl)); rotate_left; (focus (simp only [pn_, sz_, ss_, i64_w, i32_w]; rfl))
        refine one_ (i := 5) (N := some 23) #[true, true, true, true, true, true, false] rfl rfl (by kernel_rfl) (by decide) (fun K hK => ?_)
        refine gO_ Try.func26 #[.agg #[.slice A0_0 l0_0.length c0_0, .slice A0_1 l0_1.length c0_1], .int .i64 (rd ae ab)] ?_
        with_reducible refine (spec_l7Reach.calls _ _ l0_0 _ _ l0_1 (rd ae ab) aj _ ?side1 ?side2 ?side3 ?side4 A15.out).mono ?_
        (case side1 => exact rc_ (Kd.C_below al.out HB.out))
        (case side2 => exact am.out)
        (case side3 => exact rc_ (Kd.C_below an.out HB.out))
        (case side4 => exact ao.out)
        rintro e w28 ⟨aO, rfl, ho0, hb⟩
        have ay := (hb.cell (World.block_lt_of_cell? _ _ (hHeld.2.2))).trans (hHeld.2.2)
        refine ⟨_, rfl, ?_⟩
        replace ag := am_ (Kd.R_lower (Kd.R_new' ho0 (Kd.R_lt (rr_ ad.out))) (below_size (b1_ HB.out af.out)))
        replace ad := am_ (Kd.R_elder' (rr_ ad.out) (Kd.R_base ho0) hb)
        replace aa := am_ (blk_below (rb_ aa.out) hb)
        replace HB := am_ (below_step (b1_ HB.out af.out) hb)
        (try clear hb)
        (try clear hb2)
        (try clear hk)
        (try clear hi)
        (try clear ho0)
        refine hK.out _ _ ⟨(blk_cell aa.out 0).trans rfl, (blk_cell aa.out 1).trans rfl, ay⟩ (fun hHeld => ?_)
        clear hK K
        refine norm_ (a' := ?_) ?_ ?_
        rotate_left
        ·show Act.put _ (some 23) _ = _
         simp only [pn_, sz_, ss_, i64_w, i32_w]
         rfl
        refine pure_ (i := 6) (N := some 5) (v := ?_) (a' := ?_) #[true, true, true, true, true, true, true] rfl rfl (by kernel_rfl) (fun _ _ _ h => h) (Or.inl ⟨by rfl, ?_⟩) ?_ ?_
        rotate_left; (focus (intro w'; go_simp; with_reducible rfl)); rotate_left; (focus (simp only [pn_, sz_, ss_, i64_w, i32_w]; rfl))
        refine done_ (by kernel_rfl) ?_
        have p176 : 0 ≤ (ab : Int) := of_decide_eq_true ah_
        have q176 : ab < (ae.length : Int) := of_decide_eq_true ah_
        obtain ⟨av, e176, az⟩ := Kd.at_int (Kd.R_reads' ad.out).2.2 ab p176 q176
        obtain rfl : ap = av := (by injection e176)
        replace p176 := eq_true p176
        replace q176 := eq_true q176
        obtain ⟨aY, aZ, ba⟩ := Kd.R_slice ag.out
        subst ba
        try go_wp2_with (first | ((with_reducible refine gate_callee (f := 27) rfl ?_); refine gL_ (some 29) Try.func27 #[.slice aY aj.length aZ, .int .i64 (rd ae ab)] ?_; (with_reducible refine (spec_l5Find.calls k1 _ _ aj (rd ae ab) aq _ ?side1 ?side2 A16.out).mono ?_); (case side1 => exact rc_ ((Kd.R_reads' ag.out).2.2)); (case side2 => exact (Kd.R_reads' ag.out).2.1); rintro e w' ⟨rfl, ⟨nd, rfl⟩⟩; refine ⟨_, rfl, ?_⟩; have bk := ck_ (v := (.slice A0_0 l0_0.length c0_0)) aa 0 rfl; have bl := ck_ (v := (.slice A0_1 l0_1.length c0_1)) aa 1 rfl; have bm := blk_frozen aa.out 0; have bn := blk_frozen aa.out 1) | (go_at_call 28; (with_reducible refine (spec_l6Any.calls k1 _ _ l0_0 _ _ l0_1 _ _ aj false _ ?side1 ?side2 ?side3 ?side4 ?side5 ?side6 A18.out).mono ?_); (case side1 => exact rc_ (Kd.C_below al.out (b1_ HB.out af.out))); (case side2 => exact am.out); (case side3 => exact rc_ (Kd.C_below an.out (b1_ HB.out af.out))); (case side4 => exact ao.out); (case side5 => exact rc_ ((Kd.R_reads' ag.out).2.2)); (case side6 => exact (Kd.R_reads' ag.out).2.1); rintro e w31 ⟨rfl, hb⟩; have n0_ := am_ (Kd.R_below (rr_ ad.out) hb); have n1_ := am_ (Kd.R_below (rr_ ag.out) hb); have n2_ := am_ (blk_below (rb_ aa.out) hb); have n3_ := am_ (below_step (b1_ HB.out af.out) hb); clear ad; clear ag; clear aa; clear HB; have ad := n0_; have ag := n1_; have aa := n2_; have HB := n3_; clear n0_ n1_ n2_ n3_; (try clear hb); (try clear hb2); (try clear hk); (try clear hi)))
        go_roundg k1
        case measure => have := HK1.out; omega
        case rel => exact ⟨(wrap64 (ab + 1)), (by first | rfl | (simp; done) | (simp [*]; done)), H', ⟨by have := HK1.out; omega⟩, ⟨by refine rr_ ?_; exact Kd.R_mono ad.out (fun _ hk => trivial)⟩, ⟨by refine rb_ ?_; exact aa.out⟩, ⟨by exact zp6_0_ HB.out af.out⟩⟩
      ·rw [if_neg c17] at H
       have c17b0 : decide (0 ≤ aq) = false := decide_eq_false c17
       clear c17
       have H' := am_ H
       clear H
       obtain ⟨bx, bz, bb⟩ := Kd.R_slice ad.out
       subst bb
       try go_wp2
       replace ad := am_ (Kd.R_drew ad.out)
       replace aa := am_ (blk_drew aa.out)
       replace HB := am_ (below_drew1 HB.out)
       have p172 : 0 ≤ (ab : Int) := of_decide_eq_true ah_
       have q172 : ab < (ae.length : Int) := of_decide_eq_true ah_
       obtain ⟨ap, e172, ai⟩ := Kd.at_int (Kd.R_reads' ad.out).2.2 ab p172 q172
       cases e172
       replace p172 := eq_true p172
       replace q172 := eq_true q172
       refine start_ (n := 7) (S := fun w' => w'.cell? ⟨ah, 0, none⟩ = some (.slice A0_0 l0_0.length c0_0) ∧ w'.cell? ⟨ah, 1, none⟩ = some (.slice A0_1 l0_1.length c0_1) ∧ w'.cell? (ap.add (ab).toNat) = some (.int .i64 (rd ae ab))) (ds := []) #[false, false, false, false, false, false, false] (by kernel_rfl) rfl rfl ⟨(blk_cell aa.out 0).trans rfl, (blk_cell aa.out 1).trans rfl, ai⟩ (fun hHeld => ?_)
       generalize wr.drew = w33 at ad aa HB ai hHeld ⊢
       refine pure_ (i := 1) (N := some 19) (v := ?_) (a' := ?_) #[false, true, false, false, false, false, false] rfl rfl (by kernel_rfl) (fun _ _ _ h => h) (Or.inl ⟨by rfl, ?_⟩) ?_ ?_
       rotate_left; (focus (intro w'; go_simp; with_reducible rfl)); rotate_left; (focus (simp only [pn_, sz_, ss_, i64_w, i32_w]; rfl))
       refine pure_ (i := 2) (N := some 20) (v := ?_) (a' := ?_) #[false, true, true, false, false, false, false] rfl rfl (by kernel_rfl) (fun _ _ _ h => h) (Or.inl ⟨by rfl, ?_⟩) ?_ ?_
       rotate_left; (focus (intro w'; go_simp; with_reducible rfl)); rotate_left; (focus (simp only [pn_, sz_, ss_, i64_w, i32_w]; rfl))
       refine pure_ (i := 3) (N := some 21) (v := ?_) (a' := ?_) #[false, true, true, true, false, false, false] rfl rfl (by kernel_rfl) (fun _ _ _ h => h) (Or.inl ⟨by rfl, ?_⟩) ?_ ?_
       rotate_left; (focus (intro w'; go_simp; with_reducible rfl)); rotate_left; (focus (simp only [pn_, sz_, ss_, i64_w, i32_w]; rfl))
       refine take_ (i := 0) (N := some 18) (v := ?_) (a' := ?_) #[true, true, true, true, false, false, false] rfl rfl (by kernel_rfl) (fun _ _ _ h => h) (Or.inl ⟨by rfl, ?_⟩) hHeld ?_ ?_
       rotate_left; (focus (rintro w' ⟨s0, s1, s2⟩; go_simp; with_reducible rfl)); rotate_left; (focus (simp only [pn_, sz_, ss_, i64_w, i32_w]; rfl))
       refine take_ (i := 4) (N := some 22) (v := ?_) (a' := ?_) #[true, true, true, true, true, false, false] rfl rfl (by kernel_rfl) (fun _ _ _ h => h) (Or.inl ⟨by rfl, ?_⟩) hHeld ?_ ?_
       rotate_left; (focus (rintro w' ⟨s0, s1, s2⟩; go_simp; with_reducible rfl)); rotate_left; (focus (simp only [pn_, sz_, ss_, i64_w, i32_w]; rfl))
       refine one_ (i := 5) (N := some 23) #[true, true, true, true, true, true, false] rfl rfl (by kernel_rfl) (by decide) (fun K hK => ?_)
       refine gO_ Try.func26 #[.agg #[.slice A0_0 l0_0.length c0_0, .slice A0_1 l0_1.length c0_1], .int .i64 (rd ae ab)] ?_
       with_reducible refine (spec_l7Reach.calls _ _ l0_0 _ _ l0_1 (rd ae ab) aj _ ?side1 ?side2 ?side3 ?side4 A15.out).mono ?_
       (case side1 => exact rc_ (Kd.C_below al.out HB.out))
       (case side2 => exact am.out)
       (case side3 => exact rc_ (Kd.C_below an.out HB.out))
       (case side4 => exact ao.out)
       rintro e w34 ⟨aO, rfl, ho0, hb⟩
       have ay := (hb.cell (World.block_lt_of_cell? _ _ (hHeld.2.2))).trans (hHeld.2.2)
       refine ⟨_, rfl, ?_⟩
       replace ag := am_ (Kd.R_lower (Kd.R_new' ho0 (Kd.R_lt (rr_ ad.out))) (below_size (b1_ HB.out af.out)))
       replace ad := am_ (Kd.R_elder' (rr_ ad.out) (Kd.R_base ho0) hb)
       replace aa := am_ (blk_below (rb_ aa.out) hb)
       replace HB := am_ (below_step (b1_ HB.out af.out) hb)
       (try clear hb)
       (try clear hb2)
       (try clear hk)
       (try clear hi)
       (try clear ho0)
       refine hK.out _ _ ⟨(blk_cell aa.out 0).trans rfl, (blk_cell aa.out 1).trans rfl, ay⟩ (fun hHeld => ?_)
       clear hK K
       refine norm_ (a' := ?_) ?_ ?_
       rotate_left
       ·show Act.put _ (some 23) _ = _
        simp only [pn_, sz_, ss_, i64_w, i32_w]
        rfl
       refine pure_ (i := 6) (N := some 5) (v := ?_) (a' := ?_) #[true, true, true, true, true, true, true] rfl rfl (by kernel_rfl) (fun _ _ _ h => h) (Or.inl ⟨by rfl, ?_⟩) ?_ ?_
       rotate_left; (focus (intro w'; go_simp; with_reducible rfl)); rotate_left; (focus (simp only [pn_, sz_, ss_, i64_w, i32_w]; rfl))
       refine done_ (by kernel_rfl) ?_
       have p176 : 0 ≤ (ab : Int) := of_decide_eq_true ah_
       have q176 : ab < (ae.length : Int) := of_decide_eq_true ah_
       obtain ⟨av, e176, az⟩ := Kd.at_int (Kd.R_reads' ad.out).2.2 ab p176 q176
       obtain rfl : ap = av := (by injection e176)
       replace p176 := eq_true p176
       replace q176 := eq_true q176
       obtain ⟨bc, bd, be⟩ := Kd.R_slice ag.out
       subst be
       try go_wp2_with (first | ((with_reducible refine gate_callee (f := 27) rfl ?_); refine gL_ (some 29) Try.func27 #[.slice bc aj.length bd, .int .i64 (rd ae ab)] ?_; (with_reducible refine (spec_l5Find.calls k1 _ _ aj (rd ae ab) aq _ ?side1 ?side2 A16.out).mono ?_); (case side1 => exact rc_ ((Kd.R_reads' ag.out).2.2)); (case side2 => exact (Kd.R_reads' ag.out).2.1); rintro e w' ⟨rfl, ⟨nd, rfl⟩⟩; refine ⟨_, rfl, ?_⟩))
       go_roundg k1
       case measure => have := HK1.out; omega
       case rel => exact ⟨(wrap64 (ab + 1)), (by first | rfl | (simp; done) | (simp [*]; done)), H', ⟨by have := HK1.out; omega⟩, ⟨by refine rr_ ?_; exact Kd.R_mono ad.out (fun _ hk => trivial)⟩, ⟨by refine rb_ ?_; exact aa.out⟩, ⟨by exact zp6_0_ HB.out af.out⟩⟩
     ·rw [if_neg c14] at H
      exact absurd H (by simp)
    ·rw [if_neg c13] at H
     have c13b0 : decide (ab < (ae.length : Int)) = false := decide_eq_false c13
     clear c13
     obtain rfl := Option.some.inj H
     simp only [Option.some.injEq, Prod.mk.injEq] at H
     obtain ⟨rfl⟩ := H
     obtain ⟨bA, bB, bf⟩ := Kd.R_slice ad.out
     subst bf
     go_wp2
     go_ret
     exact ⟨by first | rfl | (simp [errW_none, errW_some] <;> rfl) | (simp [*, errW_none, errW_some] <;> rfl), by exact zp6_0_ HB.out af.out⟩
 ·replace c3 := Bool.eq_false_iff.mpr c3
  subst c3
  have H1 : (some false) = some r := by rw [if_neg (show ¬ (false = true) by decide)] at H; exact H
  clear H
  have H := H1
  clear H1
  obtain rfl := Option.some.inj H
  simp only [Option.some.injEq, Prod.mk.injEq] at H
  obtain ⟨rfl⟩ := H
  go_enter Try.func7, Try.ntmps7
  go_wp2_with (first | ((with_reducible refine gate_dst (N := 1) rfl ?_); refine box_event ?hg (N := 1) ?hd (cs := #[.slice A0_0 l0_0.length c0_0, .slice A0_1 l0_1.length c0_1]) (t := 28) ?hr ?_; (case hd => rfl); (case hg => rfl); (case hr => first | (go_simp; done) | (go_simp; rfl)); intro ah hg w37 hbox hb; replace aa := am_ (hbox); replace aP := am_ ((by rw [hg]; exact (below_size (b0_ HB.out)) : w.heap.size ≤ ah)); replace af := am_ ((by rw [hg]; exact (below_size (b0_ HB.out)) : w.heap.size ≤ ah)); replace HB := am_ (below_step (b0_ HB.out) hb); clear hb hbox hg; have bo := ck_ (v := (.slice A0_0 l0_0.length c0_0)) aa 0 rfl; have bp := ck_ (v := (.slice A0_1 l0_1.length c0_1)) aa 1 rfl; have bq := blk_frozen aa.out 0; have br := blk_frozen aa.out 1) | ((with_reducible refine gate_callee (f := 24) rfl ?_); refine gL_ (some 7) Try.func24 #[.agg #[.slice A0_0 l0_0.length c0_0, .slice A0_1 l0_1.length c0_1]] ?_; (with_reducible refine (spec_IsValidDfa.calls k _ _ l0_0 _ _ l0_1 false _ ?side1 ?side2 ?side3 ?side4 A2.out).mono ?_); (case side1 => exact rc_ (Kd.C_below al.out HB.out)); (case side2 => exact am.out); (case side3 => exact rc_ (Kd.C_below an.out HB.out)); (case side4 => exact ao.out); rintro e w39 ⟨rfl, hb⟩; refine ⟨_, rfl, ?_⟩; have n0_ := am_ (blk_below (rb_ aa.out) hb); have n1_ := am_ (below_step (b1_ HB.out af.out) hb); clear aa; clear HB; have aa := n0_; have HB := n1_; clear n0_ n1_; (try clear hb); (try clear hb2); (try clear hk); (try clear hi)))
  go_ret
  exact ⟨by first | rfl | (simp [errW_none, errW_some] <;> rfl) | (simp [*, errW_none, errW_some] <;> rfl), by exact zp6_0_ HB.out af.out⟩
end Go.Proofs.Ytpgdhpnmagmooaa.P
end
section
namespace Go.Proofs.Ytpgdhpnmagmooaa.P
open Go.RowKit Go.Proofs.YtpgdhpnmagmooaaW.PrintWords Go.Proofs.YtpgdhpnmagmooaaW.PrintLast Go.Proofs.YtpgdhpnmagmooaaW.PrintMore
attribute [local go_sem] max2_int min2_int max_two min_two max_three min_three max_four min_four
set_option linter.unusedVariables false
set_option linter.unusedSimpArgs false
def impl_IsValidDfa.f (l0_0 : List Bool) (l0_1 : List (List Int)) : Option (Bool) := some (Wk.validD l0_0 l0_1)
theorem impl_IsValidDfa.calls (A0_0 : Option Addr) (c0_0 : Nat) (l0_0 : List Bool) (A0_1 : Option Addr) (c0_1 : Nat) (l0_1 : List (List Int)) (r : Bool) (w : World) (hr0_0 : Kd.C Kd.bool w A0_0 l0_0.length l0_0) (hc0_0 : l0_0.length ≤ c0_0) (hr0_1 : Kd.C (Kd.slice 3 (Kd.int .i64)) w A0_1 l0_1.length l0_1) (hc0_1 : l0_1.length ≤ c0_1) (h : impl_IsValidDfa.f l0_0 l0_1 = some r) :
    Calls Try.prog 31 #[.agg #[.slice A0_0 l0_0.length c0_0, .slice A0_1 l0_1.length c0_1]] w fun e w' => e = .returned (.bool r) ∧ Below w.heap.size w w' := by
  obtain rfl := Option.some.inj h
  exact Wk.validCalls A0_0 c0_0 l0_0 A0_1 c0_1 l0_1 w hr0_0 hr0_1
end Go.Proofs.Ytpgdhpnmagmooaa.P
end
section
namespace Go.Proofs.Ytpgdhpnmagmooaa.P
open Go.RowKit Go.Proofs.YtpgdhpnmagmooaaW.PrintWords Go.Proofs.YtpgdhpnmagmooaaW.PrintLast Go.Proofs.YtpgdhpnmagmooaaW.PrintMore
attribute [local go_sem] max2_int min2_int max_two min_two max_three min_three max_four min_four
set_option linter.unusedVariables false
set_option linter.unusedSimpArgs false
mutual
def impl_closure.l0 : Nat → List Int → List (List Int) → Int → Int → Option (List Int)
  | 0, _, _, _, _ => none
  | k + 1, x3, x15, x16, x17 => if x17 < x16 then (if 0 ≤ x17 then (if x17 < (x15.length : Int) then (impl_closure.l1 k x3 x17 x15 x16 x17 (rd_L1 x15 x17) ((rd_L1 x15 x17).length : Int) 0) else (none)) else (none)) else (impl_closure.l2 k x3 (x3.length : Int) 0)
def impl_closure.l1 : Nat → List Int → Int → List (List Int) → Int → Int → List Int → Int → Int → Option (List Int)
  | 0, _, _, _, _, _, _, _, _ => none
  | k + 1, x3, x4, x15, x16, x17, x22, x23, x24 => if x24 < x23 then (if 0 ≤ x24 then (if x24 < (x22.length : Int) then (if 0 ≤ x4 then (if x4 < (x3.length : Int) then (if 0 ≤ (rd x22 x24) then (impl_closure.l1 k (x3.set (x4 : Int).toNat (Go.bits .or .u64 (rd x3 x4) (shl .u64 1 (rd x22 x24)))) x4 x15 x16 x17 x22 x23 (wrap64 (x24 + 1))) else (none)) else (none)) else (none)) else (none)) else (none)) else (impl_closure.l0 k x3 x15 x16 (wrap64 (x17 + 1)))
def impl_closure.l2 : Nat → List Int → Int → Int → Option (List Int)
  | 0, _, _, _ => none
  | k + 1, x3, x39, x40 => if x40 < x39 then (impl_closure.l3 k x3 x39 x40 (x3.length : Int) 0) else (some x3)
def impl_closure.l3 : Nat → List Int → Int → Int → Int → Int → Option (List Int)
  | 0, _, _, _, _, _ => none
  | k + 1, x3, x39, x40, x43, x44 => if x44 < x43 then (impl_closure.l4 k x3 x44 x39 x40 x43 x44 (x3.length : Int) 0) else (impl_closure.l2 k x3 x39 (wrap64 (x40 + 1)))
def impl_closure.l4 : Nat → List Int → Int → Int → Int → Int → Int → Int → Int → Option (List Int)
  | 0, _, _, _, _, _, _, _, _ => none
  | k + 1, x3, x8, x39, x40, x43, x44, x48, x49 => if x49 < x48 then (if 0 ≤ x8 then (if x8 < (x3.length : Int) then (if 0 ≤ x49 then (if (Go.bits .and .u64 (shr .u64 (rd x3 x8) x49) 1) = 1 then (if x49 < (x3.length : Int) then (impl_closure.l4 k (x3.set (x8 : Int).toNat (Go.bits .or .u64 (rd x3 x8) (rd x3 x49))) x8 x39 x40 x43 x44 x48 (wrap64 (x49 + 1))) else (none)) else (impl_closure.l4 k x3 x8 x39 x40 x43 x44 x48 (wrap64 (x49 + 1)))) else (none)) else (none)) else (none)) else (impl_closure.l3 k x3 x39 x40 x43 (wrap64 (x44 + 1)))
end
def impl_closure.f (k : Nat) (l0_0 : List Bool) (l0_1 : List (List Int)) : Option (List Int) := if 0 ≤ (l0_1.length : Int) then (if ((l0_1.length : Int) : Int).toNat ≤ 35184372088832 then (impl_closure.l0 k (List.replicate ((l0_1.length : Int) : Int).toNat 0) l0_1 (l0_1.length : Int) 0) else (none)) else (none)
theorem impl_closure.mono_l : ∀ k, (∀ y0 y1 y2 y3, LeO (impl_closure.l0 k y0 y1 y2 y3) (impl_closure.l0 (k + 1) y0 y1 y2 y3)) ∧ (∀ y0 y1 y2 y3 y4 y5 y6 y7, LeO (impl_closure.l1 k y0 y1 y2 y3 y4 y5 y6 y7) (impl_closure.l1 (k + 1) y0 y1 y2 y3 y4 y5 y6 y7)) ∧ (∀ y0 y1 y2, LeO (impl_closure.l2 k y0 y1 y2) (impl_closure.l2 (k + 1) y0 y1 y2)) ∧ (∀ y0 y1 y2 y3 y4, LeO (impl_closure.l3 k y0 y1 y2 y3 y4) (impl_closure.l3 (k + 1) y0 y1 y2 y3 y4)) ∧ (∀ y0 y1 y2 y3 y4 y5 y6 y7, LeO (impl_closure.l4 k y0 y1 y2 y3 y4 y5 y6 y7) (impl_closure.l4 (k + 1) y0 y1 y2 y3 y4 y5 y6 y7))
 | 0 => ⟨fun _ _ _ _ r h => by simp [impl_closure.l0] at h, fun _ _ _ _ _ _ _ _ r h => by simp [impl_closure.l1] at h, fun _ _ _ r h => by simp [impl_closure.l2] at h, fun _ _ _ _ _ r h => by simp [impl_closure.l3] at h, fun _ _ _ _ _ _ _ _ r h => by simp [impl_closure.l4] at h⟩
 | k + 1 => by
  obtain ⟨ih0, ih1, ih2, ih3, ih4⟩ := impl_closure.mono_l k
  refine ⟨?_, ?_, ?_, ?_, ?_⟩
  ·intro y0 y1 y2 y3
   unfold impl_closure.l0
   repeat' first
   | (with_reducible exact ih0 _ _ _ _)
   | (with_reducible exact ih1 _ _ _ _ _ _ _ _)
   | (with_reducible exact ih2 _ _ _)
   | (with_reducible exact ih3 _ _ _ _ _)
   | (with_reducible exact ih4 _ _ _ _ _ _ _ _)
   | (with_reducible exact LeO.refl _)
   | (with_reducible exact LeO.none _)
   | (with_reducible refine LeO.ite ?_ ?_)
   | (with_reducible refine LeO.bind ?_ (fun _ => ?_))
   | exact ih0 _ _ _ _
   | exact ih1 _ _ _ _ _ _ _ _
   | exact ih2 _ _ _
   | exact ih3 _ _ _ _ _
   | exact ih4 _ _ _ _ _ _ _ _
   | exact LeO.none _
   | refine LeO.ite ?_ ?_
   | refine LeO.bind ?_ (fun _ => ?_)
  ·intro y0 y1 y2 y3 y4 y5 y6 y7
   unfold impl_closure.l1
   repeat' first
   | (with_reducible exact ih0 _ _ _ _)
   | (with_reducible exact ih1 _ _ _ _ _ _ _ _)
   | (with_reducible exact ih2 _ _ _)
   | (with_reducible exact ih3 _ _ _ _ _)
   | (with_reducible exact ih4 _ _ _ _ _ _ _ _)
   | (with_reducible exact LeO.refl _)
   | (with_reducible exact LeO.none _)
   | (with_reducible refine LeO.ite ?_ ?_)
   | (with_reducible refine LeO.bind ?_ (fun _ => ?_))
   | exact ih0 _ _ _ _
   | exact ih1 _ _ _ _ _ _ _ _
   | exact ih2 _ _ _
   | exact ih3 _ _ _ _ _
   | exact ih4 _ _ _ _ _ _ _ _
   | exact LeO.none _
   | refine LeO.ite ?_ ?_
   | refine LeO.bind ?_ (fun _ => ?_)
  ·intro y0 y1 y2
   unfold impl_closure.l2
   repeat' first
   | (with_reducible exact ih0 _ _ _ _)
   | (with_reducible exact ih1 _ _ _ _ _ _ _ _)
   | (with_reducible exact ih2 _ _ _)
   | (with_reducible exact ih3 _ _ _ _ _)
   | (with_reducible exact ih4 _ _ _ _ _ _ _ _)
   | (with_reducible exact LeO.refl _)
   | (with_reducible exact LeO.none _)
   | (with_reducible refine LeO.ite ?_ ?_)
   | (with_reducible refine LeO.bind ?_ (fun _ => ?_))
   | exact ih0 _ _ _ _
   | exact ih1 _ _ _ _ _ _ _ _
   | exact ih2 _ _ _
   | exact ih3 _ _ _ _ _
   | exact ih4 _ _ _ _ _ _ _ _
   | exact LeO.none _
   | refine LeO.ite ?_ ?_
   | refine LeO.bind ?_ (fun _ => ?_)
  ·intro y0 y1 y2 y3 y4
   unfold impl_closure.l3
   repeat' first
   | (with_reducible exact ih0 _ _ _ _)
   | (with_reducible exact ih1 _ _ _ _ _ _ _ _)
   | (with_reducible exact ih2 _ _ _)
   | (with_reducible exact ih3 _ _ _ _ _)
   | (with_reducible exact ih4 _ _ _ _ _ _ _ _)
   | (with_reducible exact LeO.refl _)
   | (with_reducible exact LeO.none _)
   | (with_reducible refine LeO.ite ?_ ?_)
   | (with_reducible refine LeO.bind ?_ (fun _ => ?_))
   | exact ih0 _ _ _ _
   | exact ih1 _ _ _ _ _ _ _ _
   | exact ih2 _ _ _
   | exact ih3 _ _ _ _ _
   | exact ih4 _ _ _ _ _ _ _ _
   | exact LeO.none _
   | refine LeO.ite ?_ ?_
   | refine LeO.bind ?_ (fun _ => ?_)
  ·intro y0 y1 y2 y3 y4 y5 y6 y7
   unfold impl_closure.l4
   repeat' first
   | (with_reducible exact ih0 _ _ _ _)
   | (with_reducible exact ih1 _ _ _ _ _ _ _ _)
   | (with_reducible exact ih2 _ _ _)
   | (with_reducible exact ih3 _ _ _ _ _)
   | (with_reducible exact ih4 _ _ _ _ _ _ _ _)
   | (with_reducible exact LeO.refl _)
   | (with_reducible exact LeO.none _)
   | (with_reducible refine LeO.ite ?_ ?_)
   | (with_reducible refine LeO.bind ?_ (fun _ => ?_))
   | exact ih0 _ _ _ _
   | exact ih1 _ _ _ _ _ _ _ _
   | exact ih2 _ _ _
   | exact ih3 _ _ _ _ _
   | exact ih4 _ _ _ _ _ _ _ _
   | exact LeO.none _
   | refine LeO.ite ?_ ?_
   | refine LeO.bind ?_ (fun _ => ?_)
theorem impl_closure.mono : ∀ a0 a1 k, LeO (impl_closure.f k a0 a1) (impl_closure.f (k + 1) a0 a1) := by
 intro a0 a1 k
 obtain ⟨ih0, ih1, ih2, ih3, ih4⟩ := impl_closure.mono_l k
 unfold impl_closure.f
 repeat' first
   | (with_reducible exact ih0 _ _ _ _)
   | (with_reducible exact ih1 _ _ _ _ _ _ _ _)
   | (with_reducible exact ih2 _ _ _)
   | (with_reducible exact ih3 _ _ _ _ _)
   | (with_reducible exact ih4 _ _ _ _ _ _ _ _)
   | (with_reducible exact LeO.refl _)
   | (with_reducible exact LeO.none _)
   | (with_reducible refine LeO.ite ?_ ?_)
   | (with_reducible refine LeO.bind ?_ (fun _ => ?_))
   | exact ih0 _ _ _ _
   | exact ih1 _ _ _ _ _ _ _ _
   | exact ih2 _ _ _
   | exact ih3 _ _ _ _ _
   | exact ih4 _ _ _ _ _ _ _ _
   | exact LeO.none _
   | refine LeO.ite ?_ ?_
   | refine LeO.bind ?_ (fun _ => ?_)
def impl_closure.T8 : Bool × List (List Nat × List Nat) := (true, [([], []), ([], []), ([0, 1], [0, 1]), ([2], [2]), ([], []), ([4], [4]), ([3, 5], [3, 5]), ([0, 1, 0, 1, 2, 3, 4, 5, 6], [0, 1]), ([7, 6, 0, 1, 2, 3, 4, 5, 6], [6, 7])])
def impl_closure.B8 : List Nat := [0, 0, 3, 7, 0, 16, 63, 127, 255]
theorem impl_closure.tab8 : rtab .any (opsOf Try.f32 8) = impl_closure.T8 := by kernel_rfl
theorem impl_closure.bits8 : waitsOk impl_closure.T8.2 impl_closure.B8 = true := by kernel_rfl
def impl_closure.T20 : Bool × List (List Nat × List Nat) := (true, [([], []), ([], []), ([0, 1], [0, 1]), ([2], [2]), ([], []), ([], []), ([4, 5], [4, 5]), ([6], [6]), ([3, 7], [3, 7]), ([0, 1, 0, 1, 2, 3, 4, 5, 6, 7, 8], [0, 1]), ([9, 8, 0, 1, 2, 3, 4, 5, 6, 7, 8], [8, 9])])
def impl_closure.B20 : List Nat := [0, 0, 3, 7, 0, 0, 48, 112, 255, 511, 1023]
theorem impl_closure.tab20 : rtab .any (opsOf Try.f32 20) = impl_closure.T20 := by kernel_rfl
theorem impl_closure.bits20 : waitsOk impl_closure.T20.2 impl_closure.B20 = true := by kernel_rfl
theorem zp9_0_ {p q g1 : Prop} (h : p) (h1 : g1) (c : p → g1 → q := by intro h_ h1_; repeat (first | (with_reducible first | exact h_ | apply below_alloc | apply pw_below_drewN | apply below_drew1 | refine below_set ?_ h1_) | exact h_)) : q := c h h1
set_option maxHeartbeats 8000000 in
set_option maxRecDepth 100000 in
theorem impl_closure.calls (k : Nat) (A0_0 : Option Addr) (c0_0 : Nat) (l0_0 : List Bool) (A0_1 : Option Addr) (c0_1 : Nat) (l0_1 : List (List Int)) (r : List Int) (w : World) (hr0_0 : Kd.C Kd.bool w A0_0 l0_0.length l0_0) (hc0_0 : l0_0.length ≤ c0_0) (hr0_1 : Kd.C (Kd.slice 3 (Kd.int .i64)) w A0_1 l0_1.length l0_1) (hc0_1 : l0_1.length ≤ c0_1) (h : impl_closure.f k l0_0 l0_1 = some r) :
  Calls Try.prog 32 #[.agg #[.slice A0_0 l0_0.length c0_0, .slice A0_1 l0_1.length c0_1]] w fun e w' => ∃ v0_ : Value, e = .returned (v0_) ∧ Kd.R (Kd.int .u64) 52 w' w.heap.size (fun _ => True) v0_ r ∧ Below w.heap.size w w' := by
 have hu28 := Try.underlying28
 have bd := am_ hr0_0
 have be := am_ hc0_0
 clear hr0_0 hc0_0
 have aU := am_ hr0_1
 have bf := am_ hc0_1
 clear hr0_1 hc0_1
 have HB := am_ (Below.refl w.heap.size w)
 have H : (if 0 ≤ (l0_1.length : Int) then (if ((l0_1.length : Int) : Int).toNat ≤ 35184372088832 then (impl_closure.l0 k (List.replicate ((l0_1.length : Int) : Int).toNat 0) l0_1 (l0_1.length : Int) 0) else (none)) else (none)) = some r := h
 clear h
 by_cases c2 : 0 ≤ (l0_1.length : Int)
 ·rw [if_pos c2] at H
  have c2b0 := eq_true c2
  have c2b1 : decide (0 ≤ (l0_1.length : Int)) = true := decide_eq_true c2
  clear c2
  by_cases c3 : ((l0_1.length : Int) : Int).toNat ≤ 35184372088832
  ·rw [if_pos c3] at H
   have c3b0 := eq_true c3
   have c3b1 : decide (((l0_1.length : Int) : Int).toNat ≤ 35184372088832) = true := decide_eq_true c3
   clear c3
   obtain ⟨aK, hy207⟩ : ∃ y_ : List Int, y_ = (List.replicate ((l0_1.length : Int) : Int).toNat 0) := ⟨_, rfl⟩
   replace H : (impl_closure.l0 k aK l0_1 (l0_1.length : Int) 0) = some r := by first | (rw [hy207]; with_reducible exact H) | (have H2_ := (Option.bind_some _ _).symm.trans H; rw [hy207]; with_reducible exact H2_) | (have H2_ := (Option.bind_some _ _).symm.trans H; with_reducible exact H2_) | with_reducible exact H | (rw [hy207]; exact H) | exact H
   have aI := am_ hy207
   clear hy207
   have H' := am_ H
   clear H
   go_enter Try.func32, Try.ntmps32
   go_wp2_with (first | ((with_reducible refine gate_dst (N := 1) rfl ?_); refine box_event ?hg (N := 1) ?hd (cs := #[.slice A0_0 l0_0.length c0_0, .slice A0_1 l0_1.length c0_1]) (t := 28) ?hr ?_; (case hd => rfl); (case hg => rfl); (case hr => first | (go_simp; done) | (go_simp; rfl)); intro aq hg w4 hbox hb; replace ad := am_ (hbox); replace bg := am_ ((by rw [hg]; exact (below_size (b0_ HB.out)) : w.heap.size ≤ aq)); replace aj := am_ ((by rw [hg]; exact (below_size (b0_ HB.out)) : w.heap.size ≤ aq)); replace HB := am_ (below_step (b0_ HB.out) hb); clear hb hbox hg; have ar := ck_ (v := (.slice A0_0 l0_0.length c0_0)) ad 0 rfl; have au := ck_ (v := (.slice A0_1 l0_1.length c0_1)) ad 1 rfl; have av := blk_frozen ad.out 0; have aw := blk_frozen ad.out 1) | ((with_reducible refine gate_dst (N := 13) rfl ?_); refine Kd.R_make (Kd.int .u64) _ 52 rfl (N := 13) rfl 50 _ _ rfl (l0_1.length : Int) rfl rfl Try.underlying50 (.int .u64 0) 8 info52 rfl (by decide) (by omega) 0 (ok := fun _ => True) (okp := fun _ => True) rfl (fun _ hk => hk) trivial (of_decide_eq_true ah_) (Nat.le_trans (Nat.mul_le_mul_right _ (of_decide_eq_true ah_ : (l0_1.length : Int).toNat ≤ 35184372088832)) (by omega)) (Below.refl _ _) (Nat.le_refl _) ?_; intro aL w6 ho7 hb hg_ hnew_; clear hg_ hnew_; (first | rw [← aI.out] at ho7 | (simp only [Int.reduceToNat] at ho7; rw [← aI.out] at ho7)); have n0_ := am_ (Kd.R_lower ho7 (below_size (b1_ HB.out aj.out))); have n1_ := am_ (blk_below (rb_ ad.out) hb); have n2_ := am_ (below_step (b1_ HB.out aj.out) hb); clear ad; clear HB; have aV := n0_; have ad := n1_; have HB := n2_; clear n0_ n1_ n2_; clear hb ho7; have ax := ck_ (v := (.slice A0_0 l0_0.length c0_0)) ad 0 rfl; have ay := ck_ (v := (.slice A0_1 l0_1.length c0_1)) ad 1 rfl; have az := blk_frozen ad.out 0; have aA := blk_frozen ad.out 1))
   go_loopg [17] k (fun kq v17 w' => ∃ (al : List Int) (aa : Int), v17 = .int .i64 aa ∧ Aside0 (impl_closure.l0 kq al l0_1 (l0_1.length : Int) aa = some r) ∧ Aside0 (kq ≤ k) ∧ Aside0 (Kd.R (Kd.int .u64) 52 w' w.heap.size (fun _ => True) aL al) ∧ Aside0 (w'.heap[aq]? = some (.cells #[(.slice A0_0 l0_0.length c0_0), (.slice A0_1 l0_1.length c0_1)] 28 (0, 0))) ∧ Aside0 (Below w.heap.size w w'))
   case atStart => exact ⟨(aK), (0), (by first | rfl | (simp; done) | (simp [*]; done)), H', ⟨Nat.le_refl _⟩, ⟨by refine rr_ ?_; exact aV.out⟩, ⟨by refine rb_ ?_; exact ad.out⟩, ⟨by exact zp9_0_ HB.out aj.out⟩⟩
   case round =>
    clear H'
    try clear c2
    try clear c2b0
    try clear c2b1
    try clear p2
    try clear c3
    try clear c3b0
    try clear c3b1
    try clear ar
    try clear au
    try clear ax
    try clear ay
    try clear av
    try clear aw
    try clear az
    try clear aA
    obtain ⟨al, aa, rfl, HA, HK1, ae, ad, HB⟩ := hrel
    cases gk with
    | zero => exact absurd HA.out (by simp [impl_closure.l0])
    | succ k1 =>
     have H := HA.out
     clear HA
     simp only [impl_closure.l0] at H
     by_cases c9 : aa < (l0_1.length : Int)
     ·rw [if_pos c9] at H
      have c9b0 : decide (aa < (l0_1.length : Int)) = true := decide_eq_true c9
      clear c9
      by_cases c10 : 0 ≤ aa
      ·rw [if_pos c10] at H
       have c10b0 : decide (0 ≤ aa) = true := decide_eq_true c10
       clear c10
       by_cases c11 : aa < (l0_1.length : Int)
       ·rw [if_pos c11] at H
        have c11b0 : decide (aa < (l0_1.length : Int)) = true := decide_eq_true c11
        clear c11
        have H' := am_ H
        clear H
        have p210 : 0 ≤ (aa : Int) := of_decide_eq_true ah_
        have q210 : aa < (l0_1.length : Int) := of_decide_eq_true ah_
        obtain ⟨aW, A210_0, c210_0, e210, am, hl210_0, hi210_0⟩ := at_L1 aU.out aa p210 q210
        cases e210
        replace am := (HB.out.cell (World.block_lt_of_cell? w _ am)).trans am
        have aJ := am_ hi210_0
        have bc := am_ hl210_0
        clear hi210_0 hl210_0
        replace p210 := eq_true p210
        replace q210 := eq_true q210
        go_wp2
        go_loopg [24] k1 (fun kq v24 w' => ∃ (ai : List Int) (ag : Int), v24 = .int .i64 ag ∧ Aside0 (impl_closure.l1 kq ai aa l0_1 (l0_1.length : Int) aa (rd_L1 l0_1 aa) ((rd_L1 l0_1 aa).length : Int) ag = some r) ∧ Aside0 (kq ≤ k1) ∧ Aside0 (Kd.R (Kd.int .u64) 52 w' w.heap.size (fun _ => True) aL ai) ∧ Aside0 (w'.heap[aq]? = some (.cells #[(.slice A0_0 l0_0.length c0_0), (.slice (some aW) l0_1.length c0_1)] 28 (0, 0))) ∧ Aside0 (Below w.heap.size w w'))
        case atStart => exact ⟨(al), (0), (by first | rfl | (simp; done) | (simp [*]; done)), H', ⟨Nat.le_refl _⟩, ⟨by refine rr_ ?_; exact ae.out⟩, ⟨by refine rb_ ?_; exact ad.out⟩, ⟨by exact zp9_0_ HB.out aj.out⟩⟩
        case round =>
         clear H'
         try clear c1
         try clear c2
         try clear c2b0
         try clear c2b1
         try clear p2
         try clear q2
         try clear hx2
         try clear c3
         try clear c3b0
         try clear c3b1
         try clear c9
         try clear c9b0
         try clear c10
         try clear c10b0
         try clear c11
         try clear c11b0
         try clear ar
         try clear au
         try clear ax
         try clear ay
         try clear av
         try clear aw
         try clear az
         try clear aA
         try clear am
         try clear p2
         try clear p210
         try clear q210
         obtain ⟨ai, ag, rfl, HA, HK2, ae, ad, HB⟩ := hrel
         cases gk with
         | zero => exact absurd HA.out (by simp [impl_closure.l1])
         | succ k2 =>
          have H := HA.out
          clear HA
          simp only [impl_closure.l1] at H
          by_cases c12 : ag < ((rd_L1 l0_1 aa).length : Int)
          ·rw [if_pos c12] at H
           have c12b0 : decide (ag < ((rd_L1 l0_1 aa).length : Int)) = true := decide_eq_true c12
           clear c12
           by_cases c13 : 0 ≤ ag
           ·rw [if_pos c13] at H
            have c13b0 : decide (0 ≤ ag) = true := decide_eq_true c13
            clear c13
            by_cases c14 : ag < ((rd_L1 l0_1 aa).length : Int)
            ·rw [if_pos c14] at H
             have c14b0 : decide (ag < ((rd_L1 l0_1 aa).length : Int)) = true := decide_eq_true c14
             clear c14
             by_cases c15 : 0 ≤ aa
             ·rw [if_pos c15] at H
              have c15b0 : decide (0 ≤ aa) = true := decide_eq_true c15
              clear c15
              by_cases c16 : aa < (ai.length : Int)
              ·rw [if_pos c16] at H
               have c16b0 : decide (aa < (ai.length : Int)) = true := decide_eq_true c16
               (try rw [hl3_3] at c16b0)
               clear c16
               by_cases c17 : 0 ≤ (rd (rd_L1 l0_1 aa) ag)
               ·rw [if_pos c17] at H
                have c17b0 := eq_true c17
                have c17b1 : decide (0 ≤ (rd (rd_L1 l0_1 aa) ag)) = true := decide_eq_true c17
                clear c17
                obtain ⟨ji18, hji18⟩ : ∃ j_ : Int, (shl .u64 1 (rd (rd_L1 l0_1 aa) ag)) = j_ := ⟨_, rfl⟩
                replace H : (impl_closure.l1 k2 (ai.set (aa : Int).toNat (Go.bits .or .u64 (rd ai aa) (ji18))) aa l0_1 (l0_1.length : Int) aa (rd_L1 l0_1 aa) ((rd_L1 l0_1 aa).length : Int) (wrap64 (ag + 1))) = some r := by first | (rw [hji18] at H; exact H) | (simp only [hji18] at H ⊢; exact H)
                have hji18_ : (IntKind.u64.wrap (1 * 2 ^ min (rd (rd_L1 l0_1 aa) ag).toNat 64)) = ji18 := hji18
                have hji18z : (rd (rd_L1 l0_1 aa) ag) ≤ 64 → (IntKind.u64.wrap (1 * 2 ^ (rd (rd_L1 l0_1 aa) ag).toNat)) = ji18 := shl_small hji18
                have hji18u : (IntKind.u64.wrap (2 ^ min (rd (rd_L1 l0_1 aa) ag).toNat 64)) = ji18 := by have h_ := hji18_; rw [Int.one_mul] at h_; exact h_
                have hji18v : (rd (rd_L1 l0_1 aa) ag) ≤ 64 → (IntKind.u64.wrap (2 ^ (rd (rd_L1 l0_1 aa) ag).toNat)) = ji18 := fun hle_ => by have h_ := hji18z hle_; rw [Int.one_mul] at h_; exact h_
                obtain ⟨aM, hy213⟩ : ∃ y_ : List Int, y_ = (ai.set (aa : Int).toNat (Go.bits .or .u64 (rd ai aa) (ji18))) := ⟨_, rfl⟩
                replace H : (impl_closure.l1 k2 aM aa l0_1 (l0_1.length : Int) aa (rd_L1 l0_1 aa) ((rd_L1 l0_1 aa).length : Int) (wrap64 (ag + 1))) = some r := by first | (rw [hy213]; with_reducible exact H) | (have H2_ := (Option.bind_some _ _).symm.trans H; rw [hy213]; with_reducible exact H2_) | (have H2_ := (Option.bind_some _ _).symm.trans H; with_reducible exact H2_) | with_reducible exact H | (rw [hy213]; exact H) | exact H
                have aX := am_ hy213
                clear hy213
                have H' := am_ H
                clear H
                have p211 : 0 ≤ (ag : Int) := of_decide_eq_true ah_
                have q211 : ag < ((rd_L1 l0_1 aa).length : Int) := of_decide_eq_true ah_
                obtain ⟨bh, e211, ao⟩ := Kd.at_int aJ.out ag p211 q211
                cases e211
                replace ao := (HB.out.cell (World.block_lt_of_cell? w _ ao)).trans ao
                replace p211 := eq_true p211
                replace q211 := eq_true q211
                try go_wp2
                replace ae := am_ (Kd.R_drew ae.out)
                replace ad := am_ (blk_drew ad.out)
                replace HB := am_ (below_drew1 HB.out)
                obtain ⟨bj, bk, aN⟩ := Kd.R_slice ae.out
                (first | subst aN | (injection aN with f1_ f2_ f3_; have f4_ := f1_.symm; have f5_ := f3_.symm; clear f1_ f2_ f3_; subst f4_; subst f5_))
                have p212 : 0 ≤ (aa : Int) := of_decide_eq_true ah_
                have q212 : aa < (ai.length : Int) := of_decide_eq_true ah_
                obtain ⟨bi, e212, ap⟩ := Kd.at_int (Kd.R_reads' ae.out).2.2 aa p212 q212
                cases e212
                replace p212 := eq_true p212
                replace q212 := eq_true q212
                have p19 : 0 ≤ (aa : Int) := of_decide_eq_true ah_
                have q19 : (aa : Int) < ((ai.length : Int) : Int) := of_decide_eq_true ah_
                obtain ⟨go19, bm, aO, aP, gl19, cl19, HG19⟩ := Kd.R_form ae.out (by omega)
                (first | cases aO | (injection aO with ea_ en_ ec_; (first | subst ea_ | (injection ea_ with ea_; subst ea_)); subst ec_; clear en_))
                have GB19 := am_ aP
                have GG19 := am_ HG19
                clear aP gl19 HG19
                (first | simp only [add_plain] at ap | skip)
                obtain ⟨aB, hf19_0⟩ := Kd.R_celln 0 ae.out (aa : Int) p19 q19
                replace p19 := eq_true p19
                replace q19 := eq_true q19
                have HP22 := Kd.R_putn ae.out (aa : Int) (Go.bits .or .u64 (rd ai aa) (ji18))
                rw [← aX.out] at HP22
                have HQ22 := am_ HP22
                clear HP22
                refine start_ (n := 9) (S := fun w' => w'.cell? ⟨go19, (aa).toNat, none⟩ = some (.int .u64 (rd ai aa))) (ds := [8]) (bl 9 0) (by kernel_rfl) rfl rfl (ap) (fun hHeld => ?_); refine with_tabW impl_closure.tab8 impl_closure.bits8 (fun HT_ HW_ => ?_)
                generalize wr.drew = w20 at ae ad HB GG19 HQ22 hf19_0 aB ap hHeld ⊢
                refine pu_ 0 28 (bl 9 1) HT_ ?_
                refine pu_ 1 29 (bl 9 3) HT_ ?_
                refine pu_ 2 30 (bl 9 7) HT_ ?_
                refine pu_ 4 32 (bl 9 23) HT_ ?_
                refine pu_ 5 33 (bl 9 55) HT_ ?_
                refine tk_ 3 31 (bl 9 63) HT_ HW_ hHeld ?_
                refine pu_ 6 34 (bl 9 127) HT_ ?_
                refine pu_ 7 35 (bl 9 255) HT_ ?_
                refine last_ (i := 8) (N := none) (bl 9 511) rfl rfl (one_of HT_.out (by kernel_rfl)) (by decide) (fun K hK => ?_)
                refine skip_ (w1 := ?_) (by rfl) rfl ?_ ?_
                rotate_left
                ·go_simp
                 rfl
                refine hK.out _ _ ?_
                clear hK K
                refine done_ (done_of HT_.out (by kernel_rfl)) ?_
                try go_wp2
                go_roundg k2
                case measure => have := HK1.out; have := HK2.out; omega
                case rel => exact ⟨(aM), (wrap64 (ag + 1)), (by first | rfl | (simp; done) | (simp [*]; done)), H', ⟨by have := HK1.out; have := HK2.out; omega⟩, ⟨by refine rr_ ?_; exact HQ22.out⟩, ⟨by refine rb_ ?_; refine blk_far ?_ (by have h_ := Kd.R_ne ae.out ad.out (by decide); intro e_; exact h_ (by rw [e_]; rfl)) _; refine rb_ ?_; exact ad.out⟩, ⟨by repeat (first | (with_reducible first | exact HB.out | apply below_alloc | apply pw_below_drewN | apply below_drew1 | refine below_set ?_ GB19.out | refine below_set ?_ aj.out) | exact HB.out)⟩⟩
               ·rw [if_neg c17] at H
                exact absurd H (by simp)
              ·rw [if_neg c16] at H
               exact absurd H (by simp)
             ·rw [if_neg c15] at H
              exact absurd H (by simp)
            ·rw [if_neg c14] at H
             exact absurd H (by simp)
           ·rw [if_neg c13] at H
            exact absurd H (by simp)
          ·rw [if_neg c12] at H
           have c12b0 : decide (ag < ((rd_L1 l0_1 aa).length : Int)) = false := decide_eq_false c12
           clear c12
           have H' := am_ H
           clear H
           go_wp2
           go_roundg k2
           case measure => have := HK1.out; have := HK2.out; omega
           case rel => exact ⟨(ai), (wrap64 (aa + 1)), (by first | rfl | (simp; done) | (simp [*]; done)), H', ⟨by have := HK1.out; have := HK2.out; omega⟩, ⟨by refine rr_ ?_; exact ae.out⟩, ⟨by refine rb_ ?_; exact ad.out⟩, ⟨by exact zp9_0_ HB.out aj.out⟩⟩
       ·rw [if_neg c11] at H
        exact absurd H (by simp)
      ·rw [if_neg c10] at H
       exact absurd H (by simp)
     ·rw [if_neg c9] at H
      have c9b0 : decide (aa < (l0_1.length : Int)) = false := decide_eq_false c9
      clear c9
      have H' := am_ H
      clear H
      obtain ⟨aG, aH, bb⟩ := Kd.R_slice ae.out
      subst bb
      go_wp2
      go_loopg [40] k1 (fun kq v40 w' => ∃ (ai : List Int) (ak : Int), v40 = .int .i64 ak ∧ Aside0 (impl_closure.l2 kq ai (al.length : Int) ak = some r) ∧ Aside0 (kq ≤ k1) ∧ Aside0 (Kd.R (Kd.int .u64) 52 w' w.heap.size (fun _ => True) (.slice aG al.length aH) ai) ∧ Aside0 (w'.heap[aq]? = some (.cells #[(.slice A0_0 l0_0.length c0_0), (.slice A0_1 l0_1.length c0_1)] 28 (0, 0))) ∧ Aside0 (Below w.heap.size w w'))
      case atStart => exact ⟨(al), (0), (by first | rfl | (simp; done) | (simp [*]; done)), H', ⟨Nat.le_refl _⟩, ⟨by refine rr_ ?_; exact ae.out⟩, ⟨by refine rb_ ?_; exact ad.out⟩, ⟨by exact zp9_0_ HB.out aj.out⟩⟩
      case round =>
       clear H'
       try clear c1
       try clear p1
       try clear q1
       try clear hx1
       try clear hf1
       try clear c2
       try clear c2b0
       try clear c2b1
       try clear p2
       try clear q2
       try clear hx2
       try clear c3
       try clear c3b0
       try clear c3b1
       try clear p6
       try clear c9
       try clear c9b0
       try clear c10
       try clear c10b0
       try clear c11
       try clear c11b0
       try clear c12
       try clear c12b0
       try clear c13
       try clear c13b0
       try clear c14
       try clear c14b0
       try clear c15
       try clear c15b0
       try clear c16
       try clear c16b0
       try clear c17
       try clear c17b0
       try clear c17b1
       try clear p19
       try clear q19
       try clear hx19
       try clear hf19
       try clear c21
       try clear p21
       try clear q21
       try clear hx21
       try clear ar
       try clear au
       try clear ax
       try clear ay
       try clear av
       try clear aw
       try clear az
       try clear aA
       try clear aB
       try clear am
       try clear ao
       try clear ap
       try clear p19
       try clear p2
       try clear p210
       try clear p211
       try clear p212
       try clear q19
       try clear q2
       try clear q210
       try clear q211
       try clear q212
       obtain ⟨ai, ak, rfl, HA, HK2, ae, ad, HB⟩ := hrel
       have hl3_2 := (Kd.R_reads' ae.out).1
       rw [hl3_2] at ae
       (try simp only [hl3_2])
       (try simp only [hl3_2] at ad)
       cases gk with
       | zero => exact absurd HA.out (by simp [impl_closure.l2])
       | succ k2 =>
        have H := HA.out
        clear HA
        simp only [impl_closure.l2] at H
        by_cases c24 : ak < (al.length : Int)
        ·rw [if_pos c24] at H
         have c24b0 : decide (ak < (al.length : Int)) = true := decide_eq_true c24
         (try rw [hl3_2] at c24b0)
         clear c24
         have H' := am_ H
         clear H
         go_wp2
         go_loopg [44] k2 (fun kq v44 w' => ∃ (an : List Int) (ab : Int), v44 = .int .i64 ab ∧ Aside0 (impl_closure.l3 kq an (al.length : Int) ak (ai.length : Int) ab = some r) ∧ Aside0 (kq ≤ k2) ∧ Aside0 (Kd.R (Kd.int .u64) 52 w' w.heap.size (fun _ => True) (.slice aG ai.length aH) an) ∧ Aside0 (w'.heap[aq]? = some (.cells #[(.slice A0_0 l0_0.length c0_0), (.slice A0_1 l0_1.length c0_1)] 28 (0, 0))) ∧ Aside0 (Below w.heap.size w w'))
         case atStart => exact ⟨(ai), (0), (by first | rfl | (simp; done) | (simp [*]; done)), H', ⟨Nat.le_refl _⟩, ⟨by (try simp only [hl3_2]); refine rr_ ?_; exact ae.out⟩, ⟨by (try simp only [hl3_2]); refine rb_ ?_; exact ad.out⟩, ⟨by exact zp9_0_ HB.out aj.out⟩⟩
         case round =>
          clear H'
          try clear c1
          try clear p1
          try clear q1
          try clear hx1
          try clear hf1
          try clear c2
          try clear c2b0
          try clear c2b1
          try clear p2
          try clear q2
          try clear hx2
          try clear c3
          try clear c3b0
          try clear c3b1
          try clear p6
          try clear c9
          try clear c9b0
          try clear c10
          try clear c10b0
          try clear c11
          try clear c11b0
          try clear c12
          try clear c12b0
          try clear c13
          try clear c13b0
          try clear c14
          try clear c14b0
          try clear c15
          try clear c15b0
          try clear c16
          try clear c16b0
          try clear c17
          try clear c17b0
          try clear c17b1
          try clear p19
          try clear q19
          try clear hx19
          try clear hf19
          try clear c21
          try clear p21
          try clear q21
          try clear hx21
          try clear c24
          try clear c24b0
          try clear ar
          try clear au
          try clear ax
          try clear ay
          try clear av
          try clear aw
          try clear az
          try clear aA
          try clear aB
          try clear am
          try clear ao
          try clear ap
          try clear p1
          try clear p19
          try clear p2
          try clear p21
          try clear p210
          try clear p211
          try clear p212
          try clear p6
          try clear q1
          try clear q19
          try clear q2
          try clear q21
          try clear q210
          try clear q211
          try clear q212
          obtain ⟨an, ab, rfl, HA, HK3, ae, ad, HB⟩ := hrel
          have hl3_3 := (Kd.R_reads' ae.out).1
          rw [hl3_3] at ae
          (try simp only [hl3_3])
          (try simp only [hl3_3] at ad)
          cases gk with
          | zero => exact absurd HA.out (by simp [impl_closure.l3])
          | succ k3 =>
           have H := HA.out
           clear HA
           simp only [impl_closure.l3] at H
           by_cases c25 : ab < (ai.length : Int)
           ·rw [if_pos c25] at H
            have c25b0 : decide (ab < (ai.length : Int)) = true := decide_eq_true c25
            (try rw [hl3_3] at c25b0)
            clear c25
            have H' := am_ H
            clear H
            go_wp2
            go_loopg [49] k3 (fun kq v49 w' => ∃ (ah : List Int) (af : Int), v49 = .int .i64 af ∧ Aside0 (impl_closure.l4 kq ah ab (al.length : Int) ak (ai.length : Int) ab (an.length : Int) af = some r) ∧ Aside0 (kq ≤ k3) ∧ Aside0 (Kd.R (Kd.int .u64) 52 w' w.heap.size (fun _ => True) (.slice aG an.length aH) ah) ∧ Aside0 (w'.heap[aq]? = some (.cells #[(.slice A0_0 l0_0.length c0_0), (.slice A0_1 l0_1.length c0_1)] 28 (0, 0))) ∧ Aside0 (Below w.heap.size w w'))
            case atStart => exact ⟨(an), (0), (by first | rfl | (simp; done) | (simp [*]; done)), H', ⟨Nat.le_refl _⟩, ⟨by (try simp only [hl3_2]); (try simp only [hl3_3]); refine rr_ ?_; exact ae.out⟩, ⟨by (try simp only [hl3_2]); (try simp only [hl3_3]); refine rb_ ?_; exact ad.out⟩, ⟨by exact zp9_0_ HB.out aj.out⟩⟩
            case round =>
             clear H'
             try clear c1
             try clear p1
             try clear q1
             try clear hx1
             try clear hf1
             try clear c2
             try clear c2b0
             try clear c2b1
             try clear p2
             try clear q2
             try clear hx2
             try clear c3
             try clear c3b0
             try clear c3b1
             try clear p6
             try clear c9
             try clear c9b0
             try clear c10
             try clear c10b0
             try clear c11
             try clear c11b0
             try clear c12
             try clear c12b0
             try clear c13
             try clear c13b0
             try clear c14
             try clear c14b0
             try clear c15
             try clear c15b0
             try clear c16
             try clear c16b0
             try clear c17
             try clear c17b0
             try clear c17b1
             try clear p19
             try clear q19
             try clear hx19
             try clear hf19
             try clear c21
             try clear p21
             try clear q21
             try clear hx21
             try clear c24
             try clear c24b0
             try clear c25
             try clear c25b0
             try clear ar
             try clear au
             try clear ax
             try clear ay
             try clear av
             try clear aw
             try clear az
             try clear aA
             try clear aB
             try clear am
             try clear ao
             try clear ap
             try clear p1
             try clear p19
             try clear p2
             try clear p21
             try clear p210
             try clear p211
             try clear p212
             try clear p6
             try clear q1
             try clear q19
             try clear q2
             try clear q21
             try clear q210
             try clear q211
             try clear q212
             obtain ⟨ah, af, rfl, HA, HK4, ae, ad, HB⟩ := hrel
             have hl3_4 := (Kd.R_reads' ae.out).1
             rw [hl3_4] at ae
             (try simp only [hl3_4])
             (try simp only [hl3_4] at ad)
             cases gk with
             | zero => exact absurd HA.out (by simp [impl_closure.l4])
             | succ k4 =>
              have H := HA.out
              clear HA
              simp only [impl_closure.l4] at H
              by_cases c26 : af < (an.length : Int)
              ·rw [if_pos c26] at H
               have c26b0 : decide (af < (an.length : Int)) = true := decide_eq_true c26
               (try rw [hl3_4] at c26b0)
               clear c26
               by_cases c27 : 0 ≤ ab
               ·rw [if_pos c27] at H
                have c27b0 : decide (0 ≤ ab) = true := decide_eq_true c27
                clear c27
                by_cases c28 : ab < (ah.length : Int)
                ·rw [if_pos c28] at H
                 have c28b0 : decide (ab < (ah.length : Int)) = true := decide_eq_true c28
                 (try rw [hl3_5] at c28b0)
                 clear c28
                 by_cases c29 : 0 ≤ af
                 ·rw [if_pos c29] at H
                  have c29b0 := eq_true c29
                  have c29b1 : decide (0 ≤ af) = true := decide_eq_true c29
                  clear c29
                  obtain ⟨ji30, hji30⟩ : ∃ j_ : Int, (shr .u64 (rd ah ab) af) = j_ := ⟨_, rfl⟩
                  replace H : (if (Go.bits .and .u64 (ji30) 1) = 1 then (if af < (ah.length : Int) then (impl_closure.l4 k4 (ah.set (ab : Int).toNat (Go.bits .or .u64 (rd ah ab) (rd ah af))) ab (al.length : Int) ak (ai.length : Int) ab (an.length : Int) (wrap64 (af + 1))) else (none)) else (impl_closure.l4 k4 ah ab (al.length : Int) ak (ai.length : Int) ab (an.length : Int) (wrap64 (af + 1)))) = some r := by first | (rw [hji30] at H; exact H) | (simp only [hji30] at H ⊢; exact H)
                  have hji30_ : ((rd ah ab) / 2 ^ min af.toNat 64) = ji30 := hji30
                  have hji30z : af ≤ 64 → ((rd ah ab) / 2 ^ af.toNat) = ji30 := shr_small hji30
                  by_cases c31 : (Go.bits .and .u64 (ji30) 1) = 1
                  ·rw [if_pos c31] at H
                   have c31b0 : ((Go.bits .and .u64 (ji30) 1) == 1) = true := beq_iff_eq.mpr c31
                   have c31b1 : ((Go.bits .and .u64 (ji30) 1) != 1) = false := bne_eq_false_iff_eq.mpr c31
                   clear c31
                   by_cases c32 : af < (ah.length : Int)
                   ·rw [if_pos c32] at H
                    have c32b0 : decide (af < (ah.length : Int)) = true := decide_eq_true c32
                    (try rw [hl3_5] at c32b0)
                    clear c32
                    obtain ⟨aQ, hy217⟩ : ∃ y_ : List Int, y_ = (ah.set (ab : Int).toNat (Go.bits .or .u64 (rd ah ab) (rd ah af))) := ⟨_, rfl⟩
                    replace H : (impl_closure.l4 k4 aQ ab (al.length : Int) ak (ai.length : Int) ab (an.length : Int) (wrap64 (af + 1))) = some r := by first | (rw [hy217]; with_reducible exact H) | (have H2_ := (Option.bind_some _ _).symm.trans H; rw [hy217]; with_reducible exact H2_) | (have H2_ := (Option.bind_some _ _).symm.trans H; with_reducible exact H2_) | with_reducible exact H | (rw [hy217]; exact H) | exact H
                    have aY := am_ hy217
                    clear hy217
                    have H' := am_ H
                    clear H
                    have p214 : 0 ≤ (ab : Int) := of_decide_eq_true ah_
                    have q214 : ab < (ah.length : Int) := of_decide_eq_true ah_
                    obtain ⟨aF, e214, aC⟩ := Kd.at_int (Kd.R_reads' ae.out).2.2 ab p214 q214
                    cases e214
                    replace p214 := eq_true p214
                    replace q214 := eq_true q214
                    try go_wp2
                    replace ae := am_ (Kd.R_drew ae.out)
                    replace ad := am_ (blk_drew ad.out)
                    replace HB := am_ (below_drew1 HB.out)
                    have p215 : 0 ≤ (ab : Int) := of_decide_eq_true ah_
                    have q215 : ab < (ah.length : Int) := of_decide_eq_true ah_
                    obtain ⟨aZ, e215, aD⟩ := Kd.at_int (Kd.R_reads' ae.out).2.2 ab p215 q215
                    obtain rfl : aF = aZ := (by injection e215)
                    replace p215 := eq_true p215
                    replace q215 := eq_true q215
                    have p216 : 0 ≤ (af : Int) := of_decide_eq_true ah_
                    have q216 : af < (ah.length : Int) := of_decide_eq_true ah_
                    obtain ⟨ba, e216, aE⟩ := Kd.at_int (Kd.R_reads' ae.out).2.2 af p216 q216
                    obtain rfl : aF = ba := (by injection e216)
                    replace p216 := eq_true p216
                    replace q216 := eq_true q216
                    have p33 : 0 ≤ (ab : Int) := of_decide_eq_true ah_
                    have q33 : (ab : Int) < ((ah.length : Int) : Int) := of_decide_eq_true ah_
                    obtain ⟨go33, bn, aR, aS, gl33, cl33, HG33⟩ := Kd.R_form ae.out (by omega)
                    (first | cases aR | (injection aR with ea_ en_ ec_; (first | subst ea_ | (injection ea_ with ea_; subst ea_)); subst ec_; clear en_))
                    have GB33 := am_ aS
                    have GG33 := am_ HG33
                    clear aS gl33 HG33
                    (first | simp only [add_plain] at aC | skip)
                    (first | simp only [add_plain] at aD | skip)
                    (first | simp only [add_plain] at aE | skip)
                    obtain ⟨aT, hf33_0⟩ := Kd.R_celln 0 ae.out (ab : Int) p33 q33
                    replace p33 := eq_true p33
                    replace q33 := eq_true q33
                    have HP35 := Kd.R_putn ae.out (ab : Int) (Go.bits .or .u64 (rd ah ab) (rd ah af))
                    rw [← aY.out] at HP35
                    have HQ35 := am_ HP35
                    clear HP35
                    refine start_ (n := 11) (S := fun w' => w'.cell? ⟨go33, (ab).toNat, none⟩ = some (.int .u64 (rd ah ab)) ∧ w'.cell? ⟨go33, (af).toNat, none⟩ = some (.int .u64 (rd ah af))) (ds := [10]) (bl 11 0) (by kernel_rfl) rfl rfl ⟨aD, aE⟩ (fun hHeld => ?_); refine with_tabW impl_closure.tab20 impl_closure.bits20 (fun HT_ HW_ => ?_)
                    generalize wr.drew = w34 at ae ad HB GG33 HQ35 hf33_0 aC aD aE aT hHeld ⊢
                    refine pu_ 0 60 (bl 11 1) HT_ ?_
                    refine pu_ 1 61 (bl 11 3) HT_ ?_
                    refine pu_ 2 62 (bl 11 7) HT_ ?_
                    refine pu_ 4 64 (bl 11 23) HT_ ?_
                    refine pu_ 5 65 (bl 11 55) HT_ ?_
                    refine pu_ 6 66 (bl 11 119) HT_ ?_
                    refine tk_ 3 63 (bl 11 127) HT_ HW_ hHeld ?_
                    refine tk_ 7 67 (bl 11 255) HT_ HW_ hHeld ?_
                    refine pu_ 8 68 (bl 11 511) HT_ ?_
                    refine pu_ 9 69 (bl 11 1023) HT_ ?_
                    refine last_ (i := 10) (N := none) (bl 11 2047) rfl rfl (one_of HT_.out (by kernel_rfl)) (by decide) (fun K hK => ?_)
                    refine skip_ (w1 := ?_) (by rfl) rfl ?_ ?_
                    rotate_left
                    ·go_simp
                     rfl
                    refine hK.out _ _ ?_
                    clear hK K
                    refine done_ (done_of HT_.out (by kernel_rfl)) ?_
                    try go_wp2
                    (try simp only [← hl3_4])
                    go_roundg k4
                    case measure => have := HK1.out; have := HK2.out; have := HK3.out; have := HK4.out; omega
                    case rel => exact ⟨(aQ), (wrap64 (af + 1)), (by first | rfl | (simp; done) | (simp [*]; done)), H', ⟨by have := HK1.out; have := HK2.out; have := HK3.out; have := HK4.out; omega⟩, ⟨by (try simp only [hl3_2]); (try simp only [hl3_3]); (try simp only [hl3_4]); refine rr_ ?_; exact HQ35.out⟩, ⟨by (try simp only [hl3_2]); (try simp only [hl3_3]); (try simp only [hl3_4]); refine rb_ ?_; refine blk_far ?_ (by have h_ := Kd.R_ne ae.out ad.out (by decide); intro e_; exact h_ (by rw [e_]; rfl)) _; refine rb_ ?_; exact ad.out⟩, ⟨by repeat (first | (with_reducible first | exact HB.out | apply below_alloc | apply pw_below_drewN | apply below_drew1 | refine below_set ?_ GB33.out | refine below_set ?_ aj.out) | exact HB.out)⟩⟩
                   ·rw [if_neg c32] at H
                    exact absurd H (by simp)
                  ·rw [if_neg c31] at H
                   have c31b0 : ((Go.bits .and .u64 (ji30) 1) == 1) = false := beq_eq_false_iff_ne.mpr c31
                   have c31b1 : ((Go.bits .and .u64 (ji30) 1) != 1) = true := bne_iff_ne.mpr c31
                   have H' := am_ H
                   clear H
                   have p214 : 0 ≤ (ab : Int) := of_decide_eq_true ah_
                   have q214 : ab < (ah.length : Int) := of_decide_eq_true ah_
                   obtain ⟨aF, e214, aC⟩ := Kd.at_int (Kd.R_reads' ae.out).2.2 ab p214 q214
                   cases e214
                   replace p214 := eq_true p214
                   replace q214 := eq_true q214
                   go_wp2
                   (try simp only [← hl3_4])
                   go_roundg k4
                   case measure => have := HK1.out; have := HK2.out; have := HK3.out; have := HK4.out; omega
                   case rel => exact ⟨(ah), (wrap64 (af + 1)), (by first | rfl | (simp; done) | (simp [*]; done)), H', ⟨by have := HK1.out; have := HK2.out; have := HK3.out; have := HK4.out; omega⟩, ⟨by (try simp only [hl3_2]); (try simp only [hl3_3]); (try simp only [hl3_4]); refine rr_ ?_; exact ae.out⟩, ⟨by (try simp only [hl3_2]); (try simp only [hl3_3]); (try simp only [hl3_4]); refine rb_ ?_; exact ad.out⟩, ⟨by exact zp9_0_ HB.out aj.out⟩⟩
                 ·rw [if_neg c29] at H
                  exact absurd H (by simp)
                ·rw [if_neg c28] at H
                 exact absurd H (by simp)
               ·rw [if_neg c27] at H
                exact absurd H (by simp)
              ·rw [if_neg c26] at H
               have c26b0 : decide (af < (an.length : Int)) = false := decide_eq_false c26
               (try rw [hl3_4] at c26b0)
               clear c26
               have H' := am_ H
               clear H
               go_wp2
               (try simp only [← hl3_3, ← hl3_4])
               go_roundg k4
               case measure => have := HK1.out; have := HK2.out; have := HK3.out; have := HK4.out; omega
               case rel => exact ⟨(ah), (wrap64 (ab + 1)), (by first | rfl | (simp; done) | (simp [*]; done)), H', ⟨by have := HK1.out; have := HK2.out; have := HK3.out; have := HK4.out; omega⟩, ⟨by (try simp only [hl3_2]); (try simp only [hl3_3]); (try simp only [hl3_4]); refine rr_ ?_; exact ae.out⟩, ⟨by (try simp only [hl3_2]); (try simp only [hl3_3]); (try simp only [hl3_4]); refine rb_ ?_; exact ad.out⟩, ⟨by exact zp9_0_ HB.out aj.out⟩⟩
           ·rw [if_neg c25] at H
            have c25b0 : decide (ab < (ai.length : Int)) = false := decide_eq_false c25
            (try rw [hl3_3] at c25b0)
            clear c25
            have H' := am_ H
            clear H
            go_wp2
            (try simp only [← hl3_2, ← hl3_3])
            go_roundg k3
            case measure => have := HK1.out; have := HK2.out; have := HK3.out; omega
            case rel => exact ⟨(an), (wrap64 (ak + 1)), (by first | rfl | (simp; done) | (simp [*]; done)), H', ⟨by have := HK1.out; have := HK2.out; have := HK3.out; omega⟩, ⟨by (try simp only [hl3_2]); (try simp only [hl3_3]); refine rr_ ?_; exact ae.out⟩, ⟨by (try simp only [hl3_2]); (try simp only [hl3_3]); refine rb_ ?_; exact ad.out⟩, ⟨by exact zp9_0_ HB.out aj.out⟩⟩
        ·rw [if_neg c24] at H
         have c24b0 : decide (ak < (al.length : Int)) = false := decide_eq_false c24
         (try rw [hl3_2] at c24b0)
         clear c24
         obtain rfl := Option.some.inj H
         simp only [Option.some.injEq, Prod.mk.injEq] at H
         obtain ⟨rfl⟩ := H
         go_wp2
         go_ret
         exact ⟨_, by first | rfl | (simp [errW_none, errW_some] <;> rfl) | (simp [*, errW_none, errW_some] <;> rfl), by refine rr_ ?_; exact ae.out, by exact zp9_0_ HB.out aj.out⟩
  ·rw [if_neg c3] at H
   exact absurd H (by simp)
 ·rw [if_neg c2] at H
  exact absurd H (by simp)
end Go.Proofs.Ytpgdhpnmagmooaa.P
end
section
namespace Go.Proofs.Ytpgdhpnmagmooaa.P
open Go.RowKit Go.Proofs.YtpgdhpnmagmooaaW.PrintWords Go.Proofs.YtpgdhpnmagmooaaW.PrintLast Go.Proofs.YtpgdhpnmagmooaaW.PrintMore
attribute [local go_sem] max2_int min2_int max_two min_two max_three min_three max_four min_four
set_option linter.unusedVariables false
set_option linter.unusedSimpArgs false
def impl_IsFinite.l0 : Nat → List Int → Int → Int → List Bool → List (List Int) → Option (Bool)
  | 0, _, _, _, _, _ => none
  | k + 1, x3, x11, x12, al, am => if x12 < x11 then (if x12 = 0 then (if 0 ≤ x12 then (if x12 < (x3.length : Int) then (if (Go.bits .and .u64 (shr .u64 (rd x3 x12) x12) 1) = 1 then ((impl_accepting.f k al am (rd x3 x12)).bind fun aA => (if aA = true then (some false) else (impl_IsFinite.l0 k x3 x11 (wrap64 (x12 + 1)) al am))) else (impl_IsFinite.l0 k x3 x11 (wrap64 (x12 + 1)) al am)) else (none)) else (none)) else (if 0 < (x3.length : Int) then (if 0 ≤ x12 then (if (Go.bits .and .u64 (shr .u64 (rd x3 0) x12) 1) = 1 then (if x12 < (x3.length : Int) then (if (Go.bits .and .u64 (shr .u64 (rd x3 x12) x12) 1) = 1 then ((impl_accepting.f k al am (rd x3 x12)).bind fun aw => (if aw = true then (some false) else (impl_IsFinite.l0 k x3 x11 (wrap64 (x12 + 1)) al am))) else (impl_IsFinite.l0 k x3 x11 (wrap64 (x12 + 1)) al am)) else (none)) else (impl_IsFinite.l0 k x3 x11 (wrap64 (x12 + 1)) al am)) else (none)) else (none))) else (some true)
def impl_IsFinite.f (k : Nat) (l0_0 : List Bool) (l0_1 : List (List Int)) : Option (Bool) := (impl_IsValidDfa.f l0_0 l0_1).bind fun aB => (if aB = true then ((impl_closure.f k l0_0 l0_1).bind fun ab => (impl_IsFinite.l0 k ab (ab.length : Int) 0 l0_0 l0_1)) else (some false))
theorem impl_IsFinite.mono_l : ∀ k, (∀ y0 y1 y2 y3 y4, LeO (impl_IsFinite.l0 k y0 y1 y2 y3 y4) (impl_IsFinite.l0 (k + 1) y0 y1 y2 y3 y4))
 | 0 => fun _ _ _ _ _ r h => by simp [impl_IsFinite.l0] at h
 | k + 1 => by
  have ih0 := impl_IsFinite.mono_l k
  ·intro y0 y1 y2 y3 y4
   unfold impl_IsFinite.l0
   repeat' first
   | (with_reducible exact ih0 _ _ _ _ _)
   | (with_reducible exact impl_accepting.mono _ _ _ _)
   | (with_reducible exact impl_closure.mono _ _ _)
   | (with_reducible exact LeO.refl _)
   | (with_reducible exact LeO.none _)
   | (with_reducible refine LeO.ite ?_ ?_)
   | (with_reducible refine LeO.bind ?_ (fun _ => ?_))
   | exact ih0 _ _ _ _ _
   | exact impl_accepting.mono _ _ _ _
   | exact impl_closure.mono _ _ _
   | exact LeO.none _
   | refine LeO.ite ?_ ?_
   | refine LeO.bind ?_ (fun _ => ?_)
theorem impl_IsFinite.mono : ∀ a0 a1 k, LeO (impl_IsFinite.f k a0 a1) (impl_IsFinite.f (k + 1) a0 a1) := by
 intro a0 a1 k
 have ih0 := impl_IsFinite.mono_l k
 unfold impl_IsFinite.f
 repeat' first
   | (with_reducible exact ih0 _ _ _ _ _)
   | (with_reducible exact impl_accepting.mono _ _ _ _)
   | (with_reducible exact impl_closure.mono _ _ _)
   | (with_reducible exact LeO.refl _)
   | (with_reducible exact LeO.none _)
   | (with_reducible refine LeO.ite ?_ ?_)
   | (with_reducible refine LeO.bind ?_ (fun _ => ?_))
   | exact ih0 _ _ _ _ _
   | exact impl_accepting.mono _ _ _ _
   | exact impl_closure.mono _ _ _
   | exact LeO.none _
   | refine LeO.ite ?_ ?_
   | refine LeO.bind ?_ (fun _ => ?_)
def impl_IsFinite.T7 : Bool × List (List Nat × List Nat) := (true, [([], []), ([0], [0]), ([1], [1]), ([2], [2]), ([3, 2], [2, 3]), ([4, 2], [2, 4]), ([2], [2]), ([5, 6, 2], [2, 5, 6]), ([7, 2], [2, 7]), ([8, 2], [2, 8]), ([2, 9], [2, 9]), ([10, 2], [10]), ([11], [11]), ([11], [11]), ([12, 13, 11], [11, 12, 13]), ([14, 11], [11, 14]), ([11], [11]), ([15, 16, 11], [11, 15, 16]), ([17, 11], [11, 17]), ([18, 11], [11, 18]), ([11, 19], [11, 19]), ([20, 11], [20]), ([21], [21]), ([21], [21]), ([21], [21]), ([23, 24, 21], [21, 23, 24]), ([25, 21], [21, 25]), ([22, 26, 21, 21], [21, 22, 26]), ([21, 27], [21, 27])])
def impl_IsFinite.B7 : List Nat := [0, 1, 3, 7, 15, 31, 7, 127, 255, 511, 1023, 2047, 4095, 4095, 16383, 32767, 4095, 131071, 262143, 524287, 1048575, 2097151, 4194303, 4194303, 4194303, 29360127, 62914559, 134217727, 268435455]
theorem impl_IsFinite.tab7 : rtab .any (opsOf Try.f9 7) = impl_IsFinite.T7 := by kernel_rfl
theorem impl_IsFinite.bits7 : waitsOk impl_IsFinite.T7.2 impl_IsFinite.B7 = true := by kernel_rfl
theorem zp10_0_ {p q g1 : Prop} (h : p) (h1 : g1) (c : p → g1 → q := by intro h_ h1_; repeat (first | (with_reducible first | exact h_ | apply below_alloc | apply pw_below_drewN | apply below_drew1 | refine below_set ?_ h1_) | exact h_)) : q := c h h1
set_option maxHeartbeats 8000000 in
set_option maxRecDepth 100000 in
theorem impl_IsFinite.calls (k : Nat) (A0_0 : Option Addr) (c0_0 : Nat) (l0_0 : List Bool) (A0_1 : Option Addr) (c0_1 : Nat) (l0_1 : List (List Int)) (r : Bool) (w : World) (hr0_0 : Kd.C Kd.bool w A0_0 l0_0.length l0_0) (hc0_0 : l0_0.length ≤ c0_0) (hr0_1 : Kd.C (Kd.slice 3 (Kd.int .i64)) w A0_1 l0_1.length l0_1) (hc0_1 : l0_1.length ≤ c0_1) (h : impl_IsFinite.f k l0_0 l0_1 = some r) :
  Calls Try.prog 9 #[.agg #[.slice A0_0 l0_0.length c0_0, .slice A0_1 l0_1.length c0_1]] w fun e w' => e = .returned (.bool r) ∧ Below w.heap.size w w' := by
 have hu28 := Try.underlying28
 have aq := am_ hr0_0
 have ar := am_ hc0_0
 clear hr0_0 hc0_0
 have au := am_ hr0_1
 have av := am_ hc0_1
 clear hr0_1 hc0_1
 have HB := am_ (Below.refl w.heap.size w)
 have H : ((impl_IsValidDfa.f l0_0 l0_1).bind fun aB => (if aB = true then ((impl_closure.f k l0_0 l0_1).bind fun ab => (impl_IsFinite.l0 k ab (ab.length : Int) 0 l0_0 l0_1)) else (some false))) = some r := h
 clear h
 replace H := Option.bind_eq_some_iff.mp H
 obtain ⟨aB, A20, H⟩ := H
 have A2 := am_ A20
 clear A20
 by_cases c3 : aB = true
 ·subst c3
  have H1 : ((impl_closure.f k l0_0 l0_1).bind fun ab => (impl_IsFinite.l0 k ab (ab.length : Int) 0 l0_0 l0_1)) = some r := by rw [if_pos rfl] at H; exact H
  clear H
  have H := H1
  clear H1
  replace H := Option.bind_eq_some_iff.mp H
  obtain ⟨ab, A40, H⟩ := H
  replace H : (impl_IsFinite.l0 k ab (ab.length : Int) 0 l0_0 l0_1) = some r := H
  have A4 := am_ A40
  clear A40
  have H' := am_ H
  clear H
  go_enter Try.func9, Try.ntmps9
  go_wp2_with (first | ((with_reducible refine gate_dst (N := 1) rfl ?_); refine box_event ?hg (N := 1) ?hd (cs := #[.slice A0_0 l0_0.length c0_0, .slice A0_1 l0_1.length c0_1]) (t := 28) ?hr ?_; (case hd => rfl); (case hg => rfl); (case hr => first | (go_simp; done) | (go_simp; rfl)); intro ai hg w5 hbox hb; replace ad := am_ (hbox); replace aQ := am_ ((by rw [hg]; exact (below_size (b0_ HB.out)) : w.heap.size ≤ ai)); replace ag := am_ ((by rw [hg]; exact (below_size (b0_ HB.out)) : w.heap.size ≤ ai)); replace HB := am_ (below_step (b0_ HB.out) hb); clear hb hbox hg; have aG := ck_ (v := (.slice A0_0 l0_0.length c0_0)) ad 0 rfl; have aH := ck_ (v := (.slice A0_1 l0_1.length c0_1)) ad 1 rfl; have aI := blk_frozen ad.out 0; have aJ := blk_frozen ad.out 1) | ((with_reducible refine gate_callee (f := 31) rfl ?_); refine gL_ (some 6) Try.func31 #[.agg #[.slice A0_0 l0_0.length c0_0, .slice A0_1 l0_1.length c0_1]] ?_; (with_reducible refine (impl_IsValidDfa.calls _ _ l0_0 _ _ l0_1 true _ ?side1 ?side2 ?side3 ?side4 A2.out).mono ?_); (case side1 => exact rc_ (Kd.C_below aq.out HB.out)); (case side2 => exact ar.out); (case side3 => exact rc_ (Kd.C_below au.out HB.out)); (case side4 => exact av.out); rintro e w7 ⟨rfl, hb⟩; refine ⟨_, rfl, ?_⟩; have n0_ := am_ (blk_below (rb_ ad.out) hb); have n1_ := am_ (below_step (b1_ HB.out ag.out) hb); clear ad; clear HB; have ad := n0_; have HB := n1_; clear n0_ n1_; (try clear hb); (try clear hb2); (try clear hk); (try clear hi); have aK := ck_ (v := (.slice A0_0 l0_0.length c0_0)) ad 0 rfl; have aL := ck_ (v := (.slice A0_1 l0_1.length c0_1)) ad 1 rfl; have aM := blk_frozen ad.out 0; have aN := blk_frozen ad.out 1) | ((with_reducible refine gate_callee (f := 32) rfl ?_); refine gL_ (some 9) Try.func32 #[.agg #[.slice A0_0 l0_0.length c0_0, .slice A0_1 l0_1.length c0_1]] ?_; (with_reducible refine (impl_closure.calls k _ _ l0_0 _ _ l0_1 ab _ ?side1 ?side2 ?side3 ?side4 A4.out).mono ?_); (case side1 => exact rc_ (Kd.C_below aq.out HB.out)); (case side2 => exact ar.out); (case side3 => exact rc_ (Kd.C_below au.out HB.out)); (case side4 => exact av.out); rintro e w9 ⟨aY, rfl, ho0, hb⟩; refine ⟨_, rfl, ?_⟩; have n0_ := am_ (Kd.R_lower ho0 (below_size (b1_ HB.out ag.out))); have n1_ := am_ (blk_below (rb_ ad.out) hb); have n2_ := am_ (below_step (b1_ HB.out ag.out) hb); clear ad; clear HB; have aF := n0_; have ad := n1_; have HB := n2_; clear n0_ n1_ n2_; (try clear hb); (try clear hb2); (try clear hk); (try clear hi); (try clear ho0); obtain ⟨aR, aS, aT⟩ := Kd.R_slice aF.out; subst aT))
  go_loopg [12] k (fun kq v12 w' => ∃ (aa : Int), v12 = .int .i64 aa ∧ Aside0 (impl_IsFinite.l0 kq ab (ab.length : Int) aa l0_0 l0_1 = some r) ∧ Aside0 (kq ≤ k) ∧ Aside0 (Kd.R (Kd.int .u64) 52 w' w.heap.size (fun _ => True) (.slice aR ab.length aS) ab) ∧ Aside0 (w'.heap[ai]? = some (.cells #[(.slice A0_0 l0_0.length c0_0), (.slice A0_1 l0_1.length c0_1)] 28 (0, 0))) ∧ Aside0 (Below w.heap.size w w'))
  case atStart => exact ⟨(0), (by first | rfl | (simp; done) | (simp [*]; done)), H', ⟨Nat.le_refl _⟩, ⟨by refine rr_ ?_; exact aF.out⟩, ⟨by refine rb_ ?_; exact ad.out⟩, ⟨by exact zp10_0_ HB.out ag.out⟩⟩
  case round =>
   clear H'
   try clear p2
   try clear c3
   try clear c9
   try clear aG
   try clear aH
   try clear aK
   try clear aL
   try clear aI
   try clear aJ
   try clear aM
   try clear aN
   obtain ⟨aa, rfl, HA, HK1, ae, ad, HB⟩ := hrel
   cases gk with
   | zero => exact absurd HA.out (by simp [impl_IsFinite.l0])
   | succ k1 =>
    have H := HA.out
    clear HA
    simp only [impl_IsFinite.l0] at H
    by_cases c11 : aa < (ab.length : Int)
    ·rw [if_pos c11] at H
     have c11b0 : decide (aa < (ab.length : Int)) = true := decide_eq_true c11
     clear c11
     by_cases c12 : aa = 0
     ·rw [if_pos c12] at H
      have c12b0 : (aa == 0) = true := beq_iff_eq.mpr c12
      have c12b1 : (aa != 0) = false := bne_eq_false_iff_eq.mpr c12
      clear c12
      by_cases c13 : 0 ≤ aa
      ·rw [if_pos c13] at H
       have c13b0 : decide (0 ≤ aa) = true := decide_eq_true c13
       clear c13
       by_cases c14 : aa < (ab.length : Int)
       ·rw [if_pos c14] at H
        have c14b0 : decide (aa < (ab.length : Int)) = true := decide_eq_true c14
        clear c14
        have c15b0 := eq_true (of_decide_eq_true ah_ : 0 ≤ aa)
        obtain ⟨ji16, hji16⟩ : ∃ j_ : Int, (shr .u64 (rd ab aa) aa) = j_ := ⟨_, rfl⟩
        replace H : (if (Go.bits .and .u64 (ji16) 1) = 1 then ((impl_accepting.f k1 l0_0 l0_1 (rd ab aa)).bind fun aA => (if aA = true then (some false) else (impl_IsFinite.l0 k1 ab (ab.length : Int) (wrap64 (aa + 1)) l0_0 l0_1))) else (impl_IsFinite.l0 k1 ab (ab.length : Int) (wrap64 (aa + 1)) l0_0 l0_1)) = some r := by first | (rw [hji16] at H; exact H) | (simp only [hji16] at H ⊢; exact H)
        have hji16_ : ((rd ab aa) / 2 ^ min aa.toNat 64) = ji16 := hji16
        have hji16z : aa ≤ 64 → ((rd ab aa) / 2 ^ aa.toNat) = ji16 := shr_small hji16
        (try (have hji16y := hji16z (by have q_ := eq_of_beq c12b0; omega)))
        by_cases c17 : (Go.bits .and .u64 (ji16) 1) = 1
        ·rw [if_pos c17] at H
         have c17b0 : ((Go.bits .and .u64 (ji16) 1) == 1) = true := beq_iff_eq.mpr c17
         have c17b1 : ((Go.bits .and .u64 (ji16) 1) != 1) = false := bne_eq_false_iff_eq.mpr c17
         clear c17
         replace H := Option.bind_eq_some_iff.mp H
         obtain ⟨aA, aO, H⟩ := H
         have A18 := am_ aO
         clear aO
         by_cases c19 : aA = true
         ·subst c19
          have H1 : (some false) = some r := by rw [if_pos rfl] at H; exact H
          clear H
          have H := H1
          clear H1
          obtain rfl := Option.some.inj H
          simp only [Option.some.injEq, Prod.mk.injEq] at H
          obtain ⟨rfl⟩ := H
          try go_wp2
          replace ae := am_ (Kd.R_drew ae.out)
          replace ad := am_ (blk_drew ad.out)
          replace HB := am_ (below_drew1 HB.out)
          have p223 : 0 ≤ (aa : Int) := of_decide_eq_true ah_
          have q223 : aa < (ab.length : Int) := of_decide_eq_true ah_
          obtain ⟨an, e223, aj⟩ := Kd.at_int (Kd.R_reads' ae.out).2.2 aa p223 q223
          cases e223
          replace p223 := eq_true p223
          replace q223 := eq_true q223
          have p224 : 0 ≤ (aa : Int) := of_decide_eq_true ah_
          have q224 : aa < (ab.length : Int) := of_decide_eq_true ah_
          obtain ⟨aC, e224, ao⟩ := Kd.at_int (Kd.R_reads' ae.out).2.2 aa p224 q224
          obtain rfl : an = aC := (by injection e224)
          replace p224 := eq_true p224
          replace q224 := eq_true q224
          refine start_ (n := 29) (S := fun w' => w'.cell? ⟨ai, 0, none⟩ = some (.slice A0_0 l0_0.length c0_0) ∧ w'.cell? ⟨ai, 1, none⟩ = some (.slice A0_1 l0_1.length c0_1) ∧ w'.cell? (an.add (aa).toNat) = some (.int .u64 (rd ab aa)) ∧ w'.cell? (an.add (aa).toNat) = some (.int .u64 (rd ab aa))) (ds := []) (bl 29 0) (by kernel_rfl) rfl rfl ⟨(blk_cell ad.out 0).trans rfl, (blk_cell ad.out 1).trans rfl, aj, ao⟩ (fun hHeld => ?_); refine with_tabW impl_IsFinite.tab7 impl_IsFinite.bits7 (fun HT_ HW_ => ?_)
          generalize wr.drew = w20 at ae ad HB aj ao hHeld ⊢
          refine pu_ 0 15 (bl 29 1) HT_ ?_
          refine pu_ 1 16 (bl 29 3) HT_ ?_
          refine pu_ 2 17 (bl 29 7) HT_ ?_
          refine pz_ 3 18 (bl 29 15) HT_ ?_
          refine pz_ 4 19 (bl 29 31) HT_ ?_
          refine pz_ 5 20 (bl 29 63) HT_ ?_
          refine pz_ 6 21 (bl 29 127) HT_ ?_
          refine pz_ 7 22 (bl 29 255) HT_ ?_
          refine pz_ 8 23 (bl 29 511) HT_ ?_
          refine pz_ 9 24 (bl 29 1023) HT_ ?_
          refine pu_ 10 25 (bl 29 2047) HT_ ?_
          refine pu_ 11 26 (bl 29 4095) HT_ ?_
          refine pu_ 12 27 (bl 29 8191) HT_ ?_
          refine pu_ 13 28 (bl 29 16383) HT_ ?_
          refine pu_ 14 29 (bl 29 32767) HT_ ?_
          refine pu_ 16 31 (bl 29 98303) HT_ ?_
          refine tk_ 15 30 (bl 29 131071) HT_ HW_ hHeld ?_
          refine pu_ 17 32 (bl 29 262143) HT_ ?_
          refine pu_ 18 33 (bl 29 524287) HT_ ?_
          refine pu_ 19 34 (bl 29 1048575) HT_ ?_
          refine pu_ 20 35 (bl 29 2097151) HT_ ?_
          refine pu_ 21 36 (bl 29 4194303) HT_ ?_
          refine pu_ 23 38 (bl 29 12582911) HT_ ?_
          refine pu_ 24 39 (bl 29 29360127) HT_ ?_
          refine pu_ 25 40 (bl 29 62914559) HT_ ?_
          refine tk_ 22 37 (bl 29 67108863) HT_ HW_ hHeld ?_
          refine tk_ 26 41 (bl 29 134217727) HT_ HW_ hHeld ?_
          refine on_ 27 (some 42) (bl 29 268435455) HT_ (fun K hK => ?_)
          refine gO_ Try.func33 #[.agg #[.slice A0_0 l0_0.length c0_0, .slice A0_1 l0_1.length c0_1], .int .u64 (rd ab aa)] ?_
          with_reducible refine (impl_accepting.calls k1 _ _ l0_0 _ _ l0_1 (rd ab aa) true _ ?side1 ?side2 ?side3 ?side4 A18.out).mono ?_
          (case side1 => exact rc_ (Kd.C_below aq.out HB.out))
          (case side2 => exact ar.out)
          (case side3 => exact rc_ (Kd.C_below au.out HB.out))
          (case side4 => exact av.out)
          rintro e w21 ⟨rfl, hb⟩
          have ax := (hb.cell (World.block_lt_of_cell? _ _ (hHeld.2.2.1))).trans (hHeld.2.2.1)
          have ay := (hb.cell (World.block_lt_of_cell? _ _ (hHeld.2.2.2))).trans (hHeld.2.2.2)
          refine ⟨_, rfl, ?_⟩
          replace ae := am_ (Kd.R_below (rr_ ae.out) hb)
          replace ad := am_ (blk_below (rb_ ad.out) hb)
          replace HB := am_ (below_step (b1_ HB.out ag.out) hb)
          (try clear hb)
          (try clear hb2)
          (try clear hk)
          (try clear hi)
          refine hK.out _ _ ⟨(blk_cell ad.out 0).trans rfl, (blk_cell ad.out 1).trans rfl, ax, ay⟩ (fun hHeld => ?_)
          clear hK K
          refine norm_ (a' := ?_) ?_ ?_
          rotate_left
          ·show Act.put _ (some 42) _ = _
           simp only [pn_, sz_, ss_, i64_w, i32_w]
           rfl
          refine pu_ 28 43 (bl 29 536870911) HT_ ?_
          refine done_ (done_of HT_.out (by kernel_rfl)) ?_
          try go_wp2
          go_ret
          exact ⟨by first | rfl | (simp [errW_none, errW_some] <;> rfl) | (simp only [← hji16]; first | rfl | (simp [errW_none, errW_some] <;> rfl)) | (simp [*, errW_none, errW_some] <;> rfl), by exact zp10_0_ HB.out ag.out⟩
         ·replace c19 := Bool.eq_false_iff.mpr c19
          subst c19
          have H1 : (impl_IsFinite.l0 k1 ab (ab.length : Int) (wrap64 (aa + 1)) l0_0 l0_1) = some r := by rw [if_neg (show ¬ (false = true) by decide)] at H; exact H
          clear H
          have H := H1
          clear H1
          have H' := am_ H
          clear H
          try go_wp2
          replace ae := am_ (Kd.R_drew ae.out)
          replace ad := am_ (blk_drew ad.out)
          replace HB := am_ (below_drew1 HB.out)
          have p223 : 0 ≤ (aa : Int) := of_decide_eq_true ah_
          have q223 : aa < (ab.length : Int) := of_decide_eq_true ah_
          obtain ⟨an, e223, aj⟩ := Kd.at_int (Kd.R_reads' ae.out).2.2 aa p223 q223
          cases e223
          replace p223 := eq_true p223
          replace q223 := eq_true q223
          have p224 : 0 ≤ (aa : Int) := of_decide_eq_true ah_
          have q224 : aa < (ab.length : Int) := of_decide_eq_true ah_
          obtain ⟨aC, e224, ao⟩ := Kd.at_int (Kd.R_reads' ae.out).2.2 aa p224 q224
          obtain rfl : an = aC := (by injection e224)
          replace p224 := eq_true p224
          replace q224 := eq_true q224
          refine start_ (n := 29) (S := fun w' => w'.cell? ⟨ai, 0, none⟩ = some (.slice A0_0 l0_0.length c0_0) ∧ w'.cell? ⟨ai, 1, none⟩ = some (.slice A0_1 l0_1.length c0_1) ∧ w'.cell? (an.add (aa).toNat) = some (.int .u64 (rd ab aa)) ∧ w'.cell? (an.add (aa).toNat) = some (.int .u64 (rd ab aa))) (ds := []) (bl 29 0) (by kernel_rfl) rfl rfl ⟨(blk_cell ad.out 0).trans rfl, (blk_cell ad.out 1).trans rfl, aj, ao⟩ (fun hHeld => ?_); refine with_tabW impl_IsFinite.tab7 impl_IsFinite.bits7 (fun HT_ HW_ => ?_)
          generalize wr.drew = w22 at ae ad HB aj ao hHeld ⊢
          refine pu_ 0 15 (bl 29 1) HT_ ?_
          refine pu_ 1 16 (bl 29 3) HT_ ?_
          refine pu_ 2 17 (bl 29 7) HT_ ?_
          refine pz_ 3 18 (bl 29 15) HT_ ?_
          refine pz_ 4 19 (bl 29 31) HT_ ?_
          refine pz_ 5 20 (bl 29 63) HT_ ?_
          refine pz_ 6 21 (bl 29 127) HT_ ?_
          refine pz_ 7 22 (bl 29 255) HT_ ?_
          refine pz_ 8 23 (bl 29 511) HT_ ?_
          refine pz_ 9 24 (bl 29 1023) HT_ ?_
          refine pu_ 10 25 (bl 29 2047) HT_ ?_
          refine pu_ 11 26 (bl 29 4095) HT_ ?_
          refine pu_ 12 27 (bl 29 8191) HT_ ?_
          refine pu_ 13 28 (bl 29 16383) HT_ ?_
          refine pu_ 14 29 (bl 29 32767) HT_ ?_
          refine pu_ 16 31 (bl 29 98303) HT_ ?_
          refine tk_ 15 30 (bl 29 131071) HT_ HW_ hHeld ?_
          refine pu_ 17 32 (bl 29 262143) HT_ ?_
          refine pu_ 18 33 (bl 29 524287) HT_ ?_
          refine pu_ 19 34 (bl 29 1048575) HT_ ?_
          refine pu_ 20 35 (bl 29 2097151) HT_ ?_
          refine pu_ 21 36 (bl 29 4194303) HT_ ?_
          refine pu_ 23 38 (bl 29 12582911) HT_ ?_
          refine pu_ 24 39 (bl 29 29360127) HT_ ?_
          refine pu_ 25 40 (bl 29 62914559) HT_ ?_
          refine tk_ 22 37 (bl 29 67108863) HT_ HW_ hHeld ?_
          refine tk_ 26 41 (bl 29 134217727) HT_ HW_ hHeld ?_
          refine on_ 27 (some 42) (bl 29 268435455) HT_ (fun K hK => ?_)
          refine gO_ Try.func33 #[.agg #[.slice A0_0 l0_0.length c0_0, .slice A0_1 l0_1.length c0_1], .int .u64 (rd ab aa)] ?_
          with_reducible refine (impl_accepting.calls k1 _ _ l0_0 _ _ l0_1 (rd ab aa) false _ ?side1 ?side2 ?side3 ?side4 A18.out).mono ?_
          (case side1 => exact rc_ (Kd.C_below aq.out HB.out))
          (case side2 => exact ar.out)
          (case side3 => exact rc_ (Kd.C_below au.out HB.out))
          (case side4 => exact av.out)
          rintro e w23 ⟨rfl, hb⟩
          have ax := (hb.cell (World.block_lt_of_cell? _ _ (hHeld.2.2.1))).trans (hHeld.2.2.1)
          have ay := (hb.cell (World.block_lt_of_cell? _ _ (hHeld.2.2.2))).trans (hHeld.2.2.2)
          refine ⟨_, rfl, ?_⟩
          replace ae := am_ (Kd.R_below (rr_ ae.out) hb)
          replace ad := am_ (blk_below (rb_ ad.out) hb)
          replace HB := am_ (below_step (b1_ HB.out ag.out) hb)
          (try clear hb)
          (try clear hb2)
          (try clear hk)
          (try clear hi)
          refine hK.out _ _ ⟨(blk_cell ad.out 0).trans rfl, (blk_cell ad.out 1).trans rfl, ax, ay⟩ (fun hHeld => ?_)
          clear hK K
          refine norm_ (a' := ?_) ?_ ?_
          rotate_left
          ·show Act.put _ (some 42) _ = _
           simp only [pn_, sz_, ss_, i64_w, i32_w]
           rfl
          refine pu_ 28 43 (bl 29 536870911) HT_ ?_
          refine done_ (done_of HT_.out (by kernel_rfl)) ?_
          try go_wp2
          go_roundg k1
          case measure => have := HK1.out; omega
          case rel => exact ⟨(wrap64 (aa + 1)), (by first | rfl | (simp; done) | (simp [*]; done)), H', ⟨by have := HK1.out; omega⟩, ⟨by refine rr_ ?_; exact ae.out⟩, ⟨by refine rb_ ?_; exact ad.out⟩, ⟨by exact zp10_0_ HB.out ag.out⟩⟩
        ·rw [if_neg c17] at H
         have c17b0 : ((Go.bits .and .u64 (ji16) 1) == 1) = false := beq_eq_false_iff_ne.mpr c17
         have c17b1 : ((Go.bits .and .u64 (ji16) 1) != 1) = true := bne_iff_ne.mpr c17
         have H' := am_ H
         clear H
         try go_wp2
         replace ae := am_ (Kd.R_drew ae.out)
         replace ad := am_ (blk_drew ad.out)
         replace HB := am_ (below_drew1 HB.out)
         have p223 : 0 ≤ (aa : Int) := of_decide_eq_true ah_
         have q223 : aa < (ab.length : Int) := of_decide_eq_true ah_
         obtain ⟨an, e223, aj⟩ := Kd.at_int (Kd.R_reads' ae.out).2.2 aa p223 q223
         cases e223
         replace p223 := eq_true p223
         replace q223 := eq_true q223
         refine start_ (n := 29) (S := fun w' => w'.cell? (an.add (aa).toNat) = some (.int .u64 (rd ab aa))) (ds := []) (bl 29 0) (by kernel_rfl) rfl rfl (aj) (fun hHeld => ?_); refine with_tabW impl_IsFinite.tab7 impl_IsFinite.bits7 (fun HT_ HW_ => ?_)
         generalize wr.drew = w24 at ae ad HB aj hHeld ⊢
         refine pu_ 0 15 (bl 29 1) HT_ ?_
         refine pu_ 1 16 (bl 29 3) HT_ ?_
         refine pu_ 2 17 (bl 29 7) HT_ ?_
         refine pz_ 3 18 (bl 29 15) HT_ ?_
         refine pz_ 4 19 (bl 29 31) HT_ ?_
         refine pz_ 5 20 (bl 29 63) HT_ ?_
         refine pz_ 6 21 (bl 29 127) HT_ ?_
         refine pz_ 7 22 (bl 29 255) HT_ ?_
         refine pz_ 8 23 (bl 29 511) HT_ ?_
         refine pz_ 9 24 (bl 29 1023) HT_ ?_
         refine pu_ 10 25 (bl 29 2047) HT_ ?_
         refine pu_ 11 26 (bl 29 4095) HT_ ?_
         refine pu_ 12 27 (bl 29 8191) HT_ ?_
         refine pu_ 13 28 (bl 29 16383) HT_ ?_
         refine pu_ 14 29 (bl 29 32767) HT_ ?_
         refine pu_ 16 31 (bl 29 98303) HT_ ?_
         refine tk_ 15 30 (bl 29 131071) HT_ HW_ hHeld ?_
         refine pu_ 17 32 (bl 29 262143) HT_ ?_
         refine pu_ 18 33 (bl 29 524287) HT_ ?_
         refine pu_ 19 34 (bl 29 1048575) HT_ ?_
         refine pu_ 20 35 (bl 29 2097151) HT_ ?_
         refine pu_ 21 36 (bl 29 4194303) HT_ ?_
         refine pz_ 22 37 (bl 29 8388607) HT_ ?_
         refine pz_ 23 38 (bl 29 16777215) HT_ ?_
         refine pz_ 24 39 (bl 29 33554431) HT_ ?_
         refine pz_ 25 40 (bl 29 67108863) HT_ ?_
         refine pz_ 26 41 (bl 29 134217727) HT_ ?_
         refine pz_ 27 42 (bl 29 268435455) HT_ ?_
         refine pu_ 28 43 (bl 29 536870911) HT_ ?_
         refine done_ (done_of HT_.out (by kernel_rfl)) ?_
         try go_wp2
         go_roundg k1
         case measure => have := HK1.out; omega
         case rel => exact ⟨(wrap64 (aa + 1)), (by first | rfl | (simp; done) | (simp [*]; done)), H', ⟨by have := HK1.out; omega⟩, ⟨by refine rr_ ?_; exact ae.out⟩, ⟨by refine rb_ ?_; exact ad.out⟩, ⟨by exact zp10_0_ HB.out ag.out⟩⟩
       ·rw [if_neg c14] at H
        exact absurd H (by simp)
      ·rw [if_neg c13] at H
       exact absurd H (by simp)
     ·rw [if_neg c12] at H
      have c12b0 : (aa == 0) = false := beq_eq_false_iff_ne.mpr c12
      have c12b1 : (aa != 0) = true := bne_iff_ne.mpr c12
      by_cases c25 : 0 < (ab.length : Int)
      ·rw [if_pos c25] at H
       have c25b0 : decide (0 < (ab.length : Int)) = true := decide_eq_true c25
       have c25b1 : decide (0 < ab.length) = true := decide_eq_true (by omega)
       clear c25
       by_cases c26 : 0 ≤ aa
       ·rw [if_pos c26] at H
        have c26b0 := eq_true c26
        have c26b1 : decide (0 ≤ aa) = true := decide_eq_true c26
        clear c26
        obtain ⟨ji27, hji27⟩ : ∃ j_ : Int, (shr .u64 (rd ab 0) aa) = j_ := ⟨_, rfl⟩
        replace H : (if (Go.bits .and .u64 (ji27) 1) = 1 then (if aa < (ab.length : Int) then (if (Go.bits .and .u64 (shr .u64 (rd ab aa) aa) 1) = 1 then ((impl_accepting.f k1 l0_0 l0_1 (rd ab aa)).bind fun aw => (if aw = true then (some false) else (impl_IsFinite.l0 k1 ab (ab.length : Int) (wrap64 (aa + 1)) l0_0 l0_1))) else (impl_IsFinite.l0 k1 ab (ab.length : Int) (wrap64 (aa + 1)) l0_0 l0_1)) else (none)) else (impl_IsFinite.l0 k1 ab (ab.length : Int) (wrap64 (aa + 1)) l0_0 l0_1)) = some r := by first | (rw [hji27] at H; exact H) | (simp only [hji27] at H ⊢; exact H)
        have hji27_ : ((rd ab 0) / 2 ^ min aa.toNat 64) = ji27 := hji27
        have hji27z : aa ≤ 64 → ((rd ab 0) / 2 ^ aa.toNat) = ji27 := shr_small hji27
        (try (have hji27y := hji27z (by have q_ := eq_of_beq c12b0; omega)))
        by_cases c28 : (Go.bits .and .u64 (ji27) 1) = 1
        ·rw [if_pos c28] at H
         have c28b0 : ((Go.bits .and .u64 (ji27) 1) == 1) = true := beq_iff_eq.mpr c28
         have c28b1 : ((Go.bits .and .u64 (ji27) 1) != 1) = false := bne_eq_false_iff_eq.mpr c28
         clear c28
         by_cases c29 : aa < (ab.length : Int)
         ·rw [if_pos c29] at H
          have c29b0 : decide (aa < (ab.length : Int)) = true := decide_eq_true c29
          clear c29
          have c30b0 := eq_true (of_decide_eq_true ah_ : 0 ≤ aa)
          obtain ⟨ji31, hji31⟩ : ∃ j_ : Int, (shr .u64 (rd ab aa) aa) = j_ := ⟨_, rfl⟩
          replace H : (if (Go.bits .and .u64 (ji31) 1) = 1 then ((impl_accepting.f k1 l0_0 l0_1 (rd ab aa)).bind fun aw => (if aw = true then (some false) else (impl_IsFinite.l0 k1 ab (ab.length : Int) (wrap64 (aa + 1)) l0_0 l0_1))) else (impl_IsFinite.l0 k1 ab (ab.length : Int) (wrap64 (aa + 1)) l0_0 l0_1)) = some r := by first | (rw [hji31] at H; exact H) | (simp only [hji31] at H ⊢; exact H)
          have hji31_ : ((rd ab aa) / 2 ^ min aa.toNat 64) = ji31 := hji31
          have hji31z : aa ≤ 64 → ((rd ab aa) / 2 ^ aa.toNat) = ji31 := shr_small hji31
          (try (have hji31y := hji31z (by have q_ := eq_of_beq c12b0; omega)))
          by_cases c32 : (Go.bits .and .u64 (ji31) 1) = 1
          ·rw [if_pos c32] at H
           have c32b0 : ((Go.bits .and .u64 (ji31) 1) == 1) = true := beq_iff_eq.mpr c32
           have c32b1 : ((Go.bits .and .u64 (ji31) 1) != 1) = false := bne_eq_false_iff_eq.mpr c32
           clear c32
           replace H := Option.bind_eq_some_iff.mp H
           obtain ⟨aw, aP, H⟩ := H
           have A33 := am_ aP
           clear aP
           by_cases c34 : aw = true
           ·subst c34
            have H1 : (some false) = some r := by rw [if_pos rfl] at H; exact H
            clear H
            have H := H1
            clear H1
            obtain rfl := Option.some.inj H
            simp only [Option.some.injEq, Prod.mk.injEq] at H
            obtain ⟨rfl⟩ := H
            try go_wp2
            replace ae := am_ (Kd.R_drew ae.out)
            replace ad := am_ (blk_drew ad.out)
            replace HB := am_ (below_drew1 HB.out)
            have p226 : 0 ≤ (0 : Int) := (by omega)
            have q226 : 0 < (ab.length : Int) := of_decide_eq_true ah_
            obtain ⟨ah, e226, af⟩ := Kd.at_int (Kd.R_reads' ae.out).2.2 0 p226 q226
            cases e226
            have qi226 : (0 < ab.length) = True := eq_true (by omega)
            (try rw [show ((0 : Int)).toNat = 0 from rfl] at af)
            (try rw [Addr.add_zero'] at af)
            replace p226 := eq_true p226
            replace q226 := eq_true q226
            have p227 : 0 ≤ (aa : Int) := of_decide_eq_true ah_
            have q227 : aa < (ab.length : Int) := of_decide_eq_true ah_
            obtain ⟨az, e227, ak⟩ := Kd.at_int (Kd.R_reads' ae.out).2.2 aa p227 q227
            obtain rfl : ah = az := (by injection e227)
            replace p227 := eq_true p227
            replace q227 := eq_true q227
            have p228 : 0 ≤ (aa : Int) := of_decide_eq_true ah_
            have q228 : aa < (ab.length : Int) := of_decide_eq_true ah_
            obtain ⟨aD, e228, ap⟩ := Kd.at_int (Kd.R_reads' ae.out).2.2 aa p228 q228
            obtain rfl : ah = aD := (by injection e228)
            replace p228 := eq_true p228
            replace q228 := eq_true q228
            refine start_ (n := 29) (S := fun w' => w'.cell? ⟨ai, 0, none⟩ = some (.slice A0_0 l0_0.length c0_0) ∧ w'.cell? ⟨ai, 1, none⟩ = some (.slice A0_1 l0_1.length c0_1) ∧ w'.cell? ah = some (.int .u64 (rd ab 0)) ∧ w'.cell? (ah.add (aa).toNat) = some (.int .u64 (rd ab aa)) ∧ w'.cell? (ah.add (aa).toNat) = some (.int .u64 (rd ab aa))) (ds := []) (bl 29 0) (by kernel_rfl) rfl rfl ⟨(blk_cell ad.out 0).trans rfl, (blk_cell ad.out 1).trans rfl, af, ak, ap⟩ (fun hHeld => ?_); refine with_tabW impl_IsFinite.tab7 impl_IsFinite.bits7 (fun HT_ HW_ => ?_)
            generalize wr.drew = w35 at ae ad HB af ak ap hHeld ⊢
            refine pu_ 0 15 (bl 29 1) HT_ ?_
            refine pu_ 1 16 (bl 29 3) HT_ ?_
            refine pu_ 2 17 (bl 29 7) HT_ ?_
            refine pu_ 3 18 (bl 29 15) HT_ ?_
            refine pu_ 4 19 (bl 29 31) HT_ ?_
            refine pu_ 6 21 (bl 29 95) HT_ ?_
            refine tk_ 5 20 (bl 29 127) HT_ HW_ hHeld ?_
            refine pu_ 7 22 (bl 29 255) HT_ ?_
            refine pu_ 8 23 (bl 29 511) HT_ ?_
            refine pu_ 9 24 (bl 29 1023) HT_ ?_
            refine pu_ 10 25 (bl 29 2047) HT_ ?_
            refine pu_ 11 26 (bl 29 4095) HT_ ?_
            refine pu_ 12 27 (bl 29 8191) HT_ ?_
            refine pu_ 13 28 (bl 29 16383) HT_ ?_
            refine pu_ 14 29 (bl 29 32767) HT_ ?_
            refine pu_ 16 31 (bl 29 98303) HT_ ?_
            refine tk_ 15 30 (bl 29 131071) HT_ HW_ hHeld ?_
            refine pu_ 17 32 (bl 29 262143) HT_ ?_
            refine pu_ 18 33 (bl 29 524287) HT_ ?_
            refine pu_ 19 34 (bl 29 1048575) HT_ ?_
            refine pu_ 20 35 (bl 29 2097151) HT_ ?_
            refine pu_ 21 36 (bl 29 4194303) HT_ ?_
            refine pu_ 23 38 (bl 29 12582911) HT_ ?_
            refine pu_ 24 39 (bl 29 29360127) HT_ ?_
            refine pu_ 25 40 (bl 29 62914559) HT_ ?_
            refine tk_ 22 37 (bl 29 67108863) HT_ HW_ hHeld ?_
            refine tk_ 26 41 (bl 29 134217727) HT_ HW_ hHeld ?_
            refine on_ 27 (some 42) (bl 29 268435455) HT_ (fun K hK => ?_)
            refine gO_ Try.func33 #[.agg #[.slice A0_0 l0_0.length c0_0, .slice A0_1 l0_1.length c0_1], .int .u64 (rd ab aa)] ?_
            with_reducible refine (impl_accepting.calls k1 _ _ l0_0 _ _ l0_1 (rd ab aa) true _ ?side1 ?side2 ?side3 ?side4 A33.out).mono ?_
            (case side1 => exact rc_ (Kd.C_below aq.out HB.out))
            (case side2 => exact ar.out)
            (case side3 => exact rc_ (Kd.C_below au.out HB.out))
            (case side4 => exact av.out)
            rintro e w36 ⟨rfl, hb⟩
            have ax := (hb.cell (World.block_lt_of_cell? _ _ (hHeld.2.2.1))).trans (hHeld.2.2.1)
            have ay := (hb.cell (World.block_lt_of_cell? _ _ (hHeld.2.2.2.1))).trans (hHeld.2.2.2.1)
            have aE := (hb.cell (World.block_lt_of_cell? _ _ (hHeld.2.2.2.2))).trans (hHeld.2.2.2.2)
            refine ⟨_, rfl, ?_⟩
            replace ae := am_ (Kd.R_below (rr_ ae.out) hb)
            replace ad := am_ (blk_below (rb_ ad.out) hb)
            replace HB := am_ (below_step (b1_ HB.out ag.out) hb)
            (try clear hb)
            (try clear hb2)
            (try clear hk)
            (try clear hi)
            refine hK.out _ _ ⟨(blk_cell ad.out 0).trans rfl, (blk_cell ad.out 1).trans rfl, ax, ay, aE⟩ (fun hHeld => ?_)
            clear hK K
            refine norm_ (a' := ?_) ?_ ?_
            rotate_left
            ·show Act.put _ (some 42) _ = _
             simp only [pn_, sz_, ss_, i64_w, i32_w]
             rfl
            refine pu_ 28 43 (bl 29 536870911) HT_ ?_
            refine done_ (done_of HT_.out (by kernel_rfl)) ?_
            try go_wp2
            go_ret
            exact ⟨by first | rfl | (simp [errW_none, errW_some] <;> rfl) | (simp only [← hji27, ← hji31]; first | rfl | (simp [errW_none, errW_some] <;> rfl)) | (simp [*, errW_none, errW_some] <;> rfl), by exact zp10_0_ HB.out ag.out⟩
           ·replace c34 := Bool.eq_false_iff.mpr c34
            subst c34
            have H1 : (impl_IsFinite.l0 k1 ab (ab.length : Int) (wrap64 (aa + 1)) l0_0 l0_1) = some r := by rw [if_neg (show ¬ (false = true) by decide)] at H; exact H
            clear H
            have H := H1
            clear H1
            have H' := am_ H
            clear H
            try go_wp2
            replace ae := am_ (Kd.R_drew ae.out)
            replace ad := am_ (blk_drew ad.out)
            replace HB := am_ (below_drew1 HB.out)
            have p226 : 0 ≤ (0 : Int) := (by omega)
            have q226 : 0 < (ab.length : Int) := of_decide_eq_true ah_
            obtain ⟨ah, e226, af⟩ := Kd.at_int (Kd.R_reads' ae.out).2.2 0 p226 q226
            cases e226
            have qi226 : (0 < ab.length) = True := eq_true (by omega)
            (try rw [show ((0 : Int)).toNat = 0 from rfl] at af)
            (try rw [Addr.add_zero'] at af)
            replace p226 := eq_true p226
            replace q226 := eq_true q226
            have p227 : 0 ≤ (aa : Int) := of_decide_eq_true ah_
            have q227 : aa < (ab.length : Int) := of_decide_eq_true ah_
            obtain ⟨az, e227, ak⟩ := Kd.at_int (Kd.R_reads' ae.out).2.2 aa p227 q227
            obtain rfl : ah = az := (by injection e227)
            replace p227 := eq_true p227
            replace q227 := eq_true q227
            have p228 : 0 ≤ (aa : Int) := of_decide_eq_true ah_
            have q228 : aa < (ab.length : Int) := of_decide_eq_true ah_
            obtain ⟨aD, e228, ap⟩ := Kd.at_int (Kd.R_reads' ae.out).2.2 aa p228 q228
            obtain rfl : ah = aD := (by injection e228)
            replace p228 := eq_true p228
            replace q228 := eq_true q228
            refine start_ (n := 29) (S := fun w' => w'.cell? ⟨ai, 0, none⟩ = some (.slice A0_0 l0_0.length c0_0) ∧ w'.cell? ⟨ai, 1, none⟩ = some (.slice A0_1 l0_1.length c0_1) ∧ w'.cell? ah = some (.int .u64 (rd ab 0)) ∧ w'.cell? (ah.add (aa).toNat) = some (.int .u64 (rd ab aa)) ∧ w'.cell? (ah.add (aa).toNat) = some (.int .u64 (rd ab aa))) (ds := []) (bl 29 0) (by kernel_rfl) rfl rfl ⟨(blk_cell ad.out 0).trans rfl, (blk_cell ad.out 1).trans rfl, af, ak, ap⟩ (fun hHeld => ?_); refine with_tabW impl_IsFinite.tab7 impl_IsFinite.bits7 (fun HT_ HW_ => ?_)
            generalize wr.drew = w37 at ae ad HB af ak ap hHeld ⊢
            refine pu_ 0 15 (bl 29 1) HT_ ?_
            refine pu_ 1 16 (bl 29 3) HT_ ?_
            refine pu_ 2 17 (bl 29 7) HT_ ?_
            refine pu_ 3 18 (bl 29 15) HT_ ?_
            refine pu_ 4 19 (bl 29 31) HT_ ?_
            refine pu_ 6 21 (bl 29 95) HT_ ?_
            refine tk_ 5 20 (bl 29 127) HT_ HW_ hHeld ?_
            refine pu_ 7 22 (bl 29 255) HT_ ?_
            refine pu_ 8 23 (bl 29 511) HT_ ?_
            refine pu_ 9 24 (bl 29 1023) HT_ ?_
            refine pu_ 10 25 (bl 29 2047) HT_ ?_
            refine pu_ 11 26 (bl 29 4095) HT_ ?_
            refine pu_ 12 27 (bl 29 8191) HT_ ?_
            refine pu_ 13 28 (bl 29 16383) HT_ ?_
            refine pu_ 14 29 (bl 29 32767) HT_ ?_
            refine pu_ 16 31 (bl 29 98303) HT_ ?_
            refine tk_ 15 30 (bl 29 131071) HT_ HW_ hHeld ?_
            refine pu_ 17 32 (bl 29 262143) HT_ ?_
            refine pu_ 18 33 (bl 29 524287) HT_ ?_
            refine pu_ 19 34 (bl 29 1048575) HT_ ?_
            refine pu_ 20 35 (bl 29 2097151) HT_ ?_
            refine pu_ 21 36 (bl 29 4194303) HT_ ?_
            refine pu_ 23 38 (bl 29 12582911) HT_ ?_
            refine pu_ 24 39 (bl 29 29360127) HT_ ?_
            refine pu_ 25 40 (bl 29 62914559) HT_ ?_
            refine tk_ 22 37 (bl 29 67108863) HT_ HW_ hHeld ?_
            refine tk_ 26 41 (bl 29 134217727) HT_ HW_ hHeld ?_
            refine on_ 27 (some 42) (bl 29 268435455) HT_ (fun K hK => ?_)
            refine gO_ Try.func33 #[.agg #[.slice A0_0 l0_0.length c0_0, .slice A0_1 l0_1.length c0_1], .int .u64 (rd ab aa)] ?_
            with_reducible refine (impl_accepting.calls k1 _ _ l0_0 _ _ l0_1 (rd ab aa) false _ ?side1 ?side2 ?side3 ?side4 A33.out).mono ?_
            (case side1 => exact rc_ (Kd.C_below aq.out HB.out))
            (case side2 => exact ar.out)
            (case side3 => exact rc_ (Kd.C_below au.out HB.out))
            (case side4 => exact av.out)
            rintro e w38 ⟨rfl, hb⟩
            have ax := (hb.cell (World.block_lt_of_cell? _ _ (hHeld.2.2.1))).trans (hHeld.2.2.1)
            have ay := (hb.cell (World.block_lt_of_cell? _ _ (hHeld.2.2.2.1))).trans (hHeld.2.2.2.1)
            have aE := (hb.cell (World.block_lt_of_cell? _ _ (hHeld.2.2.2.2))).trans (hHeld.2.2.2.2)
            refine ⟨_, rfl, ?_⟩
            replace ae := am_ (Kd.R_below (rr_ ae.out) hb)
            replace ad := am_ (blk_below (rb_ ad.out) hb)
            replace HB := am_ (below_step (b1_ HB.out ag.out) hb)
            (try clear hb)
            (try clear hb2)
            (try clear hk)
            (try clear hi)
            refine hK.out _ _ ⟨(blk_cell ad.out 0).trans rfl, (blk_cell ad.out 1).trans rfl, ax, ay, aE⟩ (fun hHeld => ?_)
            clear hK K
            refine norm_ (a' := ?_) ?_ ?_
            rotate_left
            ·show Act.put _ (some 42) _ = _
             simp only [pn_, sz_, ss_, i64_w, i32_w]
             rfl
            refine pu_ 28 43 (bl 29 536870911) HT_ ?_
            refine done_ (done_of HT_.out (by kernel_rfl)) ?_
            try go_wp2
            go_roundg k1
            case measure => have := HK1.out; omega
            case rel => exact ⟨(wrap64 (aa + 1)), (by first | rfl | (simp; done) | (simp [*]; done)), H', ⟨by have := HK1.out; omega⟩, ⟨by refine rr_ ?_; exact ae.out⟩, ⟨by refine rb_ ?_; exact ad.out⟩, ⟨by exact zp10_0_ HB.out ag.out⟩⟩
          ·rw [if_neg c32] at H
           have c32b0 : ((Go.bits .and .u64 (ji31) 1) == 1) = false := beq_eq_false_iff_ne.mpr c32
           have c32b1 : ((Go.bits .and .u64 (ji31) 1) != 1) = true := bne_iff_ne.mpr c32
           have H' := am_ H
           clear H
           try go_wp2
           replace ae := am_ (Kd.R_drew ae.out)
           replace ad := am_ (blk_drew ad.out)
           replace HB := am_ (below_drew1 HB.out)
           have p226 : 0 ≤ (0 : Int) := (by omega)
           have q226 : 0 < (ab.length : Int) := of_decide_eq_true ah_
           obtain ⟨ah, e226, af⟩ := Kd.at_int (Kd.R_reads' ae.out).2.2 0 p226 q226
           cases e226
           have qi226 : (0 < ab.length) = True := eq_true (by omega)
           (try rw [show ((0 : Int)).toNat = 0 from rfl] at af)
           (try rw [Addr.add_zero'] at af)
           replace p226 := eq_true p226
           replace q226 := eq_true q226
           have p227 : 0 ≤ (aa : Int) := of_decide_eq_true ah_
           have q227 : aa < (ab.length : Int) := of_decide_eq_true ah_
           obtain ⟨az, e227, ak⟩ := Kd.at_int (Kd.R_reads' ae.out).2.2 aa p227 q227
           obtain rfl : ah = az := (by injection e227)
           replace p227 := eq_true p227
           replace q227 := eq_true q227
           refine start_ (n := 29) (S := fun w' => w'.cell? ah = some (.int .u64 (rd ab 0)) ∧ w'.cell? (ah.add (aa).toNat) = some (.int .u64 (rd ab aa))) (ds := []) (bl 29 0) (by kernel_rfl) rfl rfl ⟨af, ak⟩ (fun hHeld => ?_); refine with_tabW impl_IsFinite.tab7 impl_IsFinite.bits7 (fun HT_ HW_ => ?_)
           generalize wr.drew = w39 at ae ad HB af ak hHeld ⊢
           refine pu_ 0 15 (bl 29 1) HT_ ?_
           refine pu_ 1 16 (bl 29 3) HT_ ?_
           refine pu_ 2 17 (bl 29 7) HT_ ?_
           refine pu_ 3 18 (bl 29 15) HT_ ?_
           refine pu_ 4 19 (bl 29 31) HT_ ?_
           refine pu_ 6 21 (bl 29 95) HT_ ?_
           refine tk_ 5 20 (bl 29 127) HT_ HW_ hHeld ?_
           refine pu_ 7 22 (bl 29 255) HT_ ?_
           refine pu_ 8 23 (bl 29 511) HT_ ?_
           refine pu_ 9 24 (bl 29 1023) HT_ ?_
           refine pu_ 10 25 (bl 29 2047) HT_ ?_
           refine pu_ 11 26 (bl 29 4095) HT_ ?_
           refine pu_ 12 27 (bl 29 8191) HT_ ?_
           refine pu_ 13 28 (bl 29 16383) HT_ ?_
           refine pu_ 14 29 (bl 29 32767) HT_ ?_
           refine pu_ 16 31 (bl 29 98303) HT_ ?_
           refine tk_ 15 30 (bl 29 131071) HT_ HW_ hHeld ?_
           refine pu_ 17 32 (bl 29 262143) HT_ ?_
           refine pu_ 18 33 (bl 29 524287) HT_ ?_
           refine pu_ 19 34 (bl 29 1048575) HT_ ?_
           refine pu_ 20 35 (bl 29 2097151) HT_ ?_
           refine pu_ 21 36 (bl 29 4194303) HT_ ?_
           refine pz_ 22 37 (bl 29 8388607) HT_ ?_
           refine pz_ 23 38 (bl 29 16777215) HT_ ?_
           refine pz_ 24 39 (bl 29 33554431) HT_ ?_
           refine pz_ 25 40 (bl 29 67108863) HT_ ?_
           refine pz_ 26 41 (bl 29 134217727) HT_ ?_
           refine pz_ 27 42 (bl 29 268435455) HT_ ?_
           refine pu_ 28 43 (bl 29 536870911) HT_ ?_
           refine done_ (done_of HT_.out (by kernel_rfl)) ?_
           try go_wp2
           go_roundg k1
           case measure => have := HK1.out; omega
           case rel => exact ⟨(wrap64 (aa + 1)), (by first | rfl | (simp; done) | (simp [*]; done)), H', ⟨by have := HK1.out; omega⟩, ⟨by refine rr_ ?_; exact ae.out⟩, ⟨by refine rb_ ?_; exact ad.out⟩, ⟨by exact zp10_0_ HB.out ag.out⟩⟩
         ·rw [if_neg c29] at H
          exact absurd H (by simp)
        ·rw [if_neg c28] at H
         have c28b0 : ((Go.bits .and .u64 (ji27) 1) == 1) = false := beq_eq_false_iff_ne.mpr c28
         have c28b1 : ((Go.bits .and .u64 (ji27) 1) != 1) = true := bne_iff_ne.mpr c28
         have H' := am_ H
         clear H
         try go_wp2
         replace ae := am_ (Kd.R_drew ae.out)
         replace ad := am_ (blk_drew ad.out)
         replace HB := am_ (below_drew1 HB.out)
         have p226 : 0 ≤ (0 : Int) := (by omega)
         have q226 : 0 < (ab.length : Int) := of_decide_eq_true ah_
         obtain ⟨ah, e226, af⟩ := Kd.at_int (Kd.R_reads' ae.out).2.2 0 p226 q226
         cases e226
         have qi226 : (0 < ab.length) = True := eq_true (by omega)
         (try rw [show ((0 : Int)).toNat = 0 from rfl] at af)
         (try rw [Addr.add_zero'] at af)
         replace p226 := eq_true p226
         replace q226 := eq_true q226
         refine start_ (n := 29) (S := fun w' => w'.cell? ah = some (.int .u64 (rd ab 0))) (ds := []) (bl 29 0) (by kernel_rfl) rfl rfl (af) (fun hHeld => ?_); refine with_tabW impl_IsFinite.tab7 impl_IsFinite.bits7 (fun HT_ HW_ => ?_)
         generalize wr.drew = w40 at ae ad HB af hHeld ⊢
         refine pu_ 0 15 (bl 29 1) HT_ ?_
         refine pu_ 1 16 (bl 29 3) HT_ ?_
         refine pu_ 2 17 (bl 29 7) HT_ ?_
         refine pu_ 3 18 (bl 29 15) HT_ ?_
         refine pu_ 4 19 (bl 29 31) HT_ ?_
         refine pu_ 6 21 (bl 29 95) HT_ ?_
         refine tk_ 5 20 (bl 29 127) HT_ HW_ hHeld ?_
         refine pu_ 7 22 (bl 29 255) HT_ ?_
         refine pu_ 8 23 (bl 29 511) HT_ ?_
         refine pu_ 9 24 (bl 29 1023) HT_ ?_
         refine pu_ 10 25 (bl 29 2047) HT_ ?_
         refine pu_ 11 26 (bl 29 4095) HT_ ?_
         refine pz_ 12 27 (bl 29 8191) HT_ ?_
         refine pz_ 13 28 (bl 29 16383) HT_ ?_
         refine pz_ 14 29 (bl 29 32767) HT_ ?_
         refine pz_ 15 30 (bl 29 65535) HT_ ?_
         refine pz_ 16 31 (bl 29 131071) HT_ ?_
         refine pz_ 17 32 (bl 29 262143) HT_ ?_
         refine pz_ 18 33 (bl 29 524287) HT_ ?_
         refine pz_ 19 34 (bl 29 1048575) HT_ ?_
         refine pu_ 20 35 (bl 29 2097151) HT_ ?_
         refine pu_ 21 36 (bl 29 4194303) HT_ ?_
         refine pz_ 22 37 (bl 29 8388607) HT_ ?_
         refine pz_ 23 38 (bl 29 16777215) HT_ ?_
         refine pz_ 24 39 (bl 29 33554431) HT_ ?_
         refine pz_ 25 40 (bl 29 67108863) HT_ ?_
         refine pz_ 26 41 (bl 29 134217727) HT_ ?_
         refine pz_ 27 42 (bl 29 268435455) HT_ ?_
         refine pu_ 28 43 (bl 29 536870911) HT_ ?_
         refine done_ (done_of HT_.out (by kernel_rfl)) ?_
         try go_wp2
         go_roundg k1
         case measure => have := HK1.out; omega
         case rel => exact ⟨(wrap64 (aa + 1)), (by first | rfl | (simp; done) | (simp [*]; done)), H', ⟨by have := HK1.out; omega⟩, ⟨by refine rr_ ?_; exact ae.out⟩, ⟨by refine rb_ ?_; exact ad.out⟩, ⟨by exact zp10_0_ HB.out ag.out⟩⟩
       ·rw [if_neg c26] at H
        exact absurd H (by simp)
      ·rw [if_neg c25] at H
       exact absurd H (by simp)
    ·rw [if_neg c11] at H
     have c11b0 : decide (aa < (ab.length : Int)) = false := decide_eq_false c11
     clear c11
     obtain rfl := Option.some.inj H
     simp only [Option.some.injEq, Prod.mk.injEq] at H
     obtain ⟨rfl⟩ := H
     go_wp2
     go_ret
     exact ⟨by first | rfl | (simp [errW_none, errW_some] <;> rfl) | (simp [*, errW_none, errW_some] <;> rfl), by exact zp10_0_ HB.out ag.out⟩
 ·replace c3 := Bool.eq_false_iff.mpr c3
  subst c3
  have H1 : (some false) = some r := by rw [if_neg (show ¬ (false = true) by decide)] at H; exact H
  clear H
  have H := H1
  clear H1
  obtain rfl := Option.some.inj H
  simp only [Option.some.injEq, Prod.mk.injEq] at H
  obtain ⟨rfl⟩ := H
  go_enter Try.func9, Try.ntmps9
  go_wp2_with (first | ((with_reducible refine gate_dst (N := 1) rfl ?_); refine box_event ?hg (N := 1) ?hd (cs := #[.slice A0_0 l0_0.length c0_0, .slice A0_1 l0_1.length c0_1]) (t := 28) ?hr ?_; (case hd => rfl); (case hg => rfl); (case hr => first | (go_simp; done) | (go_simp; rfl)); intro ai hg w41 hbox hb; replace ad := am_ (hbox); replace aQ := am_ ((by rw [hg]; exact (below_size (b0_ HB.out)) : w.heap.size ≤ ai)); replace ag := am_ ((by rw [hg]; exact (below_size (b0_ HB.out)) : w.heap.size ≤ ai)); replace HB := am_ (below_step (b0_ HB.out) hb); clear hb hbox hg; have aU := ck_ (v := (.slice A0_0 l0_0.length c0_0)) ad 0 rfl; have aV := ck_ (v := (.slice A0_1 l0_1.length c0_1)) ad 1 rfl; have aW := blk_frozen ad.out 0; have aX := blk_frozen ad.out 1) | ((with_reducible refine gate_callee (f := 31) rfl ?_); refine gL_ (some 6) Try.func31 #[.agg #[.slice A0_0 l0_0.length c0_0, .slice A0_1 l0_1.length c0_1]] ?_; (with_reducible refine (impl_IsValidDfa.calls _ _ l0_0 _ _ l0_1 false _ ?side1 ?side2 ?side3 ?side4 A2.out).mono ?_); (case side1 => exact rc_ (Kd.C_below aq.out HB.out)); (case side2 => exact ar.out); (case side3 => exact rc_ (Kd.C_below au.out HB.out)); (case side4 => exact av.out); rintro e w43 ⟨rfl, hb⟩; refine ⟨_, rfl, ?_⟩; have n0_ := am_ (blk_below (rb_ ad.out) hb); have n1_ := am_ (below_step (b1_ HB.out ag.out) hb); clear ad; clear HB; have ad := n0_; have HB := n1_; clear n0_ n1_; (try clear hb); (try clear hb2); (try clear hk); (try clear hi)))
  go_ret
  exact ⟨by first | rfl | (simp [errW_none, errW_some] <;> rfl) | (simp [*, errW_none, errW_some] <;> rfl), by exact zp10_0_ HB.out ag.out⟩
end Go.Proofs.Ytpgdhpnmagmooaa.P
end
